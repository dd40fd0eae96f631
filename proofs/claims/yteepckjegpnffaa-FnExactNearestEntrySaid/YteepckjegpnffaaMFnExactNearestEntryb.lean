/- Walks and plain lemmas for the law FnExactNearestEntry, part b. -/
import Derived.Test.YteepckjegpnffaaMFnExactNearestEntrya
import Derived.Test.YteepckjegpnffaaWWords
import Derived.Test.YteepckjegpnffaaWMore
import Derived.Laws.Tables
import Derived.Lib.Hide
import Derived.BigRegion
import Derived.Deep.RegionHeld3
import Derived.Test.YteepckjegpnffaaWInv
import Derived.Test.YteepckjegpnffaaWInvWords
import Derived.Test.YteepckjegpnffaaWLast
import Derived.IntWalk
/-! ### Px21 -/
namespace Go.Proofs.Yteepckjegpnffaa.P
open Go.RowKit Go.Proofs.YteepckjegpnffaaW.PrintWords Go.Proofs.YteepckjegpnffaaW.PrintLast Go.Proofs.YteepckjegpnffaaW.PrintMore
attribute [local go_sem] max2_int min2_int max_two min_two max_three min_three max_four min_four   -- for this text's walks alone
set_option linter.unusedVariables false
set_option linter.unusedSimpArgs false

/-! ### laws_toInt64S: function 117 -/
def laws_toInt64S.l0 : Nat → List Int → List Int → Int → Option (List Int)
  | 0, _, _, _ => none
  | k + 1, x0, x3, x4 => if x4 < (x0.length : Int) then (if 0 ≤ x4 then (if x4 < (x3.length : Int) then (laws_toInt64S.l0 k x0 (x3.set (x4 : Int).toNat (rd x0 x4)) (wrap64 (x4 + 1))) else (none)) else (none)) else (some x3)
def laws_toInt64S.f (k : Nat) (l0 : List Int) : Option (List Int) := if 0 ≤ (l0.length : Int) then (if ((l0.length : Int) : Int).toNat ≤ 35184372088832 then (laws_toInt64S.l0 k l0 (List.replicate ((l0.length : Int) : Int).toNat 0) 0) else (none)) else (none)
theorem laws_toInt64S.mono_l : ∀ k, (∀ y0 y1 y2, LeO (laws_toInt64S.l0 k y0 y1 y2) (laws_toInt64S.l0 (k + 1) y0 y1 y2))
  | 0 => fun _ _ _ r h => by simp [laws_toInt64S.l0] at h
  | k + 1 => by
    have ih0 := laws_toInt64S.mono_l k
    · intro y0 y1 y2
      unfold laws_toInt64S.l0
      repeat' first
      | (with_reducible exact ih0 _ _ _)
      | (with_reducible exact LeO.refl _)
      | (with_reducible exact LeO.none _)
      | (with_reducible refine LeO.ite ?_ ?_)
      | (with_reducible refine LeO.bind ?_ (fun _ => ?_))
      | exact ih0 _ _ _
      | exact LeO.none _
      | refine LeO.ite ?_ ?_
      | refine LeO.bind ?_ (fun _ => ?_)
theorem laws_toInt64S.mono : ∀ a0 k, LeO (laws_toInt64S.f k a0) (laws_toInt64S.f (k + 1) a0) := by
  intro a0 k
  have ih0 := laws_toInt64S.mono_l k
  unfold laws_toInt64S.f
  repeat' first
      | (with_reducible exact ih0 _ _ _)
      | (with_reducible exact LeO.refl _)
      | (with_reducible exact LeO.none _)
      | (with_reducible refine LeO.ite ?_ ?_)
      | (with_reducible refine LeO.bind ?_ (fun _ => ?_))
      | exact ih0 _ _ _
      | exact LeO.none _
      | refine LeO.ite ?_ ?_
      | refine LeO.bind ?_ (fun _ => ?_)
set_option maxHeartbeats 8000000 in
set_option maxRecDepth 100000 in
theorem laws_toInt64S.calls (k : Nat) (A0 : Option Addr) (c0 : Nat) (l0 : List Int) (r : List Int) (w : World) (hr0 : Kd.C (Kd.int .i64) w A0 l0.length l0) (hc0 : l0.length ≤ c0) (h : laws_toInt64S.f k l0 = some r) :
    Calls Try.prog 117 #[.slice A0 l0.length c0] w fun e w' => ∃ v0_ : Value, e = .returned (v0_) ∧ Kd.R (Kd.int .i64) 2 w' w.heap.size (fun _ => True) v0_ r ∧ Below w.heap.size w w' := by
  have HR0 := Aside0.mk hr0
  have HC0 := Aside0.mk hc0
  clear hr0 hc0
  have HB := Aside0.mk (Below.refl w.heap.size w)
  have H : (if 0 ≤ (l0.length : Int) then (if ((l0.length : Int) : Int).toNat ≤ 35184372088832 then (laws_toInt64S.l0 k l0 (List.replicate ((l0.length : Int) : Int).toNat 0) 0) else (none)) else (none)) = some r := h
  clear h
  by_cases c2 : 0 ≤ (l0.length : Int)
  · rw [if_pos c2] at H
    have c2b0 := eq_true c2
    have c2b1 : decide (0 ≤ (l0.length : Int)) = true := decide_eq_true c2
    clear c2
    by_cases c3 : ((l0.length : Int) : Int).toNat ≤ 35184372088832
    · rw [if_pos c3] at H
      have c3b0 := eq_true c3
      have c3b1 : decide (((l0.length : Int) : Int).toNat ≤ 35184372088832) = true := decide_eq_true c3
      clear c3
      obtain ⟨y167, hy167⟩ : ∃ y_ : List Int, y_ = (List.replicate ((l0.length : Int) : Int).toNat 0) := ⟨_, rfl⟩
      replace H : (laws_toInt64S.l0 k l0 y167 0) = some r := by first | (rw [hy167]; with_reducible exact H) | (have H2_ := (Option.bind_some _ _).symm.trans H; rw [hy167]; with_reducible exact H2_) | (have H2_ := (Option.bind_some _ _).symm.trans H; with_reducible exact H2_) | with_reducible exact H | (rw [hy167]; exact H) | exact H
      have Ny167 := Aside0.mk hy167
      clear hy167
      have H' := Aside0.mk H
      clear H
      go_enter Try.func117, Try.ntmps117
      go_wp2_with (first | ((with_reducible refine gate_dst (N := 7) rfl ?_); refine Kd.R_make (Kd.int .i64) _ 2 rfl (N := 7) rfl 62 _ _ rfl (l0.length : Int) rfl rfl Try.underlying62 (.int .i64 0) 8 info2 rfl (by decide) (by omega) 0 (ok := fun _ => True) (okp := fun _ => True) rfl (fun _ hk => hk) trivial (of_decide_eq_true (by first | (with_reducible assumption) | assumption)) (Nat.le_trans (Nat.mul_le_mul_right _ (of_decide_eq_true (by first | (with_reducible assumption) | assumption) : (l0.length : Int).toNat ≤ 35184372088832)) (by omega)) (Below.refl _ _) (Nat.le_refl _) ?_; intro v168 w4 ho5 hb hg_ hnew_; clear hg_ hnew_; (first | rw [← Ny167.out] at ho5 | (simp only [Int.reduceToNat] at ho5; rw [← Ny167.out] at ho5)); have n0_ := Aside0.mk (Kd.R_lower ho5 (below_size (by repeat (first | (with_reducible first | exact HB.out | apply below_alloc | apply pw_below_drewN | apply below_drew1) | exact HB.out)))); have n1_ := Aside0.mk (below_step (by repeat (first | (with_reducible first | exact HB.out | apply below_alloc | apply pw_below_drewN | apply below_drew1) | exact HB.out)) hb); clear HB; have HO169 := n0_; have HB := n1_; clear n0_ n1_; clear hb ho5))
      go_loopg [4] k (fun kq v4 w' => ∃ (x3_1 : List Int) (x4_1 : Int), v4 = .int .i64 x4_1 ∧ Aside0 (laws_toInt64S.l0 kq l0 x3_1 x4_1 = some r) ∧ Aside0 (kq ≤ k) ∧ Aside0 (Kd.R (Kd.int .i64) 2 w' w.heap.size (fun _ => True) v168 x3_1) ∧ Aside0 (Below w.heap.size w w'))
      case atStart => exact ⟨(y167), (0), (by first | rfl | (simp; done) | (simp [*]; done)), H', ⟨Nat.le_refl _⟩, ⟨by (with_reducible repeat (first | apply Kd.R_alloc | apply Kd.R_drewN | apply Kd.R_drew)); exact HO169.out⟩, ⟨by repeat (first | (with_reducible first | exact HB.out | apply below_alloc | apply pw_below_drewN | apply below_drew1) | exact HB.out)⟩⟩
      case round =>
        clear H'
        try clear c1
        try clear c2
        try clear c2b0
        try clear c2b1
        try clear p2
        try clear c3
        try clear c3b0
        try clear c3b1
        obtain ⟨x3_1, x4_1, rfl, HA, HK1, HO_3, HB⟩ := hrel
        cases gk with
        | zero => exact absurd HA.out (by simp [laws_toInt64S.l0])
        | succ k1 =>
          have H := HA.out
          clear HA
          simp only [laws_toInt64S.l0] at H
          by_cases c6 : x4_1 < (l0.length : Int)
          · rw [if_pos c6] at H
            have c6b0 : decide (x4_1 < (l0.length : Int)) = true := decide_eq_true c6
            clear c6
            by_cases c7 : 0 ≤ x4_1
            · rw [if_pos c7] at H
              have c7b0 : decide (0 ≤ x4_1) = true := decide_eq_true c7
              clear c7
              by_cases c8 : x4_1 < (x3_1.length : Int)
              · rw [if_pos c8] at H
                have c8b0 : decide (x4_1 < (x3_1.length : Int)) = true := decide_eq_true c8
                clear c8
                obtain ⟨y171, hy171⟩ : ∃ y_ : List Int, y_ = (x3_1.set (x4_1 : Int).toNat (rd l0 x4_1)) := ⟨_, rfl⟩
                replace H : (laws_toInt64S.l0 k1 l0 y171 (wrap64 (x4_1 + 1))) = some r := by first | (rw [hy171]; with_reducible exact H) | (have H2_ := (Option.bind_some _ _).symm.trans H; rw [hy171]; with_reducible exact H2_) | (have H2_ := (Option.bind_some _ _).symm.trans H; with_reducible exact H2_) | with_reducible exact H | (rw [hy171]; exact H) | exact H
                have Ny171 := Aside0.mk hy171
                clear hy171
                have H' := Aside0.mk H
                clear H
                have p170 : 0 ≤ (x4_1 : Int) := of_decide_eq_true (by first | (with_reducible assumption) | assumption)
                have q170 : x4_1 < (l0.length : Int) := of_decide_eq_true (by first | (with_reducible assumption) | assumption)
                obtain ⟨ad170, e170, hx170_0⟩ := Kd.at_int HR0.out x4_1 p170 q170
                cases e170
                replace hx170_0 := (HB.out.cell (World.block_lt_of_cell? _ _ hx170_0)).trans hx170_0
                replace p170 := eq_true p170
                replace q170 := eq_true q170
                have p9 : 0 ≤ (x4_1 : Int) := of_decide_eq_true (by first | (with_reducible assumption) | assumption)
                have q9 : (x4_1 : Int) < ((x3_1.length : Int) : Int) := of_decide_eq_true (by first | (with_reducible assumption) | assumption)
                obtain ⟨go9, co9, eo9, gb9, gl9, cl9, HG9⟩ := Kd.R_form HO_3.out (by omega)
                (first | cases eo9 | (injection eo9 with ea_ en_ ec_; (first | subst ea_ | (injection ea_ with ea_; subst ea_)); subst ec_; clear en_))
                have GB9 := Aside0.mk gb9
                have GG9 := Aside0.mk HG9
                clear gb9 gl9 HG9
                obtain ⟨hx9_0, hf9_0⟩ := Kd.R_celln 0 HO_3.out (x4_1 : Int) p9 q9
                replace p9 := eq_true p9
                replace q9 := eq_true q9
                have HP10 := Kd.R_putg HO_3.out (x4_1 : Int) (rd l0 x4_1)
                go_wp2_with (first | ((with_reducible refine gate_store (t := 2) (p := 20) rfl ?_); refine store_event (t := 2) (p := 20) (v := ?vo_w11) (w1 := (wr.setCell ⟨go9, (x4_1 : Int).toNat, none⟩ (.int .i64 (rd l0 x4_1)))) ?hg ?ho ?hn ?hr ?_; (case ho => rfl); (case hg => rfl); (case hn => rfl); (case hr => first | (go_simp; done) | (go_simp; rfl)); intro w11 hw; have hg : wr.grownBy w11 (some go9) := (by rw [hw]; exact HP10.2); have hp_ : Kd.R (Kd.int .i64) 2 w11 w.heap.size (fun _ => True) (.slice (some ⟨go9, 0, none⟩) x3_1.length co9) y171 := (by rw [hw, Ny171.out]; exact HP10.1); clear HP10; have n0_ := Aside0.mk (hp_); have n1_ := Aside0.mk ((by rw [hw]; exact below_set (HB.out) GB9.out : Below w.heap.size w w11)); clear HO_3; clear HB; have HO_3 := n0_; have HB := n1_; clear n0_ n1_; clear hg hw hp_))
                go_roundg k1
                case measure => have := HK1.out; omega
                case rel => exact ⟨(y171), (wrap64 (x4_1 + 1)), (by first | rfl | (simp; done) | (simp [*]; done)), H', ⟨by have := HK1.out; omega⟩, ⟨by (with_reducible repeat (first | apply Kd.R_alloc | apply Kd.R_drewN | apply Kd.R_drew)); exact HO_3.out⟩, ⟨by repeat (first | (with_reducible first | exact HB.out | apply below_alloc | apply pw_below_drewN | apply below_drew1) | exact HB.out)⟩⟩
              · rw [if_neg c8] at H
                exact absurd H (by simp)
            · rw [if_neg c7] at H
              exact absurd H (by simp)
          · rw [if_neg c6] at H
            have c6b0 : decide (x4_1 < (l0.length : Int)) = false := decide_eq_false c6
            clear c6
            obtain rfl := Option.some.inj H
            go_wp2
            go_ret
            exact ⟨_, by first | rfl | (simp [errW_none, errW_some] <;> rfl) | (simp [*, errW_none, errW_some] <;> rfl), by (with_reducible repeat (first | apply Kd.R_alloc | apply Kd.R_drewN | apply Kd.R_drew)); exact HO_3.out, by repeat (first | (with_reducible first | exact HB.out | apply below_alloc | apply pw_below_drewN | apply below_drew1) | exact HB.out)⟩
    · rw [if_neg c3] at H
      exact absurd H (by simp)
  · rw [if_neg c2] at H
    exact absurd H (by simp)

end Go.Proofs.Yteepckjegpnffaa.P

/-! ### Px22 -/
namespace Go.Proofs.Yteepckjegpnffaa.P
open Go.RowKit Go.Proofs.YteepckjegpnffaaW.PrintWords Go.Proofs.YteepckjegpnffaaW.PrintLast Go.Proofs.YteepckjegpnffaaW.PrintMore
attribute [local go_sem] max2_int min2_int max_two min_two max_three min_three max_four min_four   -- for this text's walks alone
set_option linter.unusedVariables false
set_option linter.unusedSimpArgs false

/-! ### laws_toInt64SS: function 92 -/
def laws_toInt64SS.l0 : Nat → List (List Int) → List (List Int) → Int → Option ((List (List Int)))
  | 0, _, _, _ => none
  | k + 1, x0, x3, x4 => if x4 < (x0.length : Int) then (if 0 ≤ x4 then ((laws_toInt64S.f k (rd_L3 x0 x4)).bind fun t176 => (if x4 < (x3.length : Int) then (laws_toInt64SS.l0 k x0 (x3.set (x4 : Int).toNat t176) (wrap64 (x4 + 1))) else (none))) else (none)) else (some x3)
def laws_toInt64SS.f (k : Nat) (l0 : List (List Int)) : Option ((List (List Int))) := if 0 ≤ (l0.length : Int) then (if ((l0.length : Int) : Int).toNat ≤ 11728124029610 then (laws_toInt64SS.l0 k l0 (List.replicate ((l0.length : Int) : Int).toNat []) 0) else (none)) else (none)
theorem laws_toInt64SS.mono_l : ∀ k, (∀ y0 y1 y2, LeO (laws_toInt64SS.l0 k y0 y1 y2) (laws_toInt64SS.l0 (k + 1) y0 y1 y2))
  | 0 => fun _ _ _ r h => by simp [laws_toInt64SS.l0] at h
  | k + 1 => by
    have ih0 := laws_toInt64SS.mono_l k
    · intro y0 y1 y2
      unfold laws_toInt64SS.l0
      repeat' first
      | (with_reducible exact ih0 _ _ _)
      | (with_reducible exact laws_toInt64S.mono _ _)
      | (with_reducible exact LeO.refl _)
      | (with_reducible exact LeO.none _)
      | (with_reducible refine LeO.ite ?_ ?_)
      | (with_reducible refine LeO.bind ?_ (fun _ => ?_))
      | exact ih0 _ _ _
      | exact laws_toInt64S.mono _ _
      | exact LeO.none _
      | refine LeO.ite ?_ ?_
      | refine LeO.bind ?_ (fun _ => ?_)
theorem laws_toInt64SS.mono : ∀ a0 k, LeO (laws_toInt64SS.f k a0) (laws_toInt64SS.f (k + 1) a0) := by
  intro a0 k
  have ih0 := laws_toInt64SS.mono_l k
  unfold laws_toInt64SS.f
  repeat' first
      | (with_reducible exact ih0 _ _ _)
      | (with_reducible exact laws_toInt64S.mono _ _)
      | (with_reducible exact LeO.refl _)
      | (with_reducible exact LeO.none _)
      | (with_reducible refine LeO.ite ?_ ?_)
      | (with_reducible refine LeO.bind ?_ (fun _ => ?_))
      | exact ih0 _ _ _
      | exact laws_toInt64S.mono _ _
      | exact LeO.none _
      | refine LeO.ite ?_ ?_
      | refine LeO.bind ?_ (fun _ => ?_)
set_option maxHeartbeats 8000000 in
set_option maxRecDepth 100000 in
theorem laws_toInt64SS.calls (k : Nat) (A0 : Option Addr) (c0 : Nat) (l0 : List (List Int)) (r : List (List Int)) (w : World) (hr0 : Kd.C (Kd.slice 2 (Kd.int .i64)) w A0 l0.length l0) (hc0 : l0.length ≤ c0) (h : laws_toInt64SS.f k l0 = some r) :
    Calls Try.prog 92 #[.slice A0 l0.length c0] w fun e w' => ∃ v0_ : Value, e = .returned (v0_) ∧ Kd.S (Kd.slice 2 (Kd.int .i64)) 62 w' w.heap.size (fun _ => True) v0_ r ∧ Below w.heap.size w w' := by
  have HR0 := Aside0.mk hr0
  have HC0 := Aside0.mk hc0
  clear hr0 hc0
  have HB := Aside0.mk (Below.refl w.heap.size w)
  have H : (if 0 ≤ (l0.length : Int) then (if ((l0.length : Int) : Int).toNat ≤ 11728124029610 then (laws_toInt64SS.l0 k l0 (List.replicate ((l0.length : Int) : Int).toNat []) 0) else (none)) else (none)) = some r := h
  clear h
  by_cases c2 : 0 ≤ (l0.length : Int)
  · rw [if_pos c2] at H
    have c2b0 := eq_true c2
    have c2b1 : decide (0 ≤ (l0.length : Int)) = true := decide_eq_true c2
    clear c2
    by_cases c3 : ((l0.length : Int) : Int).toNat ≤ 11728124029610
    · rw [if_pos c3] at H
      have c3b0 := eq_true c3
      have c3b1 : decide (((l0.length : Int) : Int).toNat ≤ 11728124029610) = true := decide_eq_true c3
      clear c3
      obtain ⟨y172, hy172⟩ : ∃ y_ : List (List Int), y_ = (List.replicate ((l0.length : Int) : Int).toNat []) := ⟨_, rfl⟩
      replace H : (laws_toInt64SS.l0 k l0 y172 0) = some r := by first | (rw [hy172]; with_reducible exact H) | (have H2_ := (Option.bind_some _ _).symm.trans H; rw [hy172]; with_reducible exact H2_) | (have H2_ := (Option.bind_some _ _).symm.trans H; with_reducible exact H2_) | with_reducible exact H | (rw [hy172]; exact H) | exact H
      have Ny172 := Aside0.mk hy172
      clear hy172
      have H' := Aside0.mk H
      clear H
      go_enter Try.func92, Try.ntmps92
      go_wp2_with (first | ((with_reducible refine gate_dst (N := 7) rfl ?_); refine Kd.S_make (Kd.slice 2 (Kd.int .i64)) _ 62 rfl (N := 7) rfl 40 _ _ rfl (l0.length : Int) rfl rfl Try.underlying40 (.slice none 0 0) 24 info62 rfl (by decide) (by omega) [] (ok := fun _ => True) (okp := fun _ => True) ⟨_, rfl, Kd.R_nil _ _ _ _ _⟩ (fun _ hk => hk) trivial (of_decide_eq_true (by first | (with_reducible assumption) | assumption)) (Nat.le_trans (Nat.mul_le_mul_right _ (of_decide_eq_true (by first | (with_reducible assumption) | assumption) : (l0.length : Int).toNat ≤ 11728124029610)) (by omega)) (Below.refl _ _) (Nat.le_refl _) ?_; intro v173 w4 ho5 hb hg_ hnew_; clear hg_ hnew_; (first | rw [← Ny172.out] at ho5 | (simp only [Int.reduceToNat] at ho5; rw [← Ny172.out] at ho5)); have n0_ := Aside0.mk (Kd.S_lower ho5 (below_size (by repeat (first | (with_reducible first | exact HB.out | apply below_alloc | apply pw_below_drewN | apply below_drew1) | exact HB.out)))); have n1_ := Aside0.mk (below_step (by repeat (first | (with_reducible first | exact HB.out | apply below_alloc | apply pw_below_drewN | apply below_drew1) | exact HB.out)) hb); clear HB; have HO174 := n0_; have HB := n1_; clear n0_ n1_; clear hb ho5))
      go_loopg [4] k (fun kq v4 w' => ∃ (x3_1 : List (List Int)) (x4_1 : Int), v4 = .int .i64 x4_1 ∧ Aside0 (laws_toInt64SS.l0 kq l0 x3_1 x4_1 = some r) ∧ Aside0 (kq ≤ k) ∧ Aside0 (Kd.S (Kd.slice 2 (Kd.int .i64)) 62 w' w.heap.size (fun _ => True) v173 x3_1) ∧ Aside0 (Below w.heap.size w w'))
      case atStart => exact ⟨(y172), (0), (by first | rfl | (simp; done) | (simp [*]; done)), H', ⟨Nat.le_refl _⟩, ⟨by (with_reducible repeat (first | apply Kd.S_alloc | apply Kd.S_drewN | apply Kd.S_drew)); exact HO174.out⟩, ⟨by repeat (first | (with_reducible first | exact HB.out | apply below_alloc | apply pw_below_drewN | apply below_drew1) | exact HB.out)⟩⟩
      case round =>
        clear H'
        try clear c2
        try clear c2b0
        try clear c2b1
        try clear p2
        try clear c3
        try clear c3b0
        try clear c3b1
        obtain ⟨x3_1, x4_1, rfl, HA, HK1, HO_3, HB⟩ := hrel
        cases gk with
        | zero => exact absurd HA.out (by simp [laws_toInt64SS.l0])
        | succ k1 =>
          have H := HA.out
          clear HA
          simp only [laws_toInt64SS.l0] at H
          by_cases c6 : x4_1 < (l0.length : Int)
          · rw [if_pos c6] at H
            have c6b0 : decide (x4_1 < (l0.length : Int)) = true := decide_eq_true c6
            clear c6
            by_cases c7 : 0 ≤ x4_1
            · rw [if_pos c7] at H
              have c7b0 : decide (0 ≤ x4_1) = true := decide_eq_true c7
              clear c7
              replace H := Option.bind_eq_some_iff.mp H
              obtain ⟨t176, A80, H⟩ := H
              replace H : (if x4_1 < (x3_1.length : Int) then (laws_toInt64SS.l0 k1 l0 (x3_1.set (x4_1 : Int).toNat t176) (wrap64 (x4_1 + 1))) else (none)) = some r := H
              have A8 := Aside0.mk A80
              clear A80
              by_cases c9 : x4_1 < (x3_1.length : Int)
              · rw [if_pos c9] at H
                have c9b0 : decide (x4_1 < (x3_1.length : Int)) = true := decide_eq_true c9
                clear c9
                obtain ⟨y179, hy179⟩ : ∃ y_ : List (List Int), y_ = (x3_1.set (x4_1 : Int).toNat t176) := ⟨_, rfl⟩
                replace H : (laws_toInt64SS.l0 k1 l0 y179 (wrap64 (x4_1 + 1))) = some r := by first | (rw [hy179]; with_reducible exact H) | (have H2_ := (Option.bind_some _ _).symm.trans H; rw [hy179]; with_reducible exact H2_) | (have H2_ := (Option.bind_some _ _).symm.trans H; with_reducible exact H2_) | with_reducible exact H | (rw [hy179]; exact H) | exact H
                have Ny179 := Aside0.mk hy179
                clear hy179
                have H' := Aside0.mk H
                clear H
                have p175 : 0 ≤ (x4_1 : Int) := of_decide_eq_true (by first | (with_reducible assumption) | assumption)
                have q175 : x4_1 < (l0.length : Int) := of_decide_eq_true (by first | (with_reducible assumption) | assumption)
                obtain ⟨ad175, A175_0, c175_0, e175, hx175_0, hl175_0, hi175_0⟩ := at_L3 HR0.out x4_1 p175 q175
                cases e175
                replace hx175_0 := (HB.out.cell (World.block_lt_of_cell? _ _ hx175_0)).trans hx175_0
                have HR175_0 := Aside0.mk hi175_0
                have HC175_0 := Aside0.mk hl175_0
                clear hi175_0 hl175_0
                replace p175 := eq_true p175
                replace q175 := eq_true q175
                go_wp2_with (first | ((with_reducible refine gate_callee (f := 117) rfl ?_); refine goesL_ (some 20) rfl rfl Try.func117 (by kernel_rfl) rfl #[.slice A175_0 (rd_L3 l0 x4_1).length c175_0] rfl (by (try simp only [List.map_toArray, List.map_cons, List.map_nil]); first | done | rfl | (simp only [List.length_drop, List.length_take]; rfl)) ?_; (with_reducible refine (laws_toInt64S.calls k1 _ _ (rd_L3 l0 x4_1) t176 _ ?side1 ?side2 A8.out).mono ?_); (case side1 => repeat (first | exact (Kd.C_below HR175_0.out HB.out) | (with_reducible refine Kd.C_alloc ?_ _) | (with_reducible refine Kd.C_drewN ?_ _) | (with_reducible refine Kd.C_drew ?_))); (case side2 => exact HC175_0.out); rintro e w11 ⟨v177, rfl, ho0, hb⟩; refine ⟨_, rfl, ?_⟩; have n0_ := Aside0.mk (Kd.S_elder' (by (with_reducible repeat (first | apply Kd.S_alloc | apply Kd.S_drewN | apply Kd.S_drew)); exact HO_3.out) (Kd.R_base ho0) hb); have n1_ := Aside0.mk (Kd.R_lower ho0 (below_size (by repeat (first | (with_reducible first | exact HB.out | apply below_alloc | apply pw_below_drewN | apply below_drew1) | exact HB.out)))); have n2_ := Aside0.mk (below_step (by repeat (first | (with_reducible first | exact HB.out | apply below_alloc | apply pw_below_drewN | apply below_drew1) | exact HB.out)) hb); clear HO_3; clear HB; have HO_3 := n0_; have HO178 := n1_; have HB := n2_; clear n0_ n1_ n2_; (try clear hb); (try clear hb2); (try clear hk); (try clear hi); (try clear ho0); have p10 : 0 ≤ (x4_1 : Int) := of_decide_eq_true (by first | (with_reducible assumption) | assumption); have q10 : (x4_1 : Int) < ((x3_1.length : Int) : Int) := of_decide_eq_true (by first | (with_reducible assumption) | assumption); obtain ⟨go10, co10, eo10, gb10, gl10, cl10, HG10⟩ := Kd.S_form HO_3.out (by omega); (first | cases eo10 | (injection eo10 with ea_ en_ ec_; (first | subst ea_ | (injection ea_ with ea_; subst ea_)); subst ec_; clear en_)); have GB10 := Aside0.mk gb10; have GG10 := Aside0.mk HG10; clear gb10 gl10 HG10; obtain ⟨_, ce10, hcl10, hM10, hcc10, hfr10, _, _⟩ := Kd.S_elem HO_3.out [] (x4_1 : Int) p10 q10; obtain ⟨ve10_0, rfl, ge10_0⟩ := hM10; have hx10_0 := hcc10 0 _ rfl; have hf10_0 := hfr10 0; (try simp only [show ((Kd.slice 2 (Kd.int .i64))).sz = 1 from rfl, Nat.mul_one, Nat.add_zero] at hx10_0); (try simp only [show ((Kd.slice 2 (Kd.int .i64))).sz = 1 from rfl, Nat.mul_one, Nat.add_zero] at hf10_0); clear hcl10 hcc10 hfr10; replace p10 := eq_true p10; replace q10 := eq_true q10; have n_ := Aside0.mk (Kd.S_mono (ok' := (fun k_ => some k_ ≠ (v177 : Value).ownBlock)) HO_3.out (fun k_ hk => hk.2)); clear HO_3; have HO_3 := n_; clear n_; have HX12 := Aside0.mk (show Kd.S (Kd.slice 2 (Kd.int .i64)) 62 w11 w.heap.size (fun k_ => ((fun _ => True)) k_ ∧ ¬ ((fun k_ => some k_ = (v177 : Value).ownBlock)) k_) (.slice (some ⟨go10, 0, none⟩) x3_1.length co10) x3_1 from (by (with_reducible repeat (first | apply Kd.S_alloc | apply Kd.S_drewN | apply Kd.S_drew)); exact Kd.S_mono HO_3.out (fun k_ hk => ⟨trivial, fun e_ => hk e_⟩))); obtain ⟨oki12, ce12, hcl12, hM12, hcc12, hfr12, hoki12, hH12⟩ := Kd.S_elem HX12.out [] (x4_1 : Int) (of_decide_eq_true (by first | (with_reducible assumption) | assumption)) (by have h_ : (x4_1 : Int) < ((x3_1.length : Int) : Int) := of_decide_eq_true (by first | (with_reducible assumption) | assumption); first | exact h_ | (have e_ := (Kd.S_reads' HO_3.out).1; omega) | simpa using h_); obtain ⟨ve12_0, rfl, ge12_0⟩ := hM12; have HP12 := Kd.S_seg hH12 (of_decide_eq_true (by first | (with_reducible assumption) | assumption)) (by have h_ : (x4_1 : Int) < ((x3_1.length : Int) : Int) := of_decide_eq_true (by first | (with_reducible assumption) | assumption); first | exact h_ | (have e_ := (Kd.S_reads' HO_3.out).1; omega) | simpa using h_) (seg := [v177]) (j := 0) (show 1 ≤ 1 from by decide) (x' := t176) (Kd.M_row (Kd.R_mono (Kd.R_tight rfl (Kd.R_mono (ok' := fun k_ => ((fun _ => True)) k_ ∧ k_ ≠ go10) (Kd.R_apart' (HO178.out) (Kd.S_typed HO_3.out) (by decide)) (fun k_ hk => ⟨trivial, fun e_ => (hk.2) (by rw [e_]; rfl)⟩))) (fun _ h_ => Or.inr (h_)))) (fun _ hk => hk) (fun k_ hk_ => ((Kd.R_mono (ok' := fun k_ => ((fun _ => True)) k_ ∧ k_ ≠ go10) (Kd.R_apart' (HO178.out) (Kd.S_typed HO_3.out) (by decide)) (fun k_ hk => ⟨trivial, fun e_ => (hk.2) (by rw [e_]; rfl)⟩))).1 k_ hk_.symm); have hx12_0 := hcc12 0 _ rfl; (try simp only [show ((Kd.slice 2 (Kd.int .i64))).sz = 1 from rfl, Nat.mul_one, Nat.add_zero] at hx12_0); have hf12_0 := hfr12 0; (try simp only [show ((Kd.slice 2 (Kd.int .i64))).sz = 1 from rfl, Nat.mul_one, Nat.add_zero] at hf12_0); clear hcl12 hcc12 hfr12 hoki12 hH12; (try simp only [show ((Kd.slice 2 (Kd.int .i64))).sz = 1 from rfl, Nat.mul_one, Nat.add_zero] at HP12)) | ((with_reducible refine gate_store (t := 62) (p := 21) rfl ?_); refine store_event (t := 62) (p := 21) (v := ?vo_w13) (w1 := (w11.setCell ⟨go10, (x4_1 : Int).toNat, none⟩ (v177))) ?hg ?ho ?hn ?hr ?_; (case ho => rfl); (case hg => rfl); (case hn => rfl); (case hr => first | (go_simp; done) | (go_simp; rfl) | (obtain ⟨_, _, e_⟩ := Kd.R_slice HO178.out; subst e_; first | (go_simp; done) | (go_simp; rfl))); intro w13 hw; have hg : w11.grownBy w13 (some go10) := (by rw [hw]; exact HP12.2); have hp_ : Kd.S (Kd.slice 2 (Kd.int .i64)) 62 w13 w.heap.size (fun _ => True) (.slice (some ⟨go10, 0, none⟩) x3_1.length co10) y179 := (by rw [hw, Ny179.out]; exact HP12.1); clear HP12; have n0_ := Aside0.mk (hp_); have n1_ := Aside0.mk ((by rw [hw]; exact below_set (HB.out) GB10.out : Below w.heap.size w w13)); clear HO_3; clear HB; clear HO178; have HO_3 := n0_; have HB := n1_; clear n0_ n1_; clear hg hw hp_))
                go_roundg k1
                case measure => have := HK1.out; omega
                case rel => exact ⟨(y179), (wrap64 (x4_1 + 1)), (by first | rfl | (simp; done) | (simp [*]; done)), H', ⟨by have := HK1.out; omega⟩, ⟨by (with_reducible repeat (first | apply Kd.S_alloc | apply Kd.S_drewN | apply Kd.S_drew)); exact HO_3.out⟩, ⟨by repeat (first | (with_reducible first | exact HB.out | apply below_alloc | apply pw_below_drewN | apply below_drew1) | exact HB.out)⟩⟩
              · rw [if_neg c9] at H
                exact absurd H (by simp)
            · rw [if_neg c7] at H
              exact absurd H (by simp)
          · rw [if_neg c6] at H
            have c6b0 : decide (x4_1 < (l0.length : Int)) = false := decide_eq_false c6
            clear c6
            obtain rfl := Option.some.inj H
            go_wp2
            go_ret
            exact ⟨_, by first | rfl | (simp [errW_none, errW_some] <;> rfl) | (simp [*, errW_none, errW_some] <;> rfl), by (with_reducible repeat (first | apply Kd.S_alloc | apply Kd.S_drewN | apply Kd.S_drew)); exact HO_3.out, by repeat (first | (with_reducible first | exact HB.out | apply below_alloc | apply pw_below_drewN | apply below_drew1) | exact HB.out)⟩
    · rw [if_neg c3] at H
      exact absurd H (by simp)
  · rw [if_neg c2] at H
    exact absurd H (by simp)

end Go.Proofs.Yteepckjegpnffaa.P

/-! ### Px23 -/
namespace Go.Proofs.Yteepckjegpnffaa.P
open Go.RowKit Go.Proofs.YteepckjegpnffaaW.PrintWords Go.Proofs.YteepckjegpnffaaW.PrintLast Go.Proofs.YteepckjegpnffaaW.PrintMore
attribute [local go_sem] max2_int min2_int max_two min_two max_three min_three max_four min_four   -- for this text's walks alone
set_option linter.unusedVariables false
set_option linter.unusedSimpArgs false

/-! ### laws_toSpatialIndex: function 40 -/
def laws_toSpatialIndex.f (k : Nat) (l0_0 : List (S140)) (l0_1 : List (List Int)) : Option ((List (S94)) × (List (List Int))) := (laws_toSpatialEntryS.f k l0_0).bind fun t183 => ((laws_toInt64SS.f k l0_1).bind fun t186 => (some (t183, t186)))
theorem laws_toSpatialIndex.mono : ∀ a0 a1 k, LeO (laws_toSpatialIndex.f k a0 a1) (laws_toSpatialIndex.f (k + 1) a0 a1) := by
  intro a0 a1 k
  unfold laws_toSpatialIndex.f
  repeat' first
      | (with_reducible exact laws_toInt64SS.mono _ _)
      | (with_reducible exact laws_toSpatialEntryS.mono _ _)
      | (with_reducible exact LeO.refl _)
      | (with_reducible exact LeO.none _)
      | (with_reducible refine LeO.ite ?_ ?_)
      | (with_reducible refine LeO.bind ?_ (fun _ => ?_))
      | exact laws_toInt64SS.mono _ _
      | exact laws_toSpatialEntryS.mono _ _
      | exact LeO.none _
      | refine LeO.ite ?_ ?_
      | refine LeO.bind ?_ (fun _ => ?_)
set_option maxHeartbeats 8000000 in
set_option maxRecDepth 100000 in
theorem laws_toSpatialIndex.calls (k : Nat) (A0_0 : Option Addr) (c0_0 : Nat) (l0_0 : List (S140)) (A0_1 : Option Addr) (c0_1 : Nat) (l0_1 : List (List Int)) (r1 : List (S94)) (r2 : List (List Int)) (w : World) (hr0_0 : Kd.C k140 w A0_0 l0_0.length l0_0) (hc0_0 : l0_0.length ≤ c0_0) (hr0_1 : Kd.C (Kd.slice 2 (Kd.int .i64)) w A0_1 l0_1.length l0_1) (hc0_1 : l0_1.length ≤ c0_1) (h : laws_toSpatialIndex.f k l0_0 l0_1 = some (r1, r2)) :
    Calls Try.prog 40 #[.agg #[.slice A0_0 l0_0.length c0_0, .slice A0_1 l0_1.length c0_1]] w fun e w' => ∃ v0_ v1_ : Value, e = .returned (.agg #[v0_, v1_]) ∧ Kd.R k94 94 w' w.heap.size (fun _ => True) v0_ r1 ∧ Kd.S (Kd.slice 2 (Kd.int .i64)) 62 w' w.heap.size (fun _ => True) v1_ r2 ∧ Below w.heap.size w w' := by
  have hu69 := Try.underlying69
  have hu42 := Try.underlying42
  have HR0_0 := Aside0.mk hr0_0
  have HC0_0 := Aside0.mk hc0_0
  clear hr0_0 hc0_0
  have HR0_1 := Aside0.mk hr0_1
  have HC0_1 := Aside0.mk hc0_1
  clear hr0_1 hc0_1
  have HB := Aside0.mk (Below.refl w.heap.size w)
  have H : ((laws_toSpatialEntryS.f k l0_0).bind fun t183 => ((laws_toInt64SS.f k l0_1).bind fun t186 => (some (t183, t186)))) = some (r1, r2) := h
  clear h
  replace H := Option.bind_eq_some_iff.mp H
  obtain ⟨t183, A20, H⟩ := H
  replace H : ((laws_toInt64SS.f k l0_1).bind fun t186 => (some (t183, t186))) = some (r1, r2) := H
  have A2 := Aside0.mk A20
  clear A20
  replace H := Option.bind_eq_some_iff.mp H
  obtain ⟨t186, A30, H⟩ := H
  replace H : (some (t183, t186)) = some (r1, r2) := H
  have A3 := Aside0.mk A30
  clear A30
  simp only [Option.some.injEq, Prod.mk.injEq] at H
  obtain ⟨rfl, rfl⟩ := H
  go_enter Try.func40, Try.ntmps40
  go_wp2_with (first | ((with_reducible refine gate_dst (N := 1) rfl ?_); refine box_event ?hg (N := 1) ?hd (cs := #[.slice A0_0 l0_0.length c0_0, .slice A0_1 l0_1.length c0_1]) (t := 69) ?hr ?_; (case hd => rfl); (case hg => rfl); (case hr => first | (go_simp; done) | (go_simp; rfl)); intro gb180 hg w4 hbox hb; have n0_ := Aside0.mk (below_step (by repeat (first | (with_reducible first | exact HB.out | apply below_alloc | apply pw_below_drewN | apply below_drew1) | exact HB.out)) hb); have n1_ := Aside0.mk (hbox); have n2_ := Aside0.mk ((by rw [hg]; exact (below_size (by repeat (first | (with_reducible first | exact HB.out | apply below_alloc | apply pw_below_drewN | apply below_drew1) | exact HB.out))) : w.heap.size ≤ gb180)); have n3_ := Aside0.mk ((by rw [hg]; exact (below_size (by repeat (first | (with_reducible first | exact HB.out | apply below_alloc | apply pw_below_drewN | apply below_drew1) | exact HB.out))) : w.heap.size ≤ gb180)); clear HB; have HB := n0_; have BK180 := n1_; have GW180 := n2_; have GE180 := n3_; clear n0_ n1_ n2_ n3_; clear hb hbox hg) | ((with_reducible refine gate_dst (N := 2) rfl ?_); refine box_event ?hg (N := 2) ?hd (cs := #[.slice none 0 0, .slice none 0 0]) (t := 42) ?hr ?_; (case hd => rfl); (case hg => rfl); (case hr => first | (go_simp; done) | (go_simp; rfl)); intro gb181 hg w5 hbox hb; have n0_ := Aside0.mk (blk_below (g := gb180) (o := .cells #[.slice A0_0 l0_0.length c0_0, .slice A0_1 l0_1.length c0_1] 69 (0, 0)) (by (with_reducible repeat (first | refine blk_drewN ?_ _ | refine blk_drew ?_ | refine blk_alloc ?_ _)); exact BK180.out) hb); have n1_ := Aside0.mk (below_step (by repeat (first | (with_reducible first | exact HB.out | apply below_alloc | apply pw_below_drewN | apply below_drew1 | refine below_set ?_ GE180.out) | exact HB.out)) hb); have n2_ := Aside0.mk (hbox); have n3_ := Aside0.mk ((by rw [hg]; exact (below_size (by repeat (first | (with_reducible first | exact HB.out | apply below_alloc | apply pw_below_drewN | apply below_drew1 | refine below_set ?_ GE180.out) | exact HB.out))) : w.heap.size ≤ gb181)); have n4_ := Aside0.mk ((by rw [hg]; exact (below_size (by repeat (first | (with_reducible first | exact HB.out | apply below_alloc | apply pw_below_drewN | apply below_drew1 | refine below_set ?_ GE180.out) | exact HB.out))) : w.heap.size ≤ gb181)); have n5_ := Aside0.mk ((by rw [hg]; exact Nat.ne_of_lt (blk_lt (g := gb180) (o := .cells #[.slice A0_0 l0_0.length c0_0, .slice A0_1 l0_1.length c0_1] 69 (0, 0)) (by (with_reducible repeat (first | refine blk_drewN ?_ _ | refine blk_drew ?_ | refine blk_alloc ?_ _)); exact BK180.out)) : gb180 ≠ gb181)); have n6_ := Aside0.mk ((by rw [hg]; exact Nat.ne_of_gt (blk_lt (g := gb180) (o := .cells #[.slice A0_0 l0_0.length c0_0, .slice A0_1 l0_1.length c0_1] 69 (0, 0)) (by (with_reducible repeat (first | refine blk_drewN ?_ _ | refine blk_drew ?_ | refine blk_alloc ?_ _)); exact BK180.out)) : gb181 ≠ gb180)); clear BK180; clear HB; have BK180 := n0_; have HB := n1_; have BK181 := n2_; have GW181 := n3_; have GE181 := n4_; have NB180_181 := n5_; have NB181_180 := n6_; clear n0_ n1_ n2_ n3_ n4_ n5_ n6_; clear hb hbox hg) | ((with_reducible refine gate_dst (N := 3) rfl ?_); refine box_event ?hg (N := 3) ?hd (cs := #[.slice none 0 0, .slice none 0 0]) (t := 42) ?hr ?_; (case hd => rfl); (case hg => rfl); (case hr => first | (go_simp; done) | (go_simp; rfl)); intro gb182 hg w6 hbox hb; have n0_ := Aside0.mk (blk_below (g := gb180) (o := .cells #[.slice A0_0 l0_0.length c0_0, .slice A0_1 l0_1.length c0_1] 69 (0, 0)) (by (with_reducible repeat (first | refine blk_drewN ?_ _ | refine blk_drew ?_ | refine blk_alloc ?_ _)); exact BK180.out) hb); have n1_ := Aside0.mk (blk_below (g := gb181) (o := .cells #[.slice none 0 0, .slice none 0 0] 42 (0, 0)) (by (with_reducible repeat (first | refine blk_drewN ?_ _ | refine blk_drew ?_ | refine blk_alloc ?_ _)); exact BK181.out) hb); have n2_ := Aside0.mk (below_step (by repeat (first | (with_reducible first | exact HB.out | apply below_alloc | apply pw_below_drewN | apply below_drew1 | refine below_set ?_ GE180.out | refine below_set ?_ GE181.out) | exact HB.out)) hb); have n3_ := Aside0.mk (hbox); have n4_ := Aside0.mk ((by rw [hg]; exact (below_size (by repeat (first | (with_reducible first | exact HB.out | apply below_alloc | apply pw_below_drewN | apply below_drew1 | refine below_set ?_ GE180.out | refine below_set ?_ GE181.out) | exact HB.out))) : w.heap.size ≤ gb182)); have n5_ := Aside0.mk ((by rw [hg]; exact (below_size (by repeat (first | (with_reducible first | exact HB.out | apply below_alloc | apply pw_below_drewN | apply below_drew1 | refine below_set ?_ GE180.out | refine below_set ?_ GE181.out) | exact HB.out))) : w.heap.size ≤ gb182)); have n6_ := Aside0.mk ((by rw [hg]; exact Nat.ne_of_lt (blk_lt (g := gb180) (o := .cells #[.slice A0_0 l0_0.length c0_0, .slice A0_1 l0_1.length c0_1] 69 (0, 0)) (by (with_reducible repeat (first | refine blk_drewN ?_ _ | refine blk_drew ?_ | refine blk_alloc ?_ _)); exact BK180.out)) : gb180 ≠ gb182)); have n7_ := Aside0.mk ((by rw [hg]; exact Nat.ne_of_gt (blk_lt (g := gb180) (o := .cells #[.slice A0_0 l0_0.length c0_0, .slice A0_1 l0_1.length c0_1] 69 (0, 0)) (by (with_reducible repeat (first | refine blk_drewN ?_ _ | refine blk_drew ?_ | refine blk_alloc ?_ _)); exact BK180.out)) : gb182 ≠ gb180)); have n8_ := Aside0.mk ((by rw [hg]; exact Nat.ne_of_lt (blk_lt (g := gb181) (o := .cells #[.slice none 0 0, .slice none 0 0] 42 (0, 0)) (by (with_reducible repeat (first | refine blk_drewN ?_ _ | refine blk_drew ?_ | refine blk_alloc ?_ _)); exact BK181.out)) : gb181 ≠ gb182)); have n9_ := Aside0.mk ((by rw [hg]; exact Nat.ne_of_gt (blk_lt (g := gb181) (o := .cells #[.slice none 0 0, .slice none 0 0] 42 (0, 0)) (by (with_reducible repeat (first | refine blk_drewN ?_ _ | refine blk_drew ?_ | refine blk_alloc ?_ _)); exact BK181.out)) : gb182 ≠ gb181)); clear BK180; clear BK181; clear HB; have BK180 := n0_; have BK181 := n1_; have HB := n2_; have BK182 := n3_; have GW182 := n4_; have GE182 := n5_; have NB180_182 := n6_; have NB182_180 := n7_; have NB181_182 := n8_; have NB182_181 := n9_; clear n0_ n1_ n2_ n3_ n4_ n5_ n6_ n7_ n8_ n9_; clear hb hbox hg; have hnb7 := NB180_181.out; have hnc7 := NB181_180.out; have hnb8 := NB180_182.out; have hnc8 := NB182_180.out; have hcz9_0 : w6.cell? ⟨gb180, 0, none⟩ = some (.slice A0_0 l0_0.length c0_0) := (blk_cell BK180.out 0).trans rfl; have hcz9_1 : w6.cell? ⟨gb180, 1, none⟩ = some (.slice A0_1 l0_1.length c0_1) := (blk_cell BK180.out 1).trans rfl; have hfz9_0 := blk_frozen BK180.out 0; have hfz9_1 := blk_frozen BK180.out 1) | ((with_reducible refine gate_callee (f := 91) rfl ?_); refine goesL_ (some 6) rfl rfl Try.func91 (by kernel_rfl) rfl #[.slice A0_0 l0_0.length c0_0] rfl (by (try simp only [List.map_toArray, List.map_cons, List.map_nil]); first | done | rfl | (simp only [List.length_drop, List.length_take]; rfl)) ?_; (with_reducible refine (laws_toSpatialEntryS.calls k _ _ l0_0 t183 _ ?side1 ?side2 A2.out).mono ?_); (case side1 => repeat (first | exact (Kd.C_below HR0_0.out HB.out) | (with_reducible refine Kd.C_alloc ?_ _) | (with_reducible refine Kd.C_drewN ?_ _) | (with_reducible refine Kd.C_drew ?_))); (case side2 => exact HC0_0.out); rintro e w10 ⟨v184, rfl, ho0, hb⟩; refine ⟨_, rfl, ?_⟩; have n0_ := Aside0.mk (Kd.R_lower ho0 (below_size (by repeat (first | (with_reducible first | exact HB.out | apply below_alloc | apply pw_below_drewN | apply below_drew1 | refine below_set ?_ GE180.out | refine below_set ?_ GE181.out | refine below_set ?_ GE182.out) | exact HB.out)))); have n1_ := Aside0.mk (blk_below (g := gb180) (o := .cells #[.slice A0_0 l0_0.length c0_0, .slice A0_1 l0_1.length c0_1] 69 (0, 0)) (by (with_reducible repeat (first | refine blk_drewN ?_ _ | refine blk_drew ?_ | refine blk_alloc ?_ _)); exact BK180.out) hb); have n2_ := Aside0.mk (blk_below (g := gb181) (o := .cells #[.slice none 0 0, .slice none 0 0] 42 (0, 0)) (by (with_reducible repeat (first | refine blk_drewN ?_ _ | refine blk_drew ?_ | refine blk_alloc ?_ _)); exact BK181.out) hb); have n3_ := Aside0.mk (blk_below (g := gb182) (o := .cells #[.slice none 0 0, .slice none 0 0] 42 (0, 0)) (by (with_reducible repeat (first | refine blk_drewN ?_ _ | refine blk_drew ?_ | refine blk_alloc ?_ _)); exact BK182.out) hb); have n4_ := Aside0.mk (below_step (by repeat (first | (with_reducible first | exact HB.out | apply below_alloc | apply pw_below_drewN | apply below_drew1 | refine below_set ?_ GE180.out | refine below_set ?_ GE181.out | refine below_set ?_ GE182.out) | exact HB.out)) hb); clear BK180; clear BK181; clear BK182; clear HB; have HO185 := n0_; have BK180 := n1_; have BK181 := n2_; have BK182 := n3_; have HB := n4_; clear n0_ n1_ n2_ n3_ n4_; (try clear hb); (try clear hb2); (try clear hk); (try clear hi); (try clear ho0); obtain ⟨Ao11, co11, eo11⟩ := Kd.R_slice HO185.out; subst eo11; have hnb12 := NB182_181.out; have hnc12 := NB181_182.out; have hcz13_0 : w10.cell? ⟨gb182, 0, none⟩ = some (.slice none 0 0) := (blk_cell BK182.out 0).trans rfl; have hcz13_1 : w10.cell? ⟨gb182, 1, none⟩ = some (.slice none 0 0) := (blk_cell BK182.out 1).trans rfl; have hfz13_0 := blk_frozen BK182.out 0; have hfz13_1 := blk_frozen BK182.out 1; have hcz14_0 : w10.cell? ⟨gb180, 0, none⟩ = some (.slice A0_0 l0_0.length c0_0) := (blk_cell BK180.out 0).trans rfl; have hcz14_1 : w10.cell? ⟨gb180, 1, none⟩ = some (.slice A0_1 l0_1.length c0_1) := (blk_cell BK180.out 1).trans rfl; have hfz14_0 := blk_frozen BK180.out 0; have hfz14_1 := blk_frozen BK180.out 1) | ((with_reducible refine gate_callee (f := 92) rfl ?_); refine goesL_ (some 10) rfl rfl Try.func92 (by kernel_rfl) rfl #[.slice A0_1 l0_1.length c0_1] rfl (by (try simp only [List.map_toArray, List.map_cons, List.map_nil]); first | done | rfl | (simp only [List.length_drop, List.length_take]; rfl)) ?_; (with_reducible refine (laws_toInt64SS.calls k _ _ l0_1 t186 _ ?side1 ?side2 A3.out).mono ?_); (case side1 => exact Kd.C_below HR0_1.out (by repeat (first | (with_reducible first | exact HB.out | apply below_alloc | apply pw_below_drewN | apply below_drew1 | refine below_set ?_ GE180.out | refine below_set ?_ GE181.out | refine below_set ?_ GE182.out) | exact HB.out))); (case side2 => exact HC0_1.out); rintro e w15 ⟨v187, rfl, ho0, hb⟩; refine ⟨_, rfl, ?_⟩; have n0_ := Aside0.mk (Kd.R_below (by (with_reducible repeat (first | apply Kd.R_alloc | apply Kd.R_drewN | apply Kd.R_drew)); exact (Kd.R_mono (Kd.R_far (p := ⟨gb182, 0, none⟩) (Kd.R_types HO185.out BK182.out (by decide)) (fun _ hk => hk.2) (.slice Ao11 t183.length co11)) (fun _ h_ => h_.1))) hb); have n1_ := Aside0.mk (Kd.S_lower ho0 (below_size (by repeat (first | (with_reducible first | exact HB.out | apply below_alloc | apply pw_below_drewN | apply below_drew1 | refine below_set ?_ GE180.out | refine below_set ?_ GE181.out | refine below_set ?_ GE182.out) | exact HB.out)))); have n2_ := Aside0.mk (blk_below (g := gb180) (o := .cells #[.slice A0_0 l0_0.length c0_0, .slice A0_1 l0_1.length c0_1] 69 (0, 0)) (by (with_reducible repeat (first | refine blk_drewN ?_ _ | refine blk_drew ?_ | refine blk_alloc ?_ _)); refine blk_far ?_ NB180_182.out _; (with_reducible repeat (first | refine blk_drewN ?_ _ | refine blk_drew ?_ | refine blk_alloc ?_ _)); exact BK180.out) hb); have n3_ := Aside0.mk (blk_below (g := gb181) (o := .cells #[.slice none 0 0, .slice none 0 0] 42 (0, 0)) (by (with_reducible repeat (first | refine blk_drewN ?_ _ | refine blk_drew ?_ | refine blk_alloc ?_ _)); refine blk_far ?_ NB181_182.out _; (with_reducible repeat (first | refine blk_drewN ?_ _ | refine blk_drew ?_ | refine blk_alloc ?_ _)); exact BK181.out) hb); have n4_ := Aside0.mk (blk_below (g := gb182) (o := .cells #[.slice Ao11 t183.length co11, .slice none 0 0] 42 (0, 0)) (by (with_reducible repeat (first | refine blk_drewN ?_ _ | refine blk_drew ?_ | refine blk_alloc ?_ _)); refine blk_put (cs := #[.slice none 0 0, .slice none 0 0]) ?_ 0 _ rfl; (with_reducible repeat (first | refine blk_drewN ?_ _ | refine blk_drew ?_ | refine blk_alloc ?_ _)); exact BK182.out) hb); have n5_ := Aside0.mk (below_step (by repeat (first | (with_reducible first | exact HB.out | apply below_alloc | apply pw_below_drewN | apply below_drew1 | refine below_set ?_ GE180.out | refine below_set ?_ GE181.out | refine below_set ?_ GE182.out) | exact HB.out)) hb); clear HO185; clear BK180; clear BK181; clear BK182; clear HB; have HO185 := n0_; have HO188 := n1_; have BK180 := n2_; have BK181 := n3_; have BK182 := n4_; have HB := n5_; clear n0_ n1_ n2_ n3_ n4_ n5_; (try clear hb); (try clear hb2); (try clear hk); (try clear hi); (try clear ho0); obtain ⟨Ao16, co16, eo16⟩ := Kd.S_slice HO188.out; subst eo16; have hcz17_0 : w15.cell? ⟨gb182, 0, none⟩ = some (.slice Ao11 t183.length co11) := (blk_cell BK182.out 0).trans rfl; have hcz17_1 : w15.cell? ⟨gb182, 1, none⟩ = some (.slice none 0 0) := (blk_cell BK182.out 1).trans rfl; have hfz17_0 := blk_frozen BK182.out 0; have hfz17_1 := blk_frozen BK182.out 1; have hcz18_0 : w15.cell? ⟨gb181, 0, none⟩ = some (.slice none 0 0) := (blk_cell BK181.out 0).trans rfl; have hcz18_1 : w15.cell? ⟨gb181, 1, none⟩ = some (.slice none 0 0) := (blk_cell BK181.out 1).trans rfl; have hfz18_0 := blk_frozen BK181.out 0; have hfz18_1 := blk_frozen BK181.out 1))
  refine bodyPost_ret (results_cell_row rfl _ _ gb181 42 #[.slice Ao11 t183.length co11, .slice Ao16 t186.length co16] (0, 0) _ rfl (by (with_reducible repeat (first | refine blk_drewN ?_ _ | refine blk_drew ?_ | refine blk_alloc ?_ _)); refine blk_put (cs := #[.slice Ao11 t183.length co11, .slice none 0 0]) ?_ 1 _ rfl; (with_reducible repeat (first | refine blk_drewN ?_ _ | refine blk_drew ?_ | refine blk_alloc ?_ _)); refine blk_put (cs := #[.slice none 0 0, .slice none 0 0]) ?_ 0 _ rfl; (with_reducible repeat (first | refine blk_drewN ?_ _ | refine blk_drew ?_ | refine blk_alloc ?_ _)); refine blk_far ?_ NB181_182.out _; (with_reducible repeat (first | refine blk_drewN ?_ _ | refine blk_drew ?_ | refine blk_alloc ?_ _)); exact BK181.out) Try.underlying42 rfl (by kernel_rfl)) rfl ?_
  exact ⟨_, _, by first | rfl | (simp [errW_none, errW_some] <;> rfl) | (simp [*, errW_none, errW_some] <;> rfl), by (with_reducible repeat (first | apply Kd.R_alloc | apply Kd.R_drewN | apply Kd.R_drew)); exact Kd.R_mono (Kd.R_far (p := ⟨gb181, 1, none⟩) (Kd.R_far (p := ⟨gb181, 0, none⟩) (Kd.R_far (p := ⟨gb182, 1, none⟩) (Kd.R_types (Kd.R_types HO185.out BK182.out (by decide)) BK181.out (by decide)) (fun _ hk => hk.1.2) (.slice Ao16 t186.length co16)) (fun _ hk => hk.2) (.slice Ao11 t183.length co11)) (fun _ hk => hk.2) (.slice Ao16 t186.length co16)) (fun _ hk => trivial), by (with_reducible repeat (first | apply Kd.S_alloc | apply Kd.S_drewN | apply Kd.S_drew)); exact Kd.S_mono (Kd.S_far (p := ⟨gb181, 1, none⟩) (Kd.S_far (p := ⟨gb181, 0, none⟩) (Kd.S_far (p := ⟨gb182, 1, none⟩) (Kd.S_types (Kd.S_types HO188.out BK182.out (by decide)) BK181.out (by decide)) (fun _ hk => hk.1.2) (.slice Ao16 t186.length co16)) (fun _ hk => hk.2) (.slice Ao11 t183.length co11)) (fun _ hk => hk.2) (.slice Ao16 t186.length co16)) (fun _ hk => trivial), by repeat (first | (with_reducible first | exact HB.out | apply below_alloc | apply pw_below_drewN | apply below_drew1 | refine below_set ?_ GE180.out | refine below_set ?_ GE181.out | refine below_set ?_ GE182.out) | exact HB.out)⟩

end Go.Proofs.Yteepckjegpnffaa.P

/-! ### Px25 -/
namespace Go.Proofs.Yteepckjegpnffaa.P
open Go.RowKit Go.Proofs.YteepckjegpnffaaW.PrintWords Go.Proofs.YteepckjegpnffaaW.PrintLast Go.Proofs.YteepckjegpnffaaW.PrintMore
attribute [local go_sem] max2_int min2_int max_two min_two max_three min_three max_four min_four   -- for this text's walks alone
set_option linter.unusedVariables false
set_option linter.unusedSimpArgs false

/-! ### impl_within: function 93 -/
def impl_within.f (a0 : Int) (a1 : Int) (a2 : Int) : Option (Bool) := if a0 ≥ a1 then (some (decide (a0 ≤ a2))) else (some false)
set_option maxHeartbeats 8000000 in
set_option maxRecDepth 100000 in
theorem impl_within.calls (a0 : Int) (a1 : Int) (a2 : Int) (r : Bool) (w : World) (h : impl_within.f a0 a1 a2 = some r) :
    Calls Try.prog 93 #[.int .i64 a0, .int .i64 a1, .int .i64 a2] w fun e w' => e = .returned (.bool r) ∧ Drawn0 w w' := by
  have H : (if a0 ≥ a1 then (some (decide (a0 ≤ a2))) else (some false)) = some r := h
  clear h
  by_cases c4 : a0 ≥ a1
  · rw [if_pos c4] at H
    have c4b0 : decide (a1 ≤ a0) = true := decide_eq_true c4
    clear c4
    obtain rfl := Option.some.inj H
    go_enter Try.func93, Try.ntmps93
    go_wp2
    go_ret
    exact ⟨by first | rfl | (simp; done) | (simp [*]; done), by repeat (first | exact Drawn0.refl _ | apply Drawn0.step)⟩
  · rw [if_neg c4] at H
    have c4b0 : decide (a1 ≤ a0) = false := decide_eq_false c4
    clear c4
    obtain rfl := Option.some.inj H
    go_enter Try.func93, Try.ntmps93
    go_wp2
    go_ret
    exact ⟨by first | rfl | (simp; done) | (simp [*]; done), by repeat (first | exact Drawn0.refl _ | apply Drawn0.step)⟩

end Go.Proofs.Yteepckjegpnffaa.P

/-! ### Px32 -/
namespace Go.Proofs.Yteepckjegpnffaa.P
open Go.RowKit Go.Proofs.YteepckjegpnffaaW.PrintWords Go.Proofs.YteepckjegpnffaaW.PrintLast Go.Proofs.YteepckjegpnffaaW.PrintMore
attribute [local go_sem] max2_int min2_int max_two min_two max_three min_three max_four min_four   -- for this text's walks alone
set_option linter.unusedVariables false
set_option linter.unusedSimpArgs false

/-! ### impl_isUnitCell: function 83 -/
def impl_isUnitCell.f (a0_0 : Int) (a0_1 : Int) : Option (Bool) := (impl_within.f a0_0 (-40) 39).bind fun t248 => (if t248 = true then ((impl_within.f a0_1 (-40) 39).bind fun t249 => (some t249)) else (some false))
set_option maxHeartbeats 8000000 in
set_option maxRecDepth 100000 in
theorem impl_isUnitCell.calls (a0_0 : Int) (a0_1 : Int) (r : Bool) (w : World) (h : impl_isUnitCell.f a0_0 a0_1 = some r) :
    Calls Try.prog 83 #[.agg #[.int .i64 a0_0, .int .i64 a0_1]] w fun e w' => e = .returned (.bool r) ∧ Below w.heap.size w w' := by
  have hu36 := Try.underlying36
  have HB := Aside0.mk (Below.refl w.heap.size w)
  have H : ((impl_within.f a0_0 (-40) 39).bind fun t248 => (if t248 = true then ((impl_within.f a0_1 (-40) 39).bind fun t249 => (some t249)) else (some false))) = some r := h
  clear h
  replace H := Option.bind_eq_some_iff.mp H
  obtain ⟨t248, A20, H⟩ := H
  replace H : (if t248 = true then ((impl_within.f a0_1 (-40) 39).bind fun t249 => (some t249)) else (some false)) = some r := H
  have A2 := Aside0.mk A20
  clear A20
  by_cases c3 : t248 = true
  · subst c3
    have H1 : ((impl_within.f a0_1 (-40) 39).bind fun t249 => (some t249)) = some r := by rw [if_pos rfl] at H; exact H
    clear H
    have H := H1
    clear H1
    replace H := Option.bind_eq_some_iff.mp H
    obtain ⟨t249, A40, H⟩ := H
    replace H : (some t249) = some r := H
    have A4 := Aside0.mk A40
    clear A40
    obtain rfl := Option.some.inj H
    go_enter Try.func83, Try.ntmps83
    go_wp2_with (first | ((with_reducible refine gate_dst (N := 1) rfl ?_); refine box_event ?hg (N := 1) ?hd (cs := #[.int .i64 a0_0, .int .i64 a0_1]) (t := 36) ?hr ?_; (case hd => rfl); (case hg => rfl); (case hr => first | (go_simp; done) | (go_simp; rfl)); intro gb247 hg w5 hbox hb; have n0_ := Aside0.mk (below_step (by repeat (first | (with_reducible first | exact HB.out | apply below_alloc | apply pw_below_drewN | apply below_drew1) | exact HB.out)) hb); have n1_ := Aside0.mk (hbox); have n2_ := Aside0.mk ((by rw [hg]; exact (below_size (by repeat (first | (with_reducible first | exact HB.out | apply below_alloc | apply pw_below_drewN | apply below_drew1) | exact HB.out))) : w.heap.size ≤ gb247)); have n3_ := Aside0.mk ((by rw [hg]; exact (below_size (by repeat (first | (with_reducible first | exact HB.out | apply below_alloc | apply pw_below_drewN | apply below_drew1) | exact HB.out))) : w.heap.size ≤ gb247)); clear HB; have HB := n0_; have BK247 := n1_; have GW247 := n2_; have GE247 := n3_; clear n0_ n1_ n2_ n3_; clear hb hbox hg; have hcz6_0 : w5.cell? ⟨gb247, 0, none⟩ = some (.int .i64 a0_0) := (blk_cell BK247.out 0).trans rfl; have hcz6_1 : w5.cell? ⟨gb247, 1, none⟩ = some (.int .i64 a0_1) := (blk_cell BK247.out 1).trans rfl; have hfz6_0 := blk_frozen BK247.out 0; have hfz6_1 := blk_frozen BK247.out 1) | ((with_reducible refine gate_callee (f := 93) rfl ?_); refine goesL_ (some 5) rfl rfl Try.func93 (by kernel_rfl) rfl #[.int .i64 a0_0, .int .i64 (-40), .int .i64 39] rfl (by (try simp only [List.map_toArray, List.map_cons, List.map_nil]); first | done | rfl | (simp only [List.length_drop, List.length_take]; rfl)) ?_; (with_reducible refine (impl_within.calls a0_0 (-40) 39 true _ A2.out).mono ?_); rintro e w' ⟨rfl, ⟨nd, rfl⟩⟩; refine ⟨_, rfl, ?_⟩) | (go_at_call 93; (with_reducible refine (impl_within.calls a0_1 (-40) 39 t249 _ A4.out).mono ?_); rintro e w' ⟨rfl, ⟨nd, rfl⟩⟩))
    go_ret
    exact ⟨by first | rfl | (simp [errW_none, errW_some] <;> rfl) | (simp [*, errW_none, errW_some] <;> rfl), by repeat (first | (with_reducible first | exact HB.out | apply below_alloc | apply pw_below_drewN | apply below_drew1 | refine below_set ?_ GE247.out) | exact HB.out)⟩
  · replace c3 := Bool.eq_false_iff.mpr c3
    subst c3
    have H1 : (some false) = some r := by rw [if_neg (show ¬ (false = true) by decide)] at H; exact H
    clear H
    have H := H1
    clear H1
    obtain rfl := Option.some.inj H
    go_enter Try.func83, Try.ntmps83
    go_wp2_with (first | ((with_reducible refine gate_dst (N := 1) rfl ?_); refine box_event ?hg (N := 1) ?hd (cs := #[.int .i64 a0_0, .int .i64 a0_1]) (t := 36) ?hr ?_; (case hd => rfl); (case hg => rfl); (case hr => first | (go_simp; done) | (go_simp; rfl)); intro gb247 hg w7 hbox hb; have n0_ := Aside0.mk (below_step (by repeat (first | (with_reducible first | exact HB.out | apply below_alloc | apply pw_below_drewN | apply below_drew1) | exact HB.out)) hb); have n1_ := Aside0.mk (hbox); have n2_ := Aside0.mk ((by rw [hg]; exact (below_size (by repeat (first | (with_reducible first | exact HB.out | apply below_alloc | apply pw_below_drewN | apply below_drew1) | exact HB.out))) : w.heap.size ≤ gb247)); have n3_ := Aside0.mk ((by rw [hg]; exact (below_size (by repeat (first | (with_reducible first | exact HB.out | apply below_alloc | apply pw_below_drewN | apply below_drew1) | exact HB.out))) : w.heap.size ≤ gb247)); clear HB; have HB := n0_; have BK247 := n1_; have GW247 := n2_; have GE247 := n3_; clear n0_ n1_ n2_ n3_; clear hb hbox hg; have hcz8_0 : w7.cell? ⟨gb247, 0, none⟩ = some (.int .i64 a0_0) := (blk_cell BK247.out 0).trans rfl; have hcz8_1 : w7.cell? ⟨gb247, 1, none⟩ = some (.int .i64 a0_1) := (blk_cell BK247.out 1).trans rfl; have hfz8_0 := blk_frozen BK247.out 0; have hfz8_1 := blk_frozen BK247.out 1) | ((with_reducible refine gate_callee (f := 93) rfl ?_); refine goesL_ (some 5) rfl rfl Try.func93 (by kernel_rfl) rfl #[.int .i64 a0_0, .int .i64 (-40), .int .i64 39] rfl (by (try simp only [List.map_toArray, List.map_cons, List.map_nil]); first | done | rfl | (simp only [List.length_drop, List.length_take]; rfl)) ?_; (with_reducible refine (impl_within.calls a0_0 (-40) 39 false _ A2.out).mono ?_); rintro e w' ⟨rfl, ⟨nd, rfl⟩⟩; refine ⟨_, rfl, ?_⟩))
    go_ret
    exact ⟨by first | rfl | (simp [errW_none, errW_some] <;> rfl) | (simp [*, errW_none, errW_some] <;> rfl), by repeat (first | (with_reducible first | exact HB.out | apply below_alloc | apply pw_below_drewN | apply below_drew1 | refine below_set ?_ GE247.out) | exact HB.out)⟩

end Go.Proofs.Yteepckjegpnffaa.P

/-! ### Box -/
/- Small laws for walks by hand: a block whose cells are known. -/
set_option linter.unusedVariables false
set_option linter.unusedSimpArgs false
namespace Go.Proofs.Yteepckjegpnffaa.H
open Go.RowKit Go.Proofs.YteepckjegpnffaaW.PrintWords Go.Proofs.YteepckjegpnffaaW.PrintLast

section
variable {P : Program} {ops : Array Oper} {o : Oper} {rest : List Oper} {a : Act} {Q : Exit → Act → World → Prop} {W : World}
theorem wpList_build_nil (hg : o.guard = none) (t : TypeId) (ho : o.op = .build t #[]) (cells : Array Value) (hP : P.built t [] = some cells)
    (h : wpList P ops Q rest (a.put o.dst (.agg cells)) W) : wpList P ops Q (o :: rest) a W := by
  refine wpList_build hg t #[] ho ?_ ?_
  · simp only [List.map_toArray, List.map_nil, hP, Option.isSome_some]
  · simpa only [List.map_toArray, List.map_nil, hP, Option.getD_some] using h
end


/-! a block whose cells are known -/
def Box (w : World) (b : Nat) (cs : Array Value) (t : Nat) : Prop := w.heap[b]? = some (.cells cs t (0, 0))
section
variable {w w' : World} {b t : Nat} {cs : Array Value}
theorem Box.cell (h : Box w b cs t) (i : Nat) (v : Value) (hv : cs[i]? = some v) : w.cell? ⟨b, i, none⟩ = some v := by
  unfold Box at h
  simp only [World.cell?, h, Option.isSome_none, Bool.false_eq_true, if_false]
  exact hv
theorem Box.frozen (h : Box w b cs t) (i : Nat) : w.frozen? ⟨b, i, none⟩ = false := by
  unfold Box at h
  simp [World.frozen?, h]
theorem Box.lt (h : Box w b cs t) : b < w.heap.size := by
  unfold Box at h
  rcases Nat.lt_or_ge b w.heap.size with h1 | h1
  · exact h1
  · rw [Array.getElem?_eq_none h1] at h; cases h
theorem Box.below (h : Box w b cs t) (hb : Below w.heap.size w w') : Box w' b cs t := by
  have := h.lt
  unfold Box at *
  rw [hb.block b this]
  exact h
theorem Box.alloc (h : Box w b cs t) (o : Obj) : Box (w.alloc o) b cs t := h.below ((Below.refl _ _).alloc (Nat.le_refl _) _)
theorem Box.new (w : World) (cs : Array Value) (t : Nat) : Box (w.alloc (.cells cs t (0, 0))) w.heap.size cs t := blk_new w _
theorem Box.far (h : Box w b cs t) {p : Addr} (hp : p.block ≠ b) (v : Value) : Box (w.setCell p v) b cs t := by
  unfold Box at *
  rw [Below.heap_setCell w p v b (fun e => hp e.symm)]
  exact h
theorem Box.set (h : Box w b cs t) (i : Nat) (v : Value) (cs' : Array Value) (e : cs.setIfInBounds i v = cs') : Box (w.setCell ⟨b, i, none⟩ v) b cs' t := blk_put h i v e
theorem Box.drewN (h : Box w b cs t) (n : Nat) : Box (w.drewN n) b cs t := h
theorem Box.drew (h : Box w b cs t) : Box w.drew b cs t := h
end
/-- A byte of a slice that is read. -/
theorem byteCell {w : World} {A : Option Addr} {l : List Int} (h : Kd.C (Kd.int .u8) w A l.length l) (i : Nat) (hi : i < l.length) :
    ∃ ad, A = some ad ∧ w.cell? (ad.add i) = some (.int .u8 l[i]) := by
  obtain ⟨ad, c, e, hl, hK, hc⟩ := Kd.C_get h (0 : Int) (i : Int) (by omega) (by omega)
  have hK : c = [.int .u8 (l.getD (i : Int).toNat 0)] := hK
  subst hK
  refine ⟨ad, e, ?_⟩
  have := hc 0 _ rfl
  rw [Int.toNat_natCast] at this
  have e2 : l.getD i 0 = l[i] := by simp [List.getD_eq_getElem?_getD, hi]
  rw [e2] at this
  simpa [Kd.int, Kd.scalar] using this
end Go.Proofs.Yteepckjegpnffaa.H

/-! ### Boxes -/
/- Several blocks whose cells are known, the newest first; and steps of a walk by hand over them: a struct's box made, written whole, read whole. -/
set_option linter.unusedVariables false
set_option linter.unusedSimpArgs false
namespace Go.Proofs.Yteepckjegpnffaa.H
open Go.RowKit Go.Proofs.YteepckjegpnffaaW.PrintWords Go.Proofs.YteepckjegpnffaaW.PrintLast

/-- The blocks, newest first. -/
def Bxs (w : World) : List (Nat × Array Value × Nat) → Prop
  | [] => True
  | x :: l => Box w x.1 x.2.1 x.2.2 ∧ (∀ y ∈ l, y.1 ≠ x.1) ∧ Bxs w l
section
variable {w w' : World} {l : List (Nat × Array Value × Nat)}
theorem Bxs.lt : ∀ {l : List (Nat × Array Value × Nat)}, Bxs w l → ∀ y ∈ l, y.1 < w.heap.size
  | [], _, y, hy => by cases hy
  | x :: l, h, y, hy => by
    rcases List.mem_cons.1 hy with rfl | hy
    · exact h.1.lt
    · exact Bxs.lt h.2.2 y hy
theorem Bxs.at : ∀ {l : List (Nat × Array Value × Nat)}, Bxs w l → ∀ {g : Nat} {cs : Array Value} {t : Nat}, (g, cs, t) ∈ l → Box w g cs t
  | [], _, _, _, _, hy => by cases hy
  | x :: l, h, _, _, _, hy => by
    rcases List.mem_cons.1 hy with rfl | hy
    · exact h.1
    · exact Bxs.at h.2.2 hy
theorem Bxs.below (hb : Below w.heap.size w w') : ∀ {l : List (Nat × Array Value × Nat)}, Bxs w l → Bxs w' l
  | [], _ => trivial
  | _ :: _, h => ⟨h.1.below hb, h.2.1, Bxs.below hb h.2.2⟩
theorem Bxs.keep {g : Nat} (hk : KeepBut w w' g none) : ∀ {l : List (Nat × Array Value × Nat)}, Bxs w l → (∀ y ∈ l, y.1 ≠ g) → Bxs w' l
  | [], _, _ => trivial
  | x :: l, h, hg => ⟨hk.blk h.1 (hg x (by simp)) (by simp), h.2.1, Bxs.keep hk h.2.2 (fun y hy => hg y (by simp [hy]))⟩
theorem Bxs.push {g t : Nat} {cs : Array Value} (h : Bxs w l) (hg : w.heap.size ≤ g) (hb : Below w.heap.size w w') (hx : Box w' g cs t) : Bxs w' ((g, cs, t) :: l) :=
  ⟨hx, fun y hy => by have := h.lt y hy; show y.1 ≠ g; omega, h.below hb⟩
theorem Bxs.skip {g t : Nat} {cs : Array Value} (h : Bxs w ((g, cs, t) :: l)) : Bxs w l := h.2.2
theorem Bxs.drew (h : Bxs w l) : Bxs w.drew l := Bxs.below (w' := w.drew) (Below.refl w.heap.size w).drew h
/-- The newest block, written. -/
theorem Bxs.set0 {g t : Nat} {cs cs' : Array Value} (h : Bxs w ((g, cs, t) :: l)) (hx : Box w' g cs' t) (hk : KeepBut w w' g none) : Bxs w' ((g, cs', t) :: l) :=
  ⟨hx, h.2.1, Bxs.keep hk h.2.2 h.2.1⟩
/-- The second newest block, written. -/
theorem Bxs.set1 {x : Nat × Array Value × Nat} {g t : Nat} {cs cs' : Array Value} (h : Bxs w (x :: (g, cs, t) :: l)) (hx : Box w' g cs' t) (hk : KeepBut w w' g none) : Bxs w' (x :: (g, cs', t) :: l) := by
  obtain ⟨h0, h1, h2⟩ := h
  have hne : x.1 ≠ g := fun e => h1 (g, cs, t) (by simp) e.symm
  exact ⟨hk.blk h0 hne (by simp), fun y hy => by
    rcases List.mem_cons.1 hy with rfl | hy
    · exact hne.symm
    · exact h1 y (by simp [hy]), Bxs.set0 h2 hx hk⟩
end

section
variable {P : Program} {ops : Array Oper} {o : Oper} {rest : List Oper} {a : Act} {Q : Exit → Act → World → Prop} {W : World}
theorem keep_setRow (W : World) (g : Nat) (cs : Array Value) : KeepBut W (W.setRow g cs) g none :=
  ⟨by simp, fun i _ hi _ => setRow_other W g i cs hi⟩
theorem Below.setRow' {n g : Nat} {w0 w w1 : World} (h : Below n w0 w) (hg : n ≤ g) (hb : ∀ n, n ≤ g → Below n w w1) : Below n w0 w1 := h.trans (hb n hg)
/-- A box is written whole. -/
theorem box_store (hgd : o.guard = none) (ty : TypeId) (x y : Operand) (ho : o.op = .store ty x y) (hd : o.dst = none)
    (g : Nat) (cells : Array Value) (hx : a.eval x = .pointer (some ⟨g, 0, none⟩)) (hy : a.eval y = .agg cells)
    {t : Nat} {old : Array Value} (hg : Box W g old t) (hi : (P.info? ty).map (·.size) = some cells.size)
    (hold : old.size = cells.size) (h1 : cells.all (·.oneCell') = true)
    (h : ∀ w1, Box w1 g cells t → KeepBut W w1 g none → (∀ n, n ≤ g → Below n W w1) → wpList P ops Q rest a w1) : wpList P ops Q (o :: rest) a W :=
  wpList_store_row hgd ty x y ho g cells hx hy t old hg hi hold h1
    (by rw [hd]; exact h _ (setRow_heap W g old cells t (0, 0) hg) (keep_setRow W g cells) (fun n hn => ⟨rfl, rfl, rfl, by simp, fun i hi => setRow_other W g i cells (by omega)⟩))
/-- A box is read whole. -/
theorem box_load (hgd : o.guard = none) (ty : TypeId) (x : Operand) (ho : o.op = .load ty x)
    (g : Nat) (hx : a.eval x = .pointer (some ⟨g, 0, none⟩)) {t : Nat} {cs : Array Value} (hg : Box W g cs t) (d : TypeDesc)
    (hu : P.underlying ty = some d) (hd : (match d with | .struct _ | .array _ _ => true | _ => false) = true) (hi : (P.info? ty).map (·.size) = some cs.size)
    (h : wpList P ops Q rest (a.put o.dst (.agg cs)) W) : wpList P ops Q (o :: rest) a W :=
  wpList_load_row hgd ty x ho g hx t cs (0, 0) d hg hu hd hi h
end
end Go.Proofs.Yteepckjegpnffaa.H

/-! ### Px11 -/
namespace Go.Proofs.Yteepckjegpnffaa.P
open Go.RowKit Go.Proofs.YteepckjegpnffaaW.PrintWords Go.Proofs.YteepckjegpnffaaW.PrintLast Go.Proofs.YteepckjegpnffaaW.PrintMore
attribute [local go_sem] max2_int min2_int max_two min_two max_three min_three max_four min_four   -- for this text's walks alone
set_option linter.unusedVariables false
set_option linter.unusedSimpArgs false

/-! ### spec_l11Overlap: function 102 -/
def spec_l11Overlap.f (a0_0 : Int) (a0_1 : Int) (a0_2 : Int) (a0_3 : Int) (a1_0 : Int) (a1_1 : Int) (a1_2 : Int) (a1_3 : Int) : Option (Bool) := if a0_0 < a1_2 then (if a1_0 < a0_2 then (if a0_1 < a1_3 then (some (decide (a1_1 < a0_3))) else (some false)) else (some false)) else (some false)
set_option maxHeartbeats 8000000 in
set_option maxRecDepth 100000 in
theorem spec_l11Overlap.calls (a0_0 : Int) (a0_1 : Int) (a0_2 : Int) (a0_3 : Int) (a1_0 : Int) (a1_1 : Int) (a1_2 : Int) (a1_3 : Int) (r : Bool) (w : World) (h : spec_l11Overlap.f a0_0 a0_1 a0_2 a0_3 a1_0 a1_1 a1_2 a1_3 = some r) :
    Calls Try.prog 102 #[.agg #[.int .i64 a0_0, .int .i64 a0_1, .int .i64 a0_2, .int .i64 a0_3], .agg #[.int .i64 a1_0, .int .i64 a1_1, .int .i64 a1_2, .int .i64 a1_3]] w fun e w' => e = .returned (.bool r) ∧ Below w.heap.size w w' := by
  have hu65 := Try.underlying65
  have HB := Aside0.mk (Below.refl w.heap.size w)
  have H : (if a0_0 < a1_2 then (if a1_0 < a0_2 then (if a0_1 < a1_3 then (some (decide (a1_1 < a0_3))) else (some false)) else (some false)) else (some false)) = some r := h
  clear h
  by_cases c3 : a0_0 < a1_2
  · rw [if_pos c3] at H
    have c3b0 : decide (a0_0 < a1_2) = true := decide_eq_true c3
    clear c3
    by_cases c4 : a1_0 < a0_2
    · rw [if_pos c4] at H
      have c4b0 : decide (a1_0 < a0_2) = true := decide_eq_true c4
      clear c4
      by_cases c5 : a0_1 < a1_3
      · rw [if_pos c5] at H
        have c5b0 : decide (a0_1 < a1_3) = true := decide_eq_true c5
        clear c5
        obtain rfl := Option.some.inj H
        go_enter Try.func102, Try.ntmps102
        go_wp2_with (first | ((with_reducible refine gate_dst (N := 2) rfl ?_); refine box_event ?hg (N := 2) ?hd (cs := #[.int .i64 a0_0, .int .i64 a0_1, .int .i64 a0_2, .int .i64 a0_3]) (t := 65) ?hr ?_; (case hd => rfl); (case hg => rfl); (case hr => first | (go_simp; done) | (go_simp; rfl)); intro gb123 hg w6 hbox hb; have n0_ := Aside0.mk (below_step (by repeat (first | (with_reducible first | exact HB.out | apply below_alloc | apply pw_below_drewN | apply below_drew1) | exact HB.out)) hb); have n1_ := Aside0.mk (hbox); have n2_ := Aside0.mk ((by rw [hg]; exact (below_size (by repeat (first | (with_reducible first | exact HB.out | apply below_alloc | apply pw_below_drewN | apply below_drew1) | exact HB.out))) : w.heap.size ≤ gb123)); have n3_ := Aside0.mk ((by rw [hg]; exact (below_size (by repeat (first | (with_reducible first | exact HB.out | apply below_alloc | apply pw_below_drewN | apply below_drew1) | exact HB.out))) : w.heap.size ≤ gb123)); clear HB; have HB := n0_; have BK123 := n1_; have GW123 := n2_; have GE123 := n3_; clear n0_ n1_ n2_ n3_; clear hb hbox hg) | ((with_reducible refine gate_dst (N := 3) rfl ?_); refine box_event ?hg (N := 3) ?hd (cs := #[.int .i64 a1_0, .int .i64 a1_1, .int .i64 a1_2, .int .i64 a1_3]) (t := 65) ?hr ?_; (case hd => rfl); (case hg => rfl); (case hr => first | (go_simp; done) | (go_simp; rfl)); intro gb124 hg w7 hbox hb; have n0_ := Aside0.mk (blk_below (g := gb123) (o := .cells #[.int .i64 a0_0, .int .i64 a0_1, .int .i64 a0_2, .int .i64 a0_3] 65 (0, 0)) (by (with_reducible repeat (first | refine blk_drewN ?_ _ | refine blk_drew ?_ | refine blk_alloc ?_ _)); exact BK123.out) hb); have n1_ := Aside0.mk (below_step (by repeat (first | (with_reducible first | exact HB.out | apply below_alloc | apply pw_below_drewN | apply below_drew1 | refine below_set ?_ GE123.out) | exact HB.out)) hb); have n2_ := Aside0.mk (hbox); have n3_ := Aside0.mk ((by rw [hg]; exact (below_size (by repeat (first | (with_reducible first | exact HB.out | apply below_alloc | apply pw_below_drewN | apply below_drew1 | refine below_set ?_ GE123.out) | exact HB.out))) : w.heap.size ≤ gb124)); have n4_ := Aside0.mk ((by rw [hg]; exact (below_size (by repeat (first | (with_reducible first | exact HB.out | apply below_alloc | apply pw_below_drewN | apply below_drew1 | refine below_set ?_ GE123.out) | exact HB.out))) : w.heap.size ≤ gb124)); have n5_ := Aside0.mk ((by rw [hg]; exact Nat.ne_of_lt (blk_lt (g := gb123) (o := .cells #[.int .i64 a0_0, .int .i64 a0_1, .int .i64 a0_2, .int .i64 a0_3] 65 (0, 0)) (by (with_reducible repeat (first | refine blk_drewN ?_ _ | refine blk_drew ?_ | refine blk_alloc ?_ _)); exact BK123.out)) : gb123 ≠ gb124)); have n6_ := Aside0.mk ((by rw [hg]; exact Nat.ne_of_gt (blk_lt (g := gb123) (o := .cells #[.int .i64 a0_0, .int .i64 a0_1, .int .i64 a0_2, .int .i64 a0_3] 65 (0, 0)) (by (with_reducible repeat (first | refine blk_drewN ?_ _ | refine blk_drew ?_ | refine blk_alloc ?_ _)); exact BK123.out)) : gb124 ≠ gb123)); clear BK123; clear HB; have BK123 := n0_; have HB := n1_; have BK124 := n2_; have GW124 := n3_; have GE124 := n4_; have NB123_124 := n5_; have NB124_123 := n6_; clear n0_ n1_ n2_ n3_ n4_ n5_ n6_; clear hb hbox hg; have hnb8 := NB123_124.out; have hnc8 := NB124_123.out; have hcz9_0 : w7.cell? ⟨gb123, 0, none⟩ = some (.int .i64 a0_0) := (blk_cell BK123.out 0).trans rfl; have hcz9_1 : w7.cell? ⟨gb123, 1, none⟩ = some (.int .i64 a0_1) := (blk_cell BK123.out 1).trans rfl; have hcz9_2 : w7.cell? ⟨gb123, 2, none⟩ = some (.int .i64 a0_2) := (blk_cell BK123.out 2).trans rfl; have hcz9_3 : w7.cell? ⟨gb123, 3, none⟩ = some (.int .i64 a0_3) := (blk_cell BK123.out 3).trans rfl; have hfz9_0 := blk_frozen BK123.out 0; have hfz9_1 := blk_frozen BK123.out 1; have hfz9_2 := blk_frozen BK123.out 2; have hfz9_3 := blk_frozen BK123.out 3; have hcz10_0 : w7.cell? ⟨gb124, 0, none⟩ = some (.int .i64 a1_0) := (blk_cell BK124.out 0).trans rfl; have hcz10_1 : w7.cell? ⟨gb124, 1, none⟩ = some (.int .i64 a1_1) := (blk_cell BK124.out 1).trans rfl; have hcz10_2 : w7.cell? ⟨gb124, 2, none⟩ = some (.int .i64 a1_2) := (blk_cell BK124.out 2).trans rfl; have hcz10_3 : w7.cell? ⟨gb124, 3, none⟩ = some (.int .i64 a1_3) := (blk_cell BK124.out 3).trans rfl; have hfz10_0 := blk_frozen BK124.out 0; have hfz10_1 := blk_frozen BK124.out 1; have hfz10_2 := blk_frozen BK124.out 2; have hfz10_3 := blk_frozen BK124.out 3))
        go_ret
        exact ⟨by first | rfl | (simp [errW_none, errW_some] <;> rfl) | (simp [*, errW_none, errW_some] <;> rfl), by repeat (first | (with_reducible first | exact HB.out | apply below_alloc | apply pw_below_drewN | apply below_drew1 | refine below_set ?_ GE123.out | refine below_set ?_ GE124.out) | exact HB.out)⟩
      · rw [if_neg c5] at H
        have c5b0 : decide (a0_1 < a1_3) = false := decide_eq_false c5
        clear c5
        obtain rfl := Option.some.inj H
        go_enter Try.func102, Try.ntmps102
        go_wp2_with (first | ((with_reducible refine gate_dst (N := 2) rfl ?_); refine box_event ?hg (N := 2) ?hd (cs := #[.int .i64 a0_0, .int .i64 a0_1, .int .i64 a0_2, .int .i64 a0_3]) (t := 65) ?hr ?_; (case hd => rfl); (case hg => rfl); (case hr => first | (go_simp; done) | (go_simp; rfl)); intro gb123 hg w11 hbox hb; have n0_ := Aside0.mk (below_step (by repeat (first | (with_reducible first | exact HB.out | apply below_alloc | apply pw_below_drewN | apply below_drew1) | exact HB.out)) hb); have n1_ := Aside0.mk (hbox); have n2_ := Aside0.mk ((by rw [hg]; exact (below_size (by repeat (first | (with_reducible first | exact HB.out | apply below_alloc | apply pw_below_drewN | apply below_drew1) | exact HB.out))) : w.heap.size ≤ gb123)); have n3_ := Aside0.mk ((by rw [hg]; exact (below_size (by repeat (first | (with_reducible first | exact HB.out | apply below_alloc | apply pw_below_drewN | apply below_drew1) | exact HB.out))) : w.heap.size ≤ gb123)); clear HB; have HB := n0_; have BK123 := n1_; have GW123 := n2_; have GE123 := n3_; clear n0_ n1_ n2_ n3_; clear hb hbox hg) | ((with_reducible refine gate_dst (N := 3) rfl ?_); refine box_event ?hg (N := 3) ?hd (cs := #[.int .i64 a1_0, .int .i64 a1_1, .int .i64 a1_2, .int .i64 a1_3]) (t := 65) ?hr ?_; (case hd => rfl); (case hg => rfl); (case hr => first | (go_simp; done) | (go_simp; rfl)); intro gb124 hg w12 hbox hb; have n0_ := Aside0.mk (blk_below (g := gb123) (o := .cells #[.int .i64 a0_0, .int .i64 a0_1, .int .i64 a0_2, .int .i64 a0_3] 65 (0, 0)) (by (with_reducible repeat (first | refine blk_drewN ?_ _ | refine blk_drew ?_ | refine blk_alloc ?_ _)); exact BK123.out) hb); have n1_ := Aside0.mk (below_step (by repeat (first | (with_reducible first | exact HB.out | apply below_alloc | apply pw_below_drewN | apply below_drew1 | refine below_set ?_ GE123.out) | exact HB.out)) hb); have n2_ := Aside0.mk (hbox); have n3_ := Aside0.mk ((by rw [hg]; exact (below_size (by repeat (first | (with_reducible first | exact HB.out | apply below_alloc | apply pw_below_drewN | apply below_drew1 | refine below_set ?_ GE123.out) | exact HB.out))) : w.heap.size ≤ gb124)); have n4_ := Aside0.mk ((by rw [hg]; exact (below_size (by repeat (first | (with_reducible first | exact HB.out | apply below_alloc | apply pw_below_drewN | apply below_drew1 | refine below_set ?_ GE123.out) | exact HB.out))) : w.heap.size ≤ gb124)); have n5_ := Aside0.mk ((by rw [hg]; exact Nat.ne_of_lt (blk_lt (g := gb123) (o := .cells #[.int .i64 a0_0, .int .i64 a0_1, .int .i64 a0_2, .int .i64 a0_3] 65 (0, 0)) (by (with_reducible repeat (first | refine blk_drewN ?_ _ | refine blk_drew ?_ | refine blk_alloc ?_ _)); exact BK123.out)) : gb123 ≠ gb124)); have n6_ := Aside0.mk ((by rw [hg]; exact Nat.ne_of_gt (blk_lt (g := gb123) (o := .cells #[.int .i64 a0_0, .int .i64 a0_1, .int .i64 a0_2, .int .i64 a0_3] 65 (0, 0)) (by (with_reducible repeat (first | refine blk_drewN ?_ _ | refine blk_drew ?_ | refine blk_alloc ?_ _)); exact BK123.out)) : gb124 ≠ gb123)); clear BK123; clear HB; have BK123 := n0_; have HB := n1_; have BK124 := n2_; have GW124 := n3_; have GE124 := n4_; have NB123_124 := n5_; have NB124_123 := n6_; clear n0_ n1_ n2_ n3_ n4_ n5_ n6_; clear hb hbox hg; have hnb13 := NB123_124.out; have hnc13 := NB124_123.out; have hcz14_0 : w12.cell? ⟨gb123, 0, none⟩ = some (.int .i64 a0_0) := (blk_cell BK123.out 0).trans rfl; have hcz14_1 : w12.cell? ⟨gb123, 1, none⟩ = some (.int .i64 a0_1) := (blk_cell BK123.out 1).trans rfl; have hcz14_2 : w12.cell? ⟨gb123, 2, none⟩ = some (.int .i64 a0_2) := (blk_cell BK123.out 2).trans rfl; have hcz14_3 : w12.cell? ⟨gb123, 3, none⟩ = some (.int .i64 a0_3) := (blk_cell BK123.out 3).trans rfl; have hfz14_0 := blk_frozen BK123.out 0; have hfz14_1 := blk_frozen BK123.out 1; have hfz14_2 := blk_frozen BK123.out 2; have hfz14_3 := blk_frozen BK123.out 3; have hcz15_0 : w12.cell? ⟨gb124, 0, none⟩ = some (.int .i64 a1_0) := (blk_cell BK124.out 0).trans rfl; have hcz15_1 : w12.cell? ⟨gb124, 1, none⟩ = some (.int .i64 a1_1) := (blk_cell BK124.out 1).trans rfl; have hcz15_2 : w12.cell? ⟨gb124, 2, none⟩ = some (.int .i64 a1_2) := (blk_cell BK124.out 2).trans rfl; have hcz15_3 : w12.cell? ⟨gb124, 3, none⟩ = some (.int .i64 a1_3) := (blk_cell BK124.out 3).trans rfl; have hfz15_0 := blk_frozen BK124.out 0; have hfz15_1 := blk_frozen BK124.out 1; have hfz15_2 := blk_frozen BK124.out 2; have hfz15_3 := blk_frozen BK124.out 3))
        go_ret
        exact ⟨by first | rfl | (simp [errW_none, errW_some] <;> rfl) | (simp [*, errW_none, errW_some] <;> rfl), by repeat (first | (with_reducible first | exact HB.out | apply below_alloc | apply pw_below_drewN | apply below_drew1 | refine below_set ?_ GE123.out | refine below_set ?_ GE124.out) | exact HB.out)⟩
    · rw [if_neg c4] at H
      have c4b0 : decide (a1_0 < a0_2) = false := decide_eq_false c4
      clear c4
      obtain rfl := Option.some.inj H
      go_enter Try.func102, Try.ntmps102
      go_wp2_with (first | ((with_reducible refine gate_dst (N := 2) rfl ?_); refine box_event ?hg (N := 2) ?hd (cs := #[.int .i64 a0_0, .int .i64 a0_1, .int .i64 a0_2, .int .i64 a0_3]) (t := 65) ?hr ?_; (case hd => rfl); (case hg => rfl); (case hr => first | (go_simp; done) | (go_simp; rfl)); intro gb123 hg w16 hbox hb; have n0_ := Aside0.mk (below_step (by repeat (first | (with_reducible first | exact HB.out | apply below_alloc | apply pw_below_drewN | apply below_drew1) | exact HB.out)) hb); have n1_ := Aside0.mk (hbox); have n2_ := Aside0.mk ((by rw [hg]; exact (below_size (by repeat (first | (with_reducible first | exact HB.out | apply below_alloc | apply pw_below_drewN | apply below_drew1) | exact HB.out))) : w.heap.size ≤ gb123)); have n3_ := Aside0.mk ((by rw [hg]; exact (below_size (by repeat (first | (with_reducible first | exact HB.out | apply below_alloc | apply pw_below_drewN | apply below_drew1) | exact HB.out))) : w.heap.size ≤ gb123)); clear HB; have HB := n0_; have BK123 := n1_; have GW123 := n2_; have GE123 := n3_; clear n0_ n1_ n2_ n3_; clear hb hbox hg) | ((with_reducible refine gate_dst (N := 3) rfl ?_); refine box_event ?hg (N := 3) ?hd (cs := #[.int .i64 a1_0, .int .i64 a1_1, .int .i64 a1_2, .int .i64 a1_3]) (t := 65) ?hr ?_; (case hd => rfl); (case hg => rfl); (case hr => first | (go_simp; done) | (go_simp; rfl)); intro gb124 hg w17 hbox hb; have n0_ := Aside0.mk (blk_below (g := gb123) (o := .cells #[.int .i64 a0_0, .int .i64 a0_1, .int .i64 a0_2, .int .i64 a0_3] 65 (0, 0)) (by (with_reducible repeat (first | refine blk_drewN ?_ _ | refine blk_drew ?_ | refine blk_alloc ?_ _)); exact BK123.out) hb); have n1_ := Aside0.mk (below_step (by repeat (first | (with_reducible first | exact HB.out | apply below_alloc | apply pw_below_drewN | apply below_drew1 | refine below_set ?_ GE123.out) | exact HB.out)) hb); have n2_ := Aside0.mk (hbox); have n3_ := Aside0.mk ((by rw [hg]; exact (below_size (by repeat (first | (with_reducible first | exact HB.out | apply below_alloc | apply pw_below_drewN | apply below_drew1 | refine below_set ?_ GE123.out) | exact HB.out))) : w.heap.size ≤ gb124)); have n4_ := Aside0.mk ((by rw [hg]; exact (below_size (by repeat (first | (with_reducible first | exact HB.out | apply below_alloc | apply pw_below_drewN | apply below_drew1 | refine below_set ?_ GE123.out) | exact HB.out))) : w.heap.size ≤ gb124)); have n5_ := Aside0.mk ((by rw [hg]; exact Nat.ne_of_lt (blk_lt (g := gb123) (o := .cells #[.int .i64 a0_0, .int .i64 a0_1, .int .i64 a0_2, .int .i64 a0_3] 65 (0, 0)) (by (with_reducible repeat (first | refine blk_drewN ?_ _ | refine blk_drew ?_ | refine blk_alloc ?_ _)); exact BK123.out)) : gb123 ≠ gb124)); have n6_ := Aside0.mk ((by rw [hg]; exact Nat.ne_of_gt (blk_lt (g := gb123) (o := .cells #[.int .i64 a0_0, .int .i64 a0_1, .int .i64 a0_2, .int .i64 a0_3] 65 (0, 0)) (by (with_reducible repeat (first | refine blk_drewN ?_ _ | refine blk_drew ?_ | refine blk_alloc ?_ _)); exact BK123.out)) : gb124 ≠ gb123)); clear BK123; clear HB; have BK123 := n0_; have HB := n1_; have BK124 := n2_; have GW124 := n3_; have GE124 := n4_; have NB123_124 := n5_; have NB124_123 := n6_; clear n0_ n1_ n2_ n3_ n4_ n5_ n6_; clear hb hbox hg; have hnb18 := NB123_124.out; have hnc18 := NB124_123.out; have hcz19_0 : w17.cell? ⟨gb123, 0, none⟩ = some (.int .i64 a0_0) := (blk_cell BK123.out 0).trans rfl; have hcz19_1 : w17.cell? ⟨gb123, 1, none⟩ = some (.int .i64 a0_1) := (blk_cell BK123.out 1).trans rfl; have hcz19_2 : w17.cell? ⟨gb123, 2, none⟩ = some (.int .i64 a0_2) := (blk_cell BK123.out 2).trans rfl; have hcz19_3 : w17.cell? ⟨gb123, 3, none⟩ = some (.int .i64 a0_3) := (blk_cell BK123.out 3).trans rfl; have hfz19_0 := blk_frozen BK123.out 0; have hfz19_1 := blk_frozen BK123.out 1; have hfz19_2 := blk_frozen BK123.out 2; have hfz19_3 := blk_frozen BK123.out 3; have hcz20_0 : w17.cell? ⟨gb124, 0, none⟩ = some (.int .i64 a1_0) := (blk_cell BK124.out 0).trans rfl; have hcz20_1 : w17.cell? ⟨gb124, 1, none⟩ = some (.int .i64 a1_1) := (blk_cell BK124.out 1).trans rfl; have hcz20_2 : w17.cell? ⟨gb124, 2, none⟩ = some (.int .i64 a1_2) := (blk_cell BK124.out 2).trans rfl; have hcz20_3 : w17.cell? ⟨gb124, 3, none⟩ = some (.int .i64 a1_3) := (blk_cell BK124.out 3).trans rfl; have hfz20_0 := blk_frozen BK124.out 0; have hfz20_1 := blk_frozen BK124.out 1; have hfz20_2 := blk_frozen BK124.out 2; have hfz20_3 := blk_frozen BK124.out 3))
      go_ret
      exact ⟨by first | rfl | (simp [errW_none, errW_some] <;> rfl) | (simp [*, errW_none, errW_some] <;> rfl), by repeat (first | (with_reducible first | exact HB.out | apply below_alloc | apply pw_below_drewN | apply below_drew1 | refine below_set ?_ GE123.out | refine below_set ?_ GE124.out) | exact HB.out)⟩
  · rw [if_neg c3] at H
    have c3b0 : decide (a0_0 < a1_2) = false := decide_eq_false c3
    clear c3
    obtain rfl := Option.some.inj H
    go_enter Try.func102, Try.ntmps102
    go_wp2_with (first | ((with_reducible refine gate_dst (N := 2) rfl ?_); refine box_event ?hg (N := 2) ?hd (cs := #[.int .i64 a0_0, .int .i64 a0_1, .int .i64 a0_2, .int .i64 a0_3]) (t := 65) ?hr ?_; (case hd => rfl); (case hg => rfl); (case hr => first | (go_simp; done) | (go_simp; rfl)); intro gb123 hg w21 hbox hb; have n0_ := Aside0.mk (below_step (by repeat (first | (with_reducible first | exact HB.out | apply below_alloc | apply pw_below_drewN | apply below_drew1) | exact HB.out)) hb); have n1_ := Aside0.mk (hbox); have n2_ := Aside0.mk ((by rw [hg]; exact (below_size (by repeat (first | (with_reducible first | exact HB.out | apply below_alloc | apply pw_below_drewN | apply below_drew1) | exact HB.out))) : w.heap.size ≤ gb123)); have n3_ := Aside0.mk ((by rw [hg]; exact (below_size (by repeat (first | (with_reducible first | exact HB.out | apply below_alloc | apply pw_below_drewN | apply below_drew1) | exact HB.out))) : w.heap.size ≤ gb123)); clear HB; have HB := n0_; have BK123 := n1_; have GW123 := n2_; have GE123 := n3_; clear n0_ n1_ n2_ n3_; clear hb hbox hg) | ((with_reducible refine gate_dst (N := 3) rfl ?_); refine box_event ?hg (N := 3) ?hd (cs := #[.int .i64 a1_0, .int .i64 a1_1, .int .i64 a1_2, .int .i64 a1_3]) (t := 65) ?hr ?_; (case hd => rfl); (case hg => rfl); (case hr => first | (go_simp; done) | (go_simp; rfl)); intro gb124 hg w22 hbox hb; have n0_ := Aside0.mk (blk_below (g := gb123) (o := .cells #[.int .i64 a0_0, .int .i64 a0_1, .int .i64 a0_2, .int .i64 a0_3] 65 (0, 0)) (by (with_reducible repeat (first | refine blk_drewN ?_ _ | refine blk_drew ?_ | refine blk_alloc ?_ _)); exact BK123.out) hb); have n1_ := Aside0.mk (below_step (by repeat (first | (with_reducible first | exact HB.out | apply below_alloc | apply pw_below_drewN | apply below_drew1 | refine below_set ?_ GE123.out) | exact HB.out)) hb); have n2_ := Aside0.mk (hbox); have n3_ := Aside0.mk ((by rw [hg]; exact (below_size (by repeat (first | (with_reducible first | exact HB.out | apply below_alloc | apply pw_below_drewN | apply below_drew1 | refine below_set ?_ GE123.out) | exact HB.out))) : w.heap.size ≤ gb124)); have n4_ := Aside0.mk ((by rw [hg]; exact (below_size (by repeat (first | (with_reducible first | exact HB.out | apply below_alloc | apply pw_below_drewN | apply below_drew1 | refine below_set ?_ GE123.out) | exact HB.out))) : w.heap.size ≤ gb124)); have n5_ := Aside0.mk ((by rw [hg]; exact Nat.ne_of_lt (blk_lt (g := gb123) (o := .cells #[.int .i64 a0_0, .int .i64 a0_1, .int .i64 a0_2, .int .i64 a0_3] 65 (0, 0)) (by (with_reducible repeat (first | refine blk_drewN ?_ _ | refine blk_drew ?_ | refine blk_alloc ?_ _)); exact BK123.out)) : gb123 ≠ gb124)); have n6_ := Aside0.mk ((by rw [hg]; exact Nat.ne_of_gt (blk_lt (g := gb123) (o := .cells #[.int .i64 a0_0, .int .i64 a0_1, .int .i64 a0_2, .int .i64 a0_3] 65 (0, 0)) (by (with_reducible repeat (first | refine blk_drewN ?_ _ | refine blk_drew ?_ | refine blk_alloc ?_ _)); exact BK123.out)) : gb124 ≠ gb123)); clear BK123; clear HB; have BK123 := n0_; have HB := n1_; have BK124 := n2_; have GW124 := n3_; have GE124 := n4_; have NB123_124 := n5_; have NB124_123 := n6_; clear n0_ n1_ n2_ n3_ n4_ n5_ n6_; clear hb hbox hg; have hnb23 := NB123_124.out; have hnc23 := NB124_123.out; have hcz24_0 : w22.cell? ⟨gb123, 0, none⟩ = some (.int .i64 a0_0) := (blk_cell BK123.out 0).trans rfl; have hcz24_1 : w22.cell? ⟨gb123, 1, none⟩ = some (.int .i64 a0_1) := (blk_cell BK123.out 1).trans rfl; have hcz24_2 : w22.cell? ⟨gb123, 2, none⟩ = some (.int .i64 a0_2) := (blk_cell BK123.out 2).trans rfl; have hcz24_3 : w22.cell? ⟨gb123, 3, none⟩ = some (.int .i64 a0_3) := (blk_cell BK123.out 3).trans rfl; have hfz24_0 := blk_frozen BK123.out 0; have hfz24_1 := blk_frozen BK123.out 1; have hfz24_2 := blk_frozen BK123.out 2; have hfz24_3 := blk_frozen BK123.out 3; have hcz25_0 : w22.cell? ⟨gb124, 0, none⟩ = some (.int .i64 a1_0) := (blk_cell BK124.out 0).trans rfl; have hcz25_1 : w22.cell? ⟨gb124, 1, none⟩ = some (.int .i64 a1_1) := (blk_cell BK124.out 1).trans rfl; have hcz25_2 : w22.cell? ⟨gb124, 2, none⟩ = some (.int .i64 a1_2) := (blk_cell BK124.out 2).trans rfl; have hcz25_3 : w22.cell? ⟨gb124, 3, none⟩ = some (.int .i64 a1_3) := (blk_cell BK124.out 3).trans rfl; have hfz25_0 := blk_frozen BK124.out 0; have hfz25_1 := blk_frozen BK124.out 1; have hfz25_2 := blk_frozen BK124.out 2; have hfz25_3 := blk_frozen BK124.out 3))
    go_ret
    exact ⟨by first | rfl | (simp [errW_none, errW_some] <;> rfl) | (simp [*, errW_none, errW_some] <;> rfl), by repeat (first | (with_reducible first | exact HB.out | apply below_alloc | apply pw_below_drewN | apply below_drew1 | refine below_set ?_ GE123.out | refine below_set ?_ GE124.out) | exact HB.out)⟩

end Go.Proofs.Yteepckjegpnffaa.P

/-! ### Px12 -/
namespace Go.Proofs.Yteepckjegpnffaa.P
open Go.RowKit Go.Proofs.YteepckjegpnffaaW.PrintWords Go.Proofs.YteepckjegpnffaaW.PrintLast Go.Proofs.YteepckjegpnffaaW.PrintMore
attribute [local go_sem] max2_int min2_int max_two min_two max_three min_three max_four min_four   -- for this text's walks alone
set_option linter.unusedVariables false
set_option linter.unusedSimpArgs false

/-! ### spec_l11Bucket: function 112 -/
def spec_l11Bucket.f (a0 : Int) : Option (Int × Int × Int × Int) := some (wrap64 ((-40) + (wrap64 (16 * (Int.tmod a0 5)))), wrap64 ((-40) + (wrap64 (16 * (wrap64 (Int.tdiv a0 5))))), wrap64 ((wrap64 ((-40) + (wrap64 (16 * (Int.tmod a0 5))))) + 16), wrap64 ((wrap64 ((-40) + (wrap64 (16 * (wrap64 (Int.tdiv a0 5)))))) + 16))
set_option maxHeartbeats 8000000 in
set_option maxRecDepth 100000 in
theorem spec_l11Bucket.calls (a0 : Int) (r1 : Int) (r2 : Int) (r3 : Int) (r4 : Int) (w : World) (h : spec_l11Bucket.f a0 = some (r1, r2, r3, r4)) :
    Calls Try.prog 112 #[.int .i64 a0] w fun e w' => e = .returned (.agg #[.int .i64 r1, .int .i64 r2, .int .i64 r3, .int .i64 r4]) ∧ Below w.heap.size w w' := by
  have hu65 := Try.underlying65
  have HB := Aside0.mk (Below.refl w.heap.size w)
  have H : (some (wrap64 ((-40) + (wrap64 (16 * (Int.tmod a0 5)))), wrap64 ((-40) + (wrap64 (16 * (wrap64 (Int.tdiv a0 5))))), wrap64 ((wrap64 ((-40) + (wrap64 (16 * (Int.tmod a0 5))))) + 16), wrap64 ((wrap64 ((-40) + (wrap64 (16 * (wrap64 (Int.tdiv a0 5)))))) + 16))) = some (r1, r2, r3, r4) := h
  clear h
  simp only [Option.some.injEq, Prod.mk.injEq] at H
  obtain ⟨rfl, rfl, rfl, rfl⟩ := H
  go_enter Try.func112, Try.ntmps112
  go_wp2_with (first | ((with_reducible refine gate_dst (N := 2) rfl ?_); refine box_event ?hg (N := 2) ?hd (cs := #[.int .i64 0, .int .i64 0, .int .i64 0, .int .i64 0]) (t := 65) ?hr ?_; (case hd => rfl); (case hg => rfl); (case hr => first | (go_simp; done) | (go_simp; rfl)); intro gb125 hg w2 hbox hb; have n0_ := Aside0.mk (below_step (by repeat (first | (with_reducible first | exact HB.out | apply below_alloc | apply pw_below_drewN | apply below_drew1) | exact HB.out)) hb); have n1_ := Aside0.mk (hbox); have n2_ := Aside0.mk ((by rw [hg]; exact (below_size (by repeat (first | (with_reducible first | exact HB.out | apply below_alloc | apply pw_below_drewN | apply below_drew1) | exact HB.out))) : w.heap.size ≤ gb125)); have n3_ := Aside0.mk ((by rw [hg]; exact (below_size (by repeat (first | (with_reducible first | exact HB.out | apply below_alloc | apply pw_below_drewN | apply below_drew1) | exact HB.out))) : w.heap.size ≤ gb125)); clear HB; have HB := n0_; have BK125 := n1_; have GW125 := n2_; have GE125 := n3_; clear n0_ n1_ n2_ n3_; clear hb hbox hg; have hcz3_0 : w2.cell? ⟨gb125, 0, none⟩ = some (.int .i64 0) := (blk_cell BK125.out 0).trans rfl; have hcz3_1 : w2.cell? ⟨gb125, 1, none⟩ = some (.int .i64 0) := (blk_cell BK125.out 1).trans rfl; have hcz3_2 : w2.cell? ⟨gb125, 2, none⟩ = some (.int .i64 0) := (blk_cell BK125.out 2).trans rfl; have hcz3_3 : w2.cell? ⟨gb125, 3, none⟩ = some (.int .i64 0) := (blk_cell BK125.out 3).trans rfl; have hfz3_0 := blk_frozen BK125.out 0; have hfz3_1 := blk_frozen BK125.out 1; have hfz3_2 := blk_frozen BK125.out 2; have hfz3_3 := blk_frozen BK125.out 3))
  refine bodyPost_ret (results_cell_row rfl _ _ gb125 65 #[.int .i64 (wrap64 ((-40) + (wrap64 (16 * (Int.tmod a0 5))))), .int .i64 (wrap64 ((-40) + (wrap64 (16 * (wrap64 (Int.tdiv a0 5)))))), .int .i64 (wrap64 ((wrap64 ((-40) + (wrap64 (16 * (Int.tmod a0 5))))) + 16)), .int .i64 (wrap64 ((wrap64 ((-40) + (wrap64 (16 * (wrap64 (Int.tdiv a0 5)))))) + 16))] (0, 0) _ rfl (by (with_reducible repeat (first | refine blk_drewN ?_ _ | refine blk_drew ?_ | refine blk_alloc ?_ _)); refine blk_put (cs := #[.int .i64 (wrap64 ((-40) + (wrap64 (16 * (Int.tmod a0 5))))), .int .i64 (wrap64 ((-40) + (wrap64 (16 * (wrap64 (Int.tdiv a0 5)))))), .int .i64 (wrap64 ((wrap64 ((-40) + (wrap64 (16 * (Int.tmod a0 5))))) + 16)), .int .i64 0]) ?_ 3 _ rfl; (with_reducible repeat (first | refine blk_drewN ?_ _ | refine blk_drew ?_ | refine blk_alloc ?_ _)); refine blk_put (cs := #[.int .i64 (wrap64 ((-40) + (wrap64 (16 * (Int.tmod a0 5))))), .int .i64 (wrap64 ((-40) + (wrap64 (16 * (wrap64 (Int.tdiv a0 5)))))), .int .i64 0, .int .i64 0]) ?_ 2 _ rfl; (with_reducible repeat (first | refine blk_drewN ?_ _ | refine blk_drew ?_ | refine blk_alloc ?_ _)); refine blk_put (cs := #[.int .i64 (wrap64 ((-40) + (wrap64 (16 * (Int.tmod a0 5))))), .int .i64 0, .int .i64 0, .int .i64 0]) ?_ 1 _ rfl; (with_reducible repeat (first | refine blk_drewN ?_ _ | refine blk_drew ?_ | refine blk_alloc ?_ _)); refine blk_put (cs := #[.int .i64 0, .int .i64 0, .int .i64 0, .int .i64 0]) ?_ 0 _ rfl; (with_reducible repeat (first | refine blk_drewN ?_ _ | refine blk_drew ?_ | refine blk_alloc ?_ _)); exact BK125.out) Try.underlying65 rfl (by kernel_rfl)) rfl ?_
  exact ⟨by first | rfl | (simp [errW_none, errW_some] <;> rfl) | (simp [*, errW_none, errW_some] <;> rfl), by repeat (first | (with_reducible first | exact HB.out | apply below_alloc | apply pw_below_drewN | apply below_drew1 | refine below_set ?_ GE125.out) | exact HB.out)⟩

end Go.Proofs.Yteepckjegpnffaa.P

/-! ### Made -/
/- l11Made: the reference's index of a list of entries; walked by hand. -/
set_option linter.unusedVariables false
set_option linter.unusedSimpArgs false
namespace Go.Proofs.Yteepckjegpnffaa.Q
open Go.RowKit Go.Proofs.Yteepckjegpnffaa.P Go.Proofs.Yteepckjegpnffaa.H Go.Proofs.YteepckjegpnffaaW.PrintWords Go.Proofs.YteepckjegpnffaaW.PrintLast
def ovl (a b : S65) : Bool := decide (a.f0 < b.f2 ∧ b.f0 < a.f2 ∧ a.f1 < b.f3 ∧ b.f1 < a.f3)
def bkt (k : Nat) : S65 := ⟨-40 + 16 * ((k % 5 : Nat) : Int), -40 + 16 * ((k / 5 : Nat) : Int), -24 + 16 * ((k % 5 : Nat) : Int), -24 + 16 * ((k / 5 : Nat) : Int)⟩
/-- The ids of the entries that overlap bucket k. -/
def idsOf (l : List S94) (k : Nat) : List Int := (l.filter (fun e => ovl e.f1 (bkt k))).map (fun e => e.f0)
def made (l : List S94) : List (List Int) := (List.range 25).map (idsOf l)
theorem made_len (l : List S94) : (made l).length = 25 := by simp [made]
theorem made_get (l : List S94) (k : Nat) (h : k < 25) : (made l)[k]'(by rw [made_len]; exact h) = idsOf l k := by simp [made]
theorem overlap_f (a b : S65) : spec_l11Overlap.f a.f0 a.f1 a.f2 a.f3 b.f0 b.f1 b.f2 b.f3 = some (ovl a b) := by
  unfold spec_l11Overlap.f ovl
  by_cases h1 : a.f0 < b.f2 <;> by_cases h2 : b.f0 < a.f2 <;> by_cases h3 : a.f1 < b.f3 <;> simp [h1, h2, h3]
theorem bucket_all : ∀ k : Fin 25, spec_l11Bucket.f ((k.val : Nat) : Int) = some ((bkt k.val).f0, (bkt k.val).f1, (bkt k.val).f2, (bkt k.val).f3) := by decide +kernel
theorem bucket_f (k : Nat) (h : k < 25) : spec_l11Bucket.f (k : Int) = some ((bkt k).f0, (bkt k).f1, (bkt k).f2, (bkt k).f3) := bucket_all ⟨k, h⟩
theorem ids_succ (l : List S94) (k i : Nat) (h : i < l.length) : idsOf (l.take (i + 1)) k = if ovl l[i].f1 (bkt k) = true then idsOf (l.take i) k ++ [l[i].f0] else idsOf (l.take i) k := by
  unfold idsOf
  rw [List.take_succ_eq_append_getElem h, List.filter_append, List.map_append]
  by_cases ho : ovl l[i].f1 (bkt k) = true
  · rw [if_pos ho]; simp [ho]
  · rw [if_neg ho]; simp [ho]
theorem ids_len (l : List S94) (k : Nat) : (idsOf l k).length ≤ l.length := by
  unfold idsOf
  rw [List.length_map]
  exact List.length_filter_le _ _

/-- An entry that is read. -/
theorem entCells {w : World} {A : Option Addr} {l : List S94} (h : Kd.C k94 w A l.length l) (i : Nat) (hi : i < l.length) :
    ∃ ad, A = some ad ∧ w.cell? (ad.add (i * 5)) = some (.int .i64 l[i].f0) ∧ w.cell? ⟨(ad.add (i * 5)).block, (ad.add (i * 5)).off + 1, none⟩ = some (.int .i64 l[i].f1.f0) ∧ w.cell? ⟨(ad.add (i * 5)).block, (ad.add (i * 5)).off + 1 + 1, none⟩ = some (.int .i64 l[i].f1.f1) ∧ w.cell? ⟨(ad.add (i * 5)).block, (ad.add (i * 5)).off + 1 + 2, none⟩ = some (.int .i64 l[i].f1.f2) ∧ w.cell? ⟨(ad.add (i * 5)).block, (ad.add (i * 5)).off + 1 + 3, none⟩ = some (.int .i64 l[i].f1.f3) := by
  obtain ⟨ad, e, h0, h1, h2, h3, h4⟩ := at_T94 h (i : Int) (by omega) (by omega)
  have e2 : rd_T94 l (i : Int) = l[i] := by simp [rd_T94, List.getD_eq_getElem?_getD, hi]
  rw [e2] at h0 h1 h2 h3 h4
  rw [Int.toNat_natCast] at h0 h1 h2 h3 h4
  exact ⟨ad, e, h0, h1, h2, h3, h4⟩

abbrev kB : Kd (List Int) := Kd.slice 2 (Kd.int .i64)
theorem below_of_grown {w w1 : World} (h : w.grownBy w1 none) : Below w.heap.size w w1 := ⟨h.os, h.tape, h.output, h.size, fun i hi => h.block i hi (by simp)⟩
/-- The outer loop: buckets 0 to k-1 are made. -/
def ORel (A : Option Addr) (c : Nat) (l : List S94) (g2 g3 : Nat) (w : World) (v : Value) (w' : World) : Prop :=
  ∃ k : Nat, k ≤ 25 ∧ v = .int .i64 k ∧ Below w.heap.size w w' ∧ Box w' g2 #[.slice none 0 0, .slice none 0 0] 42 ∧
    ∃ vB, Box w' g3 #[.slice A l.length c, vB] 42 ∧ Kd.S kB 62 w' w.heap.size (fun _ => True) vB ((made l).take k)
/-- The inner loop: of bucket k the entries 0 to i-1 are through; n0: the heap's size when the bucket's round began. -/
def IRel (A : Option Addr) (c : Nat) (l : List S94) (g2 g3 : Nat) (w : World) (k n0 : Nat) (vB : Value) (v5 v6 : Value) (w' : World) : Prop :=
  ∃ i : Nat, i ≤ l.length ∧ n0 ≤ w'.heap.size ∧ v6 = .int .i64 i ∧ Below w.heap.size w w' ∧ Box w' g2 #[.slice none 0 0, .slice none 0 0] 42 ∧
    Box w' g3 #[.slice A l.length c, vB] 42 ∧ Kd.S kB 62 w' w.heap.size (fun b => b < n0) vB ((made l).take k) ∧
    Kd.R (Kd.int .i64) 2 w' w.heap.size (fun b => n0 ≤ b) v5 (idsOf (l.take i) k)
/-- What a region's loads read, and what stays. -/
abbrev EHeld (wr : World) (ad : Addr) (i : Nat) (e : S94) (w' : World) : Prop :=
  w'.cell? ⟨(ad.add (i * 5)).block, (ad.add (i * 5)).off + 1, none⟩ = some (.int .i64 e.f1.f0) ∧ w'.cell? ⟨(ad.add (i * 5)).block, (ad.add (i * 5)).off + 1 + 1, none⟩ = some (.int .i64 e.f1.f1) ∧ w'.cell? ⟨(ad.add (i * 5)).block, (ad.add (i * 5)).off + 1 + 2, none⟩ = some (.int .i64 e.f1.f2) ∧ w'.cell? ⟨(ad.add (i * 5)).block, (ad.add (i * 5)).off + 1 + 3, none⟩ = some (.int .i64 e.f1.f3) ∧ Below wr.heap.size wr w'
theorem EHeld.step {wr w1 w2 : World} {ad : Addr} {i : Nat} {e : S94} (h : EHeld wr ad i e w1) (hb : Below w1.heap.size w1 w2) : EHeld wr ad i e w2 := by
  obtain ⟨c1, c2, c3, c4, hB⟩ := h
  have k : ∀ (a : Addr) v, w1.cell? a = some v → w2.cell? a = some v := fun a v h => by rw [hb.cell (World.block_lt_of_cell? _ _ h)]; exact h
  exact ⟨k _ _ c1, k _ _ c2, k _ _ c3, k _ _ c4, hB.trans (hb.mono hB.size)⟩
set_option maxHeartbeats 800000 in
theorem made_calls (A : Option Addr) (c : Nat) (l : List S94) (w : World) (hr : Kd.C k94 w A l.length l) (hc : l.length ≤ c) (hl : l.length ≤ 8796093022207) :
    Calls Try.prog 69 #[.slice A l.length c] w fun e w' => ∃ vB, e = .returned (.agg #[.slice A l.length c, vB]) ∧ Kd.S kB 62 w' w.heap.size (fun _ => True) vB (made l) ∧ Below w.heap.size w w' := by
  have HR := Lib.hid hr
  have HC := Lib.hid hc
  clear hr hc
  have B := Lib.hid (Below.refl w.heap.size w)
  have X := Lib.hid (show Bxs w [] from trivial)
  go_enter Try.func69, Try.ntmps69
  go_wp2_with (first
    | ((with_reducible refine gate_dst (N := 2) rfl ?_); refine box_event rfl (N := 2) rfl (cs := #[.slice none 0 0, .slice none 0 0]) (t := 42) ?hr ?_; (case hr => first | (go_simp; done) | (go_simp; rfl)); intro g2 hg w1 hbox hb; have GE2 := Lib.hid (show w.heap.size ≤ g2 from by rw [hg]; exact B.out.size); replace X := Lib.hid (Bxs.push X.out (Nat.le_of_eq hg.symm) hb hbox); replace B := Lib.hid (B.out.trans (hb.mono B.out.size)); clear hb hbox hg)
    | ((with_reducible refine gate_dst (N := 3) rfl ?_); refine box_event rfl (N := 3) rfl (cs := #[.slice none 0 0, .slice none 0 0]) (t := 42) ?hr ?_; (case hr => first | (go_simp; done) | (go_simp; rfl)); intro g3 hg w1 hbox hb; have GE3 := Lib.hid (show w.heap.size ≤ g3 from by rw [hg]; exact B.out.size); replace X := Lib.hid (Bxs.push X.out (Nat.le_of_eq hg.symm) hb hbox); replace B := Lib.hid (B.out.trans (hb.mono B.out.size)); clear hb hbox hg)
    | ((with_reducible refine gate_store (p := 3) rfl ?_); refine box_store rfl 42 _ _ rfl rfl g3 (#[.slice A l.length c, .slice none 0 0]) rfl rfl (Bxs.at X.out (g := g3) (cs := #[.slice none 0 0, .slice none 0 0]) (t := 42) (by simp)) (by kernel_rfl) rfl (by simp [Value.oneCell']) ?_; intro w1 hx hk hb; replace X := Lib.hid (Bxs.set0 X.out hx hk); replace B := Lib.hid (B.out.trans (hb _ GE3.out)); clear hx hk hb))
  go_loopw [4] (fun v w' => ORel A c l g2 g3 w v w') (fun v _ => 25 - (intOf v).toNat)
  case atStart => exact ⟨0, by omega, rfl, B.out, X.out.2.2.1, _, X.out.1, Kd.S_nil _ _ _ _ _⟩
  case round =>
    have N23 := Lib.hid (X.out.2.1 (g2, #[.slice none 0 0, .slice none 0 0], 42) (by simp))
    clear B X
    obtain ⟨k, hk, rfl, hB, hx2, vB, hx3, hS⟩ := hrel
    have B := Lib.hid hB
    have X2 := Lib.hid hx2
    have X3 := Lib.hid hx3
    have SB := Lib.hid hS
    clear hB hx2 hx3 hS
    by_cases hlt : k < 25
    · obtain ⟨wo, rfl⟩ : ∃ wo : World, wo = wr := ⟨_, rfl⟩
      go_wp2_with (first
        | ((with_reducible refine gate_dst (N := 13) rfl ?_); refine Kd.R_lit (Kd.int .i64) (w0 := w) w.heap.size 2 rfl (N := 13) rfl (xs := ([] : List Int)) (inner := []) (ok := fun b => wo.heap.size ≤ b) (okp := fun _ => False) ?hr (Reps.none _ _) (fun _ hk => hk.elim) (Nat.le_refl _) B.out B.out.size (by simp) ?_; (case hr => first | (go_simp; done) | (go_simp; rfl)); intro v5 w1 ho hb hg hn; have hbw : Below wo.heap.size wo w1 := below_of_grown hg; have O1 := Lib.hid ho; have LE := Lib.hid hbw.size; have S1 := Lib.hid (Kd.S_mono (Kd.S_old SB.out hbw) (fun b h => h.2)); replace X2 := Lib.hid (X2.out.below hbw); replace X3 := Lib.hid (X3.out.below hbw); replace B := Lib.hid hb; clear ho hb hg hn hbw SB))
      generalize hn0 : wo.heap.size = n0 at *
      go_loopw [5, 6] (fun v5 v6 w' => IRel A c l g2 g3 w k n0 vB v5 v6 w') (fun _ v6 _ => l.length - (intOf v6).toNat)
      case atStart => exact ⟨0, by omega, LE.out, rfl, B.out, X2.out, X3.out, S1.out, O1.out⟩
      case round =>
        clear B X2 X3 S1 O1 LE
        obtain ⟨i, hi, hle, rfl, hB, hx2, hx3, hS, hO⟩ := hrel
        have B := Lib.hid hB
        have X2 := Lib.hid hx2
        have X3 := Lib.hid hx3
        have S1 := Lib.hid hS
        have O1 := Lib.hid hO
        clear hB hx2 hx3 hS hO
        by_cases hil : i < l.length
        · obtain ⟨ad, rfl, c0, c1, c2, c3, c4⟩ := entCells (Kd.C_below HR.out B.out) i hil
          have hsucc := ids_succ l k i hil
          generalize l[i] = en at *
          have HSU := Lib.hid hsucc
          have HE := Lib.hid (show EHeld wr ad i en wr.drew from ⟨c1, c2, c3, c4, (Below.refl _ _).drew⟩)
          have C0 := Lib.hid c0
          clear hsucc c0 c1 c2 c3 c4
          obtain ⟨wq, rfl⟩ : ∃ wq : World, wq = wr := ⟨_, rfl⟩
          go_wp2_with fail
          go_region_held3 (fun w' => w'.cell? ⟨(ad.add (i * 5)).block, (ad.add (i * 5)).off + 1, none⟩ = some (.int .i64 en.f1.f0) ∧ w'.cell? ⟨(ad.add (i * 5)).block, (ad.add (i * 5)).off + 1 + 1, none⟩ = some (.int .i64 en.f1.f1) ∧ w'.cell? ⟨(ad.add (i * 5)).block, (ad.add (i * 5)).off + 1 + 2, none⟩ = some (.int .i64 en.f1.f2) ∧ w'.cell? ⟨(ad.add (i * 5)).block, (ad.add (i * 5)).off + 1 + 3, none⟩ = some (.int .i64 en.f1.f3) ∧ Below wq.heap.size wq w') (first | exact HE.out | (refine EHeld.step (wr := wq) (ad := ad) (i := i) (e := en) ?_ hb; assumption)) (first
            | (go_at_call 112; (with_reducible refine (spec_l11Bucket.calls _ _ _ _ _ _ (bucket_f k hlt)).mono ?_); rintro e w1 ⟨rfl, hb⟩)
            | (go_at_call 102; (with_reducible refine (spec_l11Overlap.calls _ _ _ _ _ _ _ _ _ _ (overlap_f en.f1 (bkt k))).mono ?_); rintro e w1 ⟨rfl, hb⟩))
          have hbq : Below wq.heap.size wq w1 := by
            rename_i hh
            exact hh.2.2.2.2
          replace C0 := Lib.hid ((hbq.cell (World.block_lt_of_cell? _ _ C0.out)).trans C0.out)
          replace S1 := Lib.hid (Kd.S_below S1.out hbq)
          replace O1 := Lib.hid (Kd.R_below O1.out hbq)
          replace X2 := Lib.hid (X2.out.below hbq)
          replace X3 := Lib.hid (X3.out.below hbq)
          replace B := Lib.hid (B.out.trans (hbq.mono B.out.size))
          have hle1 : n0 ≤ w1.heap.size := Nat.le_trans hle hbq.size
          clear hbq HE
          cases hov : ovl en.f1 (bkt k) with
          | true =>
            have HSU := Lib.hid (show idsOf (l.take (i + 1)) k = idsOf (l.take i) k ++ [en.f0] from by rw [HSU.out, if_pos hov])
            have hc0 := C0.out
            go_wp2_with (at_builtin; refine Kd.R_append (Kd.int .i64) (w0 := w) w.heap.size rfl (.tmp 28) (.tmp 34) 62 2 (.int .i64 0) 8 rfl Try.underlying62 info2 rfl (by decide) (by omega) _ (idsOf (l.take i) k) en.f0 [.int .i64 en.f0] (fun b => n0 ≤ b) (fun _ => False) rfl rfl rfl (fun _ hk => hk.elim) (fun b hb => Nat.le_trans hle1 hb) O1.out B.out B.out.size (by have := ids_len (l.take i) k; have h2 := List.length_take (i := i) (l := l); omega) ?_; intro v1 w2 ho hb hg hat)
            refine ⟨⟨i + 1, by omega, Nat.le_trans hle1 hg.size, rfl, hb, blk_grown X2.out hg (Kd.R_ne O1.out X2.out (by decide)), blk_grown X3.out hg (Kd.R_ne O1.out X3.out (by decide)), Kd.S_grown S1.out hg (fun b hbn he => absurd (O1.out.1 b he.symm) (by omega)), by rw [HSU.out]; exact ho⟩, by simp [intOf]; omega⟩
          | false =>
            have HSU := Lib.hid (show idsOf (l.take (i + 1)) k = idsOf (l.take i) k from by rw [HSU.out, hov]; rfl)
            go_wp2_with fail
            exact ⟨⟨i + 1, by omega, hle1, rfl, B.out, X2.out, X3.out, S1.out, by rw [HSU.out]; exact O1.out⟩, by simp [intOf]; omega⟩
        · have hie : i = l.length := by omega
          subst hie
          obtain ⟨A5, c5, e5⟩ := Kd.R_slice O1.out
          subst e5
          rw [List.take_length] at O1
          have O2 := O1
          have f1 := X3.out.cell 1 vB rfl
          have f2 := X3.out.frozen 1
          clear O1
          go_wp2_with (at_builtin; go_loud (refine Kd.S_append kB (w0 := w) w.heap.size rfl (.tmp 37) (.tmp 39) 40 62 (.slice none 0 0) 24 rfl Try.underlying40 info62 rfl (by decide) (by omega) vB ((made l).take k) (idsOf l k) [.slice A5 (idsOf l k).length c5] (fun _ => True) (fun b => n0 ≤ b) rfl rfl (show kB.M wr w.heap.size (fun b => n0 ≤ b) (idsOf l k) [.slice A5 (idsOf l k).length c5] from ⟨_, rfl, O2.out⟩) (fun b hb => ⟨trivial, fun he => absurd ((Kd.S_R S1.out).1 b he.symm) (by omega)⟩) (fun _ _ => trivial) (Kd.S_mono S1.out (fun b hb => ⟨trivial, by omega⟩)) B.out B.out.size (by rw [List.length_take, made_len]; omega) ?_); intro v1 w2 ho hb hg hat; obtain ⟨Av, cv, ev⟩ := Kd.S_slice ho; subst ev; have X2' := Lib.hid (show Box w2 g2 _ _ from blk_grown X2.out hg (Kd.S_ne S1.out X2.out (by decide))); have X3' := Lib.hid (show Box w2 g3 _ _ from blk_grown X3.out hg (Kd.S_ne S1.out X3.out (by decide))); have SO := Lib.hid ho; replace B := Lib.hid hb; clear f1 f2 X2 X3 S1 O2 ho hb hg hat; have f1 := X3'.out.cell 1 vB rfl; have f2 := X3'.out.frozen 1)
          refine ⟨⟨k + 1, by omega, by simp, B.out.setCell GE3.out _, Box.far X2'.out (fun e => N23.out e.symm) _, _, Box.set X3'.out 1 _ _ rfl, ?_⟩, by simp [intOf]; omega⟩
          have hsuc : (made l).take (k + 1) = (made l).take k ++ [idsOf l k] := by rw [List.take_succ_eq_append_getElem (by rw [made_len]; exact hlt), made_get l k hlt]
          rw [hsuc]
          have q := Kd.S_set SO.out X3'.out (by decide) 1 (.slice Av (List.take k (made l) ++ [idsOf l k]).length cv)
          rw [show (List.take k (made l) ++ [idsOf l k]).length = min k (made l).length + 1 from by simp] at q
          exact q
    · have hke : k = 25 := by omega
      subst hke
      have hS := SB.out
      rw [List.take_of_length_le (by rw [made_len]; exact Nat.le_refl _)] at hS
      obtain ⟨Av, cv, ev⟩ := Kd.S_slice hS
      subst ev
      have a1 := X3.out.cell 0 _ rfl
      have a2 := X3.out.cell 1 _ rfl
      go_wp2_with ((with_reducible refine gate_store (p := 2) rfl ?_); refine box_store rfl 42 _ _ rfl rfl g2 _ rfl rfl X2.out (by kernel_rfl) rfl (by simp [Value.oneCell']) ?_; intro w1 hx hkk hbb; have X4 := Lib.hid hx; have SK := Lib.hid (Kd.S_keep (Kd.S_types hS X2.out (by decide)) hkk (fun _ h => h.2)); have B4 := Lib.hid (B.out.trans (hbb _ GE2.out)); clear hx hkk hbb)
      refine bodyPost_ret (v := .agg #[.slice A l.length c, .slice Av (made l).length cv]) ?hres rfl ?_
      case hres => exact results_cell_row rfl _ _ g2 42 _ (0, 0) _ rfl X4.out Try.underlying42 rfl (by kernel_rfl)
      exact ⟨_, rfl, Kd.S_mono SK.out (fun _ _ => trivial), B4.out⟩
end Go.Proofs.Yteepckjegpnffaa.Q

/-! ### Px15 -/
namespace Go.Proofs.Yteepckjegpnffaa.P
open Go.RowKit Go.Proofs.YteepckjegpnffaaW.PrintWords Go.Proofs.YteepckjegpnffaaW.PrintLast Go.Proofs.YteepckjegpnffaaW.PrintMore
attribute [local go_sem] max2_int min2_int max_two min_two max_three min_three max_four min_four   -- for this text's walks alone
set_option linter.unusedVariables false
set_option linter.unusedSimpArgs false

/-! ### spec_l09Rect: function 89 -/
def spec_l09Rect.f (a0_0 : Int) (a0_1 : Int) (a0_2 : Int) (a0_3 : Int) : Option (Bool) := if (-40) ≤ a0_0 then (if a0_0 < a0_2 then (if a0_2 ≤ 40 then (if (-40) ≤ a0_1 then (if a0_1 < a0_3 then (some (decide (a0_3 ≤ 40))) else (some false)) else (some false)) else (some false)) else (some false)) else (some false)
set_option maxHeartbeats 8000000 in
set_option maxRecDepth 100000 in
theorem spec_l09Rect.calls (a0_0 : Int) (a0_1 : Int) (a0_2 : Int) (a0_3 : Int) (r : Bool) (w : World) (h : spec_l09Rect.f a0_0 a0_1 a0_2 a0_3 = some r) :
    Calls Try.prog 89 #[.agg #[.int .i64 a0_0, .int .i64 a0_1, .int .i64 a0_2, .int .i64 a0_3]] w fun e w' => e = .returned (.bool r) ∧ Below w.heap.size w w' := by
  have hu65 := Try.underlying65
  have HB := Aside0.mk (Below.refl w.heap.size w)
  have H : (if (-40) ≤ a0_0 then (if a0_0 < a0_2 then (if a0_2 ≤ 40 then (if (-40) ≤ a0_1 then (if a0_1 < a0_3 then (some (decide (a0_3 ≤ 40))) else (some false)) else (some false)) else (some false)) else (some false)) else (some false)) = some r := h
  clear h
  by_cases c2 : (-40) ≤ a0_0
  · rw [if_pos c2] at H
    have c2b0 : decide ((-40) ≤ a0_0) = true := decide_eq_true c2
    clear c2
    by_cases c3 : a0_0 < a0_2
    · rw [if_pos c3] at H
      have c3b0 : decide (a0_0 < a0_2) = true := decide_eq_true c3
      clear c3
      by_cases c4 : a0_2 ≤ 40
      · rw [if_pos c4] at H
        have c4b0 : decide (a0_2 ≤ 40) = true := decide_eq_true c4
        clear c4
        by_cases c5 : (-40) ≤ a0_1
        · rw [if_pos c5] at H
          have c5b0 : decide ((-40) ≤ a0_1) = true := decide_eq_true c5
          clear c5
          by_cases c6 : a0_1 < a0_3
          · rw [if_pos c6] at H
            have c6b0 : decide (a0_1 < a0_3) = true := decide_eq_true c6
            clear c6
            obtain rfl := Option.some.inj H
            go_enter Try.func89, Try.ntmps89
            go_wp2_with (first | ((with_reducible refine gate_dst (N := 1) rfl ?_); refine box_event ?hg (N := 1) ?hd (cs := #[.int .i64 a0_0, .int .i64 a0_1, .int .i64 a0_2, .int .i64 a0_3]) (t := 65) ?hr ?_; (case hd => rfl); (case hg => rfl); (case hr => first | (go_simp; done) | (go_simp; rfl)); intro gb144 hg w7 hbox hb; have n0_ := Aside0.mk (below_step (by repeat (first | (with_reducible first | exact HB.out | apply below_alloc | apply pw_below_drewN | apply below_drew1) | exact HB.out)) hb); have n1_ := Aside0.mk (hbox); have n2_ := Aside0.mk ((by rw [hg]; exact (below_size (by repeat (first | (with_reducible first | exact HB.out | apply below_alloc | apply pw_below_drewN | apply below_drew1) | exact HB.out))) : w.heap.size ≤ gb144)); have n3_ := Aside0.mk ((by rw [hg]; exact (below_size (by repeat (first | (with_reducible first | exact HB.out | apply below_alloc | apply pw_below_drewN | apply below_drew1) | exact HB.out))) : w.heap.size ≤ gb144)); clear HB; have HB := n0_; have BK144 := n1_; have GW144 := n2_; have GE144 := n3_; clear n0_ n1_ n2_ n3_; clear hb hbox hg; have hcz8_0 : w7.cell? ⟨gb144, 0, none⟩ = some (.int .i64 a0_0) := (blk_cell BK144.out 0).trans rfl; have hcz8_1 : w7.cell? ⟨gb144, 1, none⟩ = some (.int .i64 a0_1) := (blk_cell BK144.out 1).trans rfl; have hcz8_2 : w7.cell? ⟨gb144, 2, none⟩ = some (.int .i64 a0_2) := (blk_cell BK144.out 2).trans rfl; have hcz8_3 : w7.cell? ⟨gb144, 3, none⟩ = some (.int .i64 a0_3) := (blk_cell BK144.out 3).trans rfl; have hfz8_0 := blk_frozen BK144.out 0; have hfz8_1 := blk_frozen BK144.out 1; have hfz8_2 := blk_frozen BK144.out 2; have hfz8_3 := blk_frozen BK144.out 3))
            go_ret
            exact ⟨by first | rfl | (simp [errW_none, errW_some] <;> rfl) | (simp [*, errW_none, errW_some] <;> rfl), by repeat (first | (with_reducible first | exact HB.out | apply below_alloc | apply pw_below_drewN | apply below_drew1 | refine below_set ?_ GE144.out) | exact HB.out)⟩
          · rw [if_neg c6] at H
            have c6b0 : decide (a0_1 < a0_3) = false := decide_eq_false c6
            clear c6
            obtain rfl := Option.some.inj H
            go_enter Try.func89, Try.ntmps89
            go_wp2_with (first | ((with_reducible refine gate_dst (N := 1) rfl ?_); refine box_event ?hg (N := 1) ?hd (cs := #[.int .i64 a0_0, .int .i64 a0_1, .int .i64 a0_2, .int .i64 a0_3]) (t := 65) ?hr ?_; (case hd => rfl); (case hg => rfl); (case hr => first | (go_simp; done) | (go_simp; rfl)); intro gb144 hg w9 hbox hb; have n0_ := Aside0.mk (below_step (by repeat (first | (with_reducible first | exact HB.out | apply below_alloc | apply pw_below_drewN | apply below_drew1) | exact HB.out)) hb); have n1_ := Aside0.mk (hbox); have n2_ := Aside0.mk ((by rw [hg]; exact (below_size (by repeat (first | (with_reducible first | exact HB.out | apply below_alloc | apply pw_below_drewN | apply below_drew1) | exact HB.out))) : w.heap.size ≤ gb144)); have n3_ := Aside0.mk ((by rw [hg]; exact (below_size (by repeat (first | (with_reducible first | exact HB.out | apply below_alloc | apply pw_below_drewN | apply below_drew1) | exact HB.out))) : w.heap.size ≤ gb144)); clear HB; have HB := n0_; have BK144 := n1_; have GW144 := n2_; have GE144 := n3_; clear n0_ n1_ n2_ n3_; clear hb hbox hg; have hcz10_0 : w9.cell? ⟨gb144, 0, none⟩ = some (.int .i64 a0_0) := (blk_cell BK144.out 0).trans rfl; have hcz10_1 : w9.cell? ⟨gb144, 1, none⟩ = some (.int .i64 a0_1) := (blk_cell BK144.out 1).trans rfl; have hcz10_2 : w9.cell? ⟨gb144, 2, none⟩ = some (.int .i64 a0_2) := (blk_cell BK144.out 2).trans rfl; have hcz10_3 : w9.cell? ⟨gb144, 3, none⟩ = some (.int .i64 a0_3) := (blk_cell BK144.out 3).trans rfl; have hfz10_0 := blk_frozen BK144.out 0; have hfz10_1 := blk_frozen BK144.out 1; have hfz10_2 := blk_frozen BK144.out 2; have hfz10_3 := blk_frozen BK144.out 3))
            go_ret
            exact ⟨by first | rfl | (simp [errW_none, errW_some] <;> rfl) | (simp [*, errW_none, errW_some] <;> rfl), by repeat (first | (with_reducible first | exact HB.out | apply below_alloc | apply pw_below_drewN | apply below_drew1 | refine below_set ?_ GE144.out) | exact HB.out)⟩
        · rw [if_neg c5] at H
          have c5b0 : decide ((-40) ≤ a0_1) = false := decide_eq_false c5
          clear c5
          obtain rfl := Option.some.inj H
          go_enter Try.func89, Try.ntmps89
          go_wp2_with (first | ((with_reducible refine gate_dst (N := 1) rfl ?_); refine box_event ?hg (N := 1) ?hd (cs := #[.int .i64 a0_0, .int .i64 a0_1, .int .i64 a0_2, .int .i64 a0_3]) (t := 65) ?hr ?_; (case hd => rfl); (case hg => rfl); (case hr => first | (go_simp; done) | (go_simp; rfl)); intro gb144 hg w11 hbox hb; have n0_ := Aside0.mk (below_step (by repeat (first | (with_reducible first | exact HB.out | apply below_alloc | apply pw_below_drewN | apply below_drew1) | exact HB.out)) hb); have n1_ := Aside0.mk (hbox); have n2_ := Aside0.mk ((by rw [hg]; exact (below_size (by repeat (first | (with_reducible first | exact HB.out | apply below_alloc | apply pw_below_drewN | apply below_drew1) | exact HB.out))) : w.heap.size ≤ gb144)); have n3_ := Aside0.mk ((by rw [hg]; exact (below_size (by repeat (first | (with_reducible first | exact HB.out | apply below_alloc | apply pw_below_drewN | apply below_drew1) | exact HB.out))) : w.heap.size ≤ gb144)); clear HB; have HB := n0_; have BK144 := n1_; have GW144 := n2_; have GE144 := n3_; clear n0_ n1_ n2_ n3_; clear hb hbox hg; have hcz12_0 : w11.cell? ⟨gb144, 0, none⟩ = some (.int .i64 a0_0) := (blk_cell BK144.out 0).trans rfl; have hcz12_1 : w11.cell? ⟨gb144, 1, none⟩ = some (.int .i64 a0_1) := (blk_cell BK144.out 1).trans rfl; have hcz12_2 : w11.cell? ⟨gb144, 2, none⟩ = some (.int .i64 a0_2) := (blk_cell BK144.out 2).trans rfl; have hcz12_3 : w11.cell? ⟨gb144, 3, none⟩ = some (.int .i64 a0_3) := (blk_cell BK144.out 3).trans rfl; have hfz12_0 := blk_frozen BK144.out 0; have hfz12_1 := blk_frozen BK144.out 1; have hfz12_2 := blk_frozen BK144.out 2; have hfz12_3 := blk_frozen BK144.out 3))
          go_ret
          exact ⟨by first | rfl | (simp [errW_none, errW_some] <;> rfl) | (simp [*, errW_none, errW_some] <;> rfl), by repeat (first | (with_reducible first | exact HB.out | apply below_alloc | apply pw_below_drewN | apply below_drew1 | refine below_set ?_ GE144.out) | exact HB.out)⟩
      · rw [if_neg c4] at H
        have c4b0 : decide (a0_2 ≤ 40) = false := decide_eq_false c4
        clear c4
        obtain rfl := Option.some.inj H
        go_enter Try.func89, Try.ntmps89
        go_wp2_with (first | ((with_reducible refine gate_dst (N := 1) rfl ?_); refine box_event ?hg (N := 1) ?hd (cs := #[.int .i64 a0_0, .int .i64 a0_1, .int .i64 a0_2, .int .i64 a0_3]) (t := 65) ?hr ?_; (case hd => rfl); (case hg => rfl); (case hr => first | (go_simp; done) | (go_simp; rfl)); intro gb144 hg w13 hbox hb; have n0_ := Aside0.mk (below_step (by repeat (first | (with_reducible first | exact HB.out | apply below_alloc | apply pw_below_drewN | apply below_drew1) | exact HB.out)) hb); have n1_ := Aside0.mk (hbox); have n2_ := Aside0.mk ((by rw [hg]; exact (below_size (by repeat (first | (with_reducible first | exact HB.out | apply below_alloc | apply pw_below_drewN | apply below_drew1) | exact HB.out))) : w.heap.size ≤ gb144)); have n3_ := Aside0.mk ((by rw [hg]; exact (below_size (by repeat (first | (with_reducible first | exact HB.out | apply below_alloc | apply pw_below_drewN | apply below_drew1) | exact HB.out))) : w.heap.size ≤ gb144)); clear HB; have HB := n0_; have BK144 := n1_; have GW144 := n2_; have GE144 := n3_; clear n0_ n1_ n2_ n3_; clear hb hbox hg; have hcz14_0 : w13.cell? ⟨gb144, 0, none⟩ = some (.int .i64 a0_0) := (blk_cell BK144.out 0).trans rfl; have hcz14_1 : w13.cell? ⟨gb144, 1, none⟩ = some (.int .i64 a0_1) := (blk_cell BK144.out 1).trans rfl; have hcz14_2 : w13.cell? ⟨gb144, 2, none⟩ = some (.int .i64 a0_2) := (blk_cell BK144.out 2).trans rfl; have hcz14_3 : w13.cell? ⟨gb144, 3, none⟩ = some (.int .i64 a0_3) := (blk_cell BK144.out 3).trans rfl; have hfz14_0 := blk_frozen BK144.out 0; have hfz14_1 := blk_frozen BK144.out 1; have hfz14_2 := blk_frozen BK144.out 2; have hfz14_3 := blk_frozen BK144.out 3))
        go_ret
        exact ⟨by first | rfl | (simp [errW_none, errW_some] <;> rfl) | (simp [*, errW_none, errW_some] <;> rfl), by repeat (first | (with_reducible first | exact HB.out | apply below_alloc | apply pw_below_drewN | apply below_drew1 | refine below_set ?_ GE144.out) | exact HB.out)⟩
    · rw [if_neg c3] at H
      have c3b0 : decide (a0_0 < a0_2) = false := decide_eq_false c3
      clear c3
      obtain rfl := Option.some.inj H
      go_enter Try.func89, Try.ntmps89
      go_wp2_with (first | ((with_reducible refine gate_dst (N := 1) rfl ?_); refine box_event ?hg (N := 1) ?hd (cs := #[.int .i64 a0_0, .int .i64 a0_1, .int .i64 a0_2, .int .i64 a0_3]) (t := 65) ?hr ?_; (case hd => rfl); (case hg => rfl); (case hr => first | (go_simp; done) | (go_simp; rfl)); intro gb144 hg w15 hbox hb; have n0_ := Aside0.mk (below_step (by repeat (first | (with_reducible first | exact HB.out | apply below_alloc | apply pw_below_drewN | apply below_drew1) | exact HB.out)) hb); have n1_ := Aside0.mk (hbox); have n2_ := Aside0.mk ((by rw [hg]; exact (below_size (by repeat (first | (with_reducible first | exact HB.out | apply below_alloc | apply pw_below_drewN | apply below_drew1) | exact HB.out))) : w.heap.size ≤ gb144)); have n3_ := Aside0.mk ((by rw [hg]; exact (below_size (by repeat (first | (with_reducible first | exact HB.out | apply below_alloc | apply pw_below_drewN | apply below_drew1) | exact HB.out))) : w.heap.size ≤ gb144)); clear HB; have HB := n0_; have BK144 := n1_; have GW144 := n2_; have GE144 := n3_; clear n0_ n1_ n2_ n3_; clear hb hbox hg; have hcz16_0 : w15.cell? ⟨gb144, 0, none⟩ = some (.int .i64 a0_0) := (blk_cell BK144.out 0).trans rfl; have hcz16_1 : w15.cell? ⟨gb144, 1, none⟩ = some (.int .i64 a0_1) := (blk_cell BK144.out 1).trans rfl; have hcz16_2 : w15.cell? ⟨gb144, 2, none⟩ = some (.int .i64 a0_2) := (blk_cell BK144.out 2).trans rfl; have hcz16_3 : w15.cell? ⟨gb144, 3, none⟩ = some (.int .i64 a0_3) := (blk_cell BK144.out 3).trans rfl; have hfz16_0 := blk_frozen BK144.out 0; have hfz16_1 := blk_frozen BK144.out 1; have hfz16_2 := blk_frozen BK144.out 2; have hfz16_3 := blk_frozen BK144.out 3))
      go_ret
      exact ⟨by first | rfl | (simp [errW_none, errW_some] <;> rfl) | (simp [*, errW_none, errW_some] <;> rfl), by repeat (first | (with_reducible first | exact HB.out | apply below_alloc | apply pw_below_drewN | apply below_drew1 | refine below_set ?_ GE144.out) | exact HB.out)⟩
  · rw [if_neg c2] at H
    have c2b0 : decide ((-40) ≤ a0_0) = false := decide_eq_false c2
    clear c2
    obtain rfl := Option.some.inj H
    go_enter Try.func89, Try.ntmps89
    go_wp2_with (first | ((with_reducible refine gate_dst (N := 1) rfl ?_); refine box_event ?hg (N := 1) ?hd (cs := #[.int .i64 a0_0, .int .i64 a0_1, .int .i64 a0_2, .int .i64 a0_3]) (t := 65) ?hr ?_; (case hd => rfl); (case hg => rfl); (case hr => first | (go_simp; done) | (go_simp; rfl)); intro gb144 hg w17 hbox hb; have n0_ := Aside0.mk (below_step (by repeat (first | (with_reducible first | exact HB.out | apply below_alloc | apply pw_below_drewN | apply below_drew1) | exact HB.out)) hb); have n1_ := Aside0.mk (hbox); have n2_ := Aside0.mk ((by rw [hg]; exact (below_size (by repeat (first | (with_reducible first | exact HB.out | apply below_alloc | apply pw_below_drewN | apply below_drew1) | exact HB.out))) : w.heap.size ≤ gb144)); have n3_ := Aside0.mk ((by rw [hg]; exact (below_size (by repeat (first | (with_reducible first | exact HB.out | apply below_alloc | apply pw_below_drewN | apply below_drew1) | exact HB.out))) : w.heap.size ≤ gb144)); clear HB; have HB := n0_; have BK144 := n1_; have GW144 := n2_; have GE144 := n3_; clear n0_ n1_ n2_ n3_; clear hb hbox hg; have hcz18_0 : w17.cell? ⟨gb144, 0, none⟩ = some (.int .i64 a0_0) := (blk_cell BK144.out 0).trans rfl; have hcz18_1 : w17.cell? ⟨gb144, 1, none⟩ = some (.int .i64 a0_1) := (blk_cell BK144.out 1).trans rfl; have hcz18_2 : w17.cell? ⟨gb144, 2, none⟩ = some (.int .i64 a0_2) := (blk_cell BK144.out 2).trans rfl; have hcz18_3 : w17.cell? ⟨gb144, 3, none⟩ = some (.int .i64 a0_3) := (blk_cell BK144.out 3).trans rfl; have hfz18_0 := blk_frozen BK144.out 0; have hfz18_1 := blk_frozen BK144.out 1; have hfz18_2 := blk_frozen BK144.out 2; have hfz18_3 := blk_frozen BK144.out 3))
    go_ret
    exact ⟨by first | rfl | (simp [errW_none, errW_some] <;> rfl) | (simp [*, errW_none, errW_some] <;> rfl), by repeat (first | (with_reducible first | exact HB.out | apply below_alloc | apply pw_below_drewN | apply below_drew1 | refine below_set ?_ GE144.out) | exact HB.out)⟩

end Go.Proofs.Yteepckjegpnffaa.P

/-! ### Px14 -/
namespace Go.Proofs.Yteepckjegpnffaa.P
open Go.RowKit Go.Proofs.YteepckjegpnffaaW.PrintWords Go.Proofs.YteepckjegpnffaaW.PrintLast Go.Proofs.YteepckjegpnffaaW.PrintMore
attribute [local go_sem] max2_int min2_int max_two min_two max_three min_three max_four min_four   -- for this text's walks alone
set_option linter.unusedVariables false
set_option linter.unusedSimpArgs false

/-! ### spec_l09In: function 88 -/
def spec_l09In.f (a0 : Int) (a1 : Int) (a2 : Int) : Option (Bool) := if a0 ≥ a1 then (some (decide (a0 ≤ a2))) else (some false)
set_option maxHeartbeats 8000000 in
set_option maxRecDepth 100000 in
theorem spec_l09In.calls (a0 : Int) (a1 : Int) (a2 : Int) (r : Bool) (w : World) (h : spec_l09In.f a0 a1 a2 = some r) :
    Calls Try.prog 88 #[.int .i64 a0, .int .i64 a1, .int .i64 a2] w fun e w' => e = .returned (.bool r) ∧ Drawn0 w w' := by
  have H : (if a0 ≥ a1 then (some (decide (a0 ≤ a2))) else (some false)) = some r := h
  clear h
  by_cases c4 : a0 ≥ a1
  · rw [if_pos c4] at H
    have c4b0 : decide (a1 ≤ a0) = true := decide_eq_true c4
    clear c4
    obtain rfl := Option.some.inj H
    go_enter Try.func88, Try.ntmps88
    go_wp2
    go_ret
    exact ⟨by first | rfl | (simp; done) | (simp [*]; done), by repeat (first | exact Drawn0.refl _ | apply Drawn0.step)⟩
  · rw [if_neg c4] at H
    have c4b0 : decide (a1 ≤ a0) = false := decide_eq_false c4
    clear c4
    obtain rfl := Option.some.inj H
    go_enter Try.func88, Try.ntmps88
    go_wp2
    go_ret
    exact ⟨by first | rfl | (simp; done) | (simp [*]; done), by repeat (first | exact Drawn0.refl _ | apply Drawn0.step)⟩

end Go.Proofs.Yteepckjegpnffaa.P

/-! ### Px24 -/
namespace Go.Proofs.Yteepckjegpnffaa.P
open Go.RowKit Go.Proofs.YteepckjegpnffaaW.PrintWords Go.Proofs.YteepckjegpnffaaW.PrintLast Go.Proofs.YteepckjegpnffaaW.PrintMore
attribute [local go_sem] max2_int min2_int max_two min_two max_three min_three max_four min_four   -- for this text's walks alone
set_option linter.unusedVariables false
set_option linter.unusedSimpArgs false

/-! ### impl_IsValidRect: function 85 -/
def impl_IsValidRect.f (a0_0 : Int) (a0_1 : Int) (a0_2 : Int) (a0_3 : Int) : Option (Bool) := if (-40) ≤ a0_0 then (if a0_0 < a0_2 then (if a0_2 ≤ 40 then (if (-40) ≤ a0_1 then (if a0_1 < a0_3 then (some (decide (a0_3 ≤ 40))) else (some false)) else (some false)) else (some false)) else (some false)) else (some false)
set_option maxHeartbeats 8000000 in
set_option maxRecDepth 100000 in
theorem impl_IsValidRect.calls (a0_0 : Int) (a0_1 : Int) (a0_2 : Int) (a0_3 : Int) (r : Bool) (w : World) (h : impl_IsValidRect.f a0_0 a0_1 a0_2 a0_3 = some r) :
    Calls Try.prog 85 #[.agg #[.int .i64 a0_0, .int .i64 a0_1, .int .i64 a0_2, .int .i64 a0_3]] w fun e w' => e = .returned (.bool r) ∧ Below w.heap.size w w' := by
  have hu65 := Try.underlying65
  have HB := Aside0.mk (Below.refl w.heap.size w)
  have H : (if (-40) ≤ a0_0 then (if a0_0 < a0_2 then (if a0_2 ≤ 40 then (if (-40) ≤ a0_1 then (if a0_1 < a0_3 then (some (decide (a0_3 ≤ 40))) else (some false)) else (some false)) else (some false)) else (some false)) else (some false)) = some r := h
  clear h
  by_cases c2 : (-40) ≤ a0_0
  · rw [if_pos c2] at H
    have c2b0 : decide ((-40) ≤ a0_0) = true := decide_eq_true c2
    clear c2
    by_cases c3 : a0_0 < a0_2
    · rw [if_pos c3] at H
      have c3b0 : decide (a0_0 < a0_2) = true := decide_eq_true c3
      clear c3
      by_cases c4 : a0_2 ≤ 40
      · rw [if_pos c4] at H
        have c4b0 : decide (a0_2 ≤ 40) = true := decide_eq_true c4
        clear c4
        by_cases c5 : (-40) ≤ a0_1
        · rw [if_pos c5] at H
          have c5b0 : decide ((-40) ≤ a0_1) = true := decide_eq_true c5
          clear c5
          by_cases c6 : a0_1 < a0_3
          · rw [if_pos c6] at H
            have c6b0 : decide (a0_1 < a0_3) = true := decide_eq_true c6
            clear c6
            obtain rfl := Option.some.inj H
            go_enter Try.func85, Try.ntmps85
            go_wp2_with (first | ((with_reducible refine gate_dst (N := 1) rfl ?_); refine box_event ?hg (N := 1) ?hd (cs := #[.int .i64 a0_0, .int .i64 a0_1, .int .i64 a0_2, .int .i64 a0_3]) (t := 65) ?hr ?_; (case hd => rfl); (case hg => rfl); (case hr => first | (go_simp; done) | (go_simp; rfl)); intro gb189 hg w7 hbox hb; have n0_ := Aside0.mk (below_step (by repeat (first | (with_reducible first | exact HB.out | apply below_alloc | apply pw_below_drewN | apply below_drew1) | exact HB.out)) hb); have n1_ := Aside0.mk (hbox); have n2_ := Aside0.mk ((by rw [hg]; exact (below_size (by repeat (first | (with_reducible first | exact HB.out | apply below_alloc | apply pw_below_drewN | apply below_drew1) | exact HB.out))) : w.heap.size ≤ gb189)); have n3_ := Aside0.mk ((by rw [hg]; exact (below_size (by repeat (first | (with_reducible first | exact HB.out | apply below_alloc | apply pw_below_drewN | apply below_drew1) | exact HB.out))) : w.heap.size ≤ gb189)); clear HB; have HB := n0_; have BK189 := n1_; have GW189 := n2_; have GE189 := n3_; clear n0_ n1_ n2_ n3_; clear hb hbox hg; have hcz8_0 : w7.cell? ⟨gb189, 0, none⟩ = some (.int .i64 a0_0) := (blk_cell BK189.out 0).trans rfl; have hcz8_1 : w7.cell? ⟨gb189, 1, none⟩ = some (.int .i64 a0_1) := (blk_cell BK189.out 1).trans rfl; have hcz8_2 : w7.cell? ⟨gb189, 2, none⟩ = some (.int .i64 a0_2) := (blk_cell BK189.out 2).trans rfl; have hcz8_3 : w7.cell? ⟨gb189, 3, none⟩ = some (.int .i64 a0_3) := (blk_cell BK189.out 3).trans rfl; have hfz8_0 := blk_frozen BK189.out 0; have hfz8_1 := blk_frozen BK189.out 1; have hfz8_2 := blk_frozen BK189.out 2; have hfz8_3 := blk_frozen BK189.out 3))
            go_ret
            exact ⟨by first | rfl | (simp [errW_none, errW_some] <;> rfl) | (simp [*, errW_none, errW_some] <;> rfl), by repeat (first | (with_reducible first | exact HB.out | apply below_alloc | apply pw_below_drewN | apply below_drew1 | refine below_set ?_ GE189.out) | exact HB.out)⟩
          · rw [if_neg c6] at H
            have c6b0 : decide (a0_1 < a0_3) = false := decide_eq_false c6
            clear c6
            obtain rfl := Option.some.inj H
            go_enter Try.func85, Try.ntmps85
            go_wp2_with (first | ((with_reducible refine gate_dst (N := 1) rfl ?_); refine box_event ?hg (N := 1) ?hd (cs := #[.int .i64 a0_0, .int .i64 a0_1, .int .i64 a0_2, .int .i64 a0_3]) (t := 65) ?hr ?_; (case hd => rfl); (case hg => rfl); (case hr => first | (go_simp; done) | (go_simp; rfl)); intro gb189 hg w9 hbox hb; have n0_ := Aside0.mk (below_step (by repeat (first | (with_reducible first | exact HB.out | apply below_alloc | apply pw_below_drewN | apply below_drew1) | exact HB.out)) hb); have n1_ := Aside0.mk (hbox); have n2_ := Aside0.mk ((by rw [hg]; exact (below_size (by repeat (first | (with_reducible first | exact HB.out | apply below_alloc | apply pw_below_drewN | apply below_drew1) | exact HB.out))) : w.heap.size ≤ gb189)); have n3_ := Aside0.mk ((by rw [hg]; exact (below_size (by repeat (first | (with_reducible first | exact HB.out | apply below_alloc | apply pw_below_drewN | apply below_drew1) | exact HB.out))) : w.heap.size ≤ gb189)); clear HB; have HB := n0_; have BK189 := n1_; have GW189 := n2_; have GE189 := n3_; clear n0_ n1_ n2_ n3_; clear hb hbox hg; have hcz10_0 : w9.cell? ⟨gb189, 0, none⟩ = some (.int .i64 a0_0) := (blk_cell BK189.out 0).trans rfl; have hcz10_1 : w9.cell? ⟨gb189, 1, none⟩ = some (.int .i64 a0_1) := (blk_cell BK189.out 1).trans rfl; have hcz10_2 : w9.cell? ⟨gb189, 2, none⟩ = some (.int .i64 a0_2) := (blk_cell BK189.out 2).trans rfl; have hcz10_3 : w9.cell? ⟨gb189, 3, none⟩ = some (.int .i64 a0_3) := (blk_cell BK189.out 3).trans rfl; have hfz10_0 := blk_frozen BK189.out 0; have hfz10_1 := blk_frozen BK189.out 1; have hfz10_2 := blk_frozen BK189.out 2; have hfz10_3 := blk_frozen BK189.out 3))
            go_ret
            exact ⟨by first | rfl | (simp [errW_none, errW_some] <;> rfl) | (simp [*, errW_none, errW_some] <;> rfl), by repeat (first | (with_reducible first | exact HB.out | apply below_alloc | apply pw_below_drewN | apply below_drew1 | refine below_set ?_ GE189.out) | exact HB.out)⟩
        · rw [if_neg c5] at H
          have c5b0 : decide ((-40) ≤ a0_1) = false := decide_eq_false c5
          clear c5
          obtain rfl := Option.some.inj H
          go_enter Try.func85, Try.ntmps85
          go_wp2_with (first | ((with_reducible refine gate_dst (N := 1) rfl ?_); refine box_event ?hg (N := 1) ?hd (cs := #[.int .i64 a0_0, .int .i64 a0_1, .int .i64 a0_2, .int .i64 a0_3]) (t := 65) ?hr ?_; (case hd => rfl); (case hg => rfl); (case hr => first | (go_simp; done) | (go_simp; rfl)); intro gb189 hg w11 hbox hb; have n0_ := Aside0.mk (below_step (by repeat (first | (with_reducible first | exact HB.out | apply below_alloc | apply pw_below_drewN | apply below_drew1) | exact HB.out)) hb); have n1_ := Aside0.mk (hbox); have n2_ := Aside0.mk ((by rw [hg]; exact (below_size (by repeat (first | (with_reducible first | exact HB.out | apply below_alloc | apply pw_below_drewN | apply below_drew1) | exact HB.out))) : w.heap.size ≤ gb189)); have n3_ := Aside0.mk ((by rw [hg]; exact (below_size (by repeat (first | (with_reducible first | exact HB.out | apply below_alloc | apply pw_below_drewN | apply below_drew1) | exact HB.out))) : w.heap.size ≤ gb189)); clear HB; have HB := n0_; have BK189 := n1_; have GW189 := n2_; have GE189 := n3_; clear n0_ n1_ n2_ n3_; clear hb hbox hg; have hcz12_0 : w11.cell? ⟨gb189, 0, none⟩ = some (.int .i64 a0_0) := (blk_cell BK189.out 0).trans rfl; have hcz12_1 : w11.cell? ⟨gb189, 1, none⟩ = some (.int .i64 a0_1) := (blk_cell BK189.out 1).trans rfl; have hcz12_2 : w11.cell? ⟨gb189, 2, none⟩ = some (.int .i64 a0_2) := (blk_cell BK189.out 2).trans rfl; have hcz12_3 : w11.cell? ⟨gb189, 3, none⟩ = some (.int .i64 a0_3) := (blk_cell BK189.out 3).trans rfl; have hfz12_0 := blk_frozen BK189.out 0; have hfz12_1 := blk_frozen BK189.out 1; have hfz12_2 := blk_frozen BK189.out 2; have hfz12_3 := blk_frozen BK189.out 3))
          go_ret
          exact ⟨by first | rfl | (simp [errW_none, errW_some] <;> rfl) | (simp [*, errW_none, errW_some] <;> rfl), by repeat (first | (with_reducible first | exact HB.out | apply below_alloc | apply pw_below_drewN | apply below_drew1 | refine below_set ?_ GE189.out) | exact HB.out)⟩
      · rw [if_neg c4] at H
        have c4b0 : decide (a0_2 ≤ 40) = false := decide_eq_false c4
        clear c4
        obtain rfl := Option.some.inj H
        go_enter Try.func85, Try.ntmps85
        go_wp2_with (first | ((with_reducible refine gate_dst (N := 1) rfl ?_); refine box_event ?hg (N := 1) ?hd (cs := #[.int .i64 a0_0, .int .i64 a0_1, .int .i64 a0_2, .int .i64 a0_3]) (t := 65) ?hr ?_; (case hd => rfl); (case hg => rfl); (case hr => first | (go_simp; done) | (go_simp; rfl)); intro gb189 hg w13 hbox hb; have n0_ := Aside0.mk (below_step (by repeat (first | (with_reducible first | exact HB.out | apply below_alloc | apply pw_below_drewN | apply below_drew1) | exact HB.out)) hb); have n1_ := Aside0.mk (hbox); have n2_ := Aside0.mk ((by rw [hg]; exact (below_size (by repeat (first | (with_reducible first | exact HB.out | apply below_alloc | apply pw_below_drewN | apply below_drew1) | exact HB.out))) : w.heap.size ≤ gb189)); have n3_ := Aside0.mk ((by rw [hg]; exact (below_size (by repeat (first | (with_reducible first | exact HB.out | apply below_alloc | apply pw_below_drewN | apply below_drew1) | exact HB.out))) : w.heap.size ≤ gb189)); clear HB; have HB := n0_; have BK189 := n1_; have GW189 := n2_; have GE189 := n3_; clear n0_ n1_ n2_ n3_; clear hb hbox hg; have hcz14_0 : w13.cell? ⟨gb189, 0, none⟩ = some (.int .i64 a0_0) := (blk_cell BK189.out 0).trans rfl; have hcz14_1 : w13.cell? ⟨gb189, 1, none⟩ = some (.int .i64 a0_1) := (blk_cell BK189.out 1).trans rfl; have hcz14_2 : w13.cell? ⟨gb189, 2, none⟩ = some (.int .i64 a0_2) := (blk_cell BK189.out 2).trans rfl; have hcz14_3 : w13.cell? ⟨gb189, 3, none⟩ = some (.int .i64 a0_3) := (blk_cell BK189.out 3).trans rfl; have hfz14_0 := blk_frozen BK189.out 0; have hfz14_1 := blk_frozen BK189.out 1; have hfz14_2 := blk_frozen BK189.out 2; have hfz14_3 := blk_frozen BK189.out 3))
        go_ret
        exact ⟨by first | rfl | (simp [errW_none, errW_some] <;> rfl) | (simp [*, errW_none, errW_some] <;> rfl), by repeat (first | (with_reducible first | exact HB.out | apply below_alloc | apply pw_below_drewN | apply below_drew1 | refine below_set ?_ GE189.out) | exact HB.out)⟩
    · rw [if_neg c3] at H
      have c3b0 : decide (a0_0 < a0_2) = false := decide_eq_false c3
      clear c3
      obtain rfl := Option.some.inj H
      go_enter Try.func85, Try.ntmps85
      go_wp2_with (first | ((with_reducible refine gate_dst (N := 1) rfl ?_); refine box_event ?hg (N := 1) ?hd (cs := #[.int .i64 a0_0, .int .i64 a0_1, .int .i64 a0_2, .int .i64 a0_3]) (t := 65) ?hr ?_; (case hd => rfl); (case hg => rfl); (case hr => first | (go_simp; done) | (go_simp; rfl)); intro gb189 hg w15 hbox hb; have n0_ := Aside0.mk (below_step (by repeat (first | (with_reducible first | exact HB.out | apply below_alloc | apply pw_below_drewN | apply below_drew1) | exact HB.out)) hb); have n1_ := Aside0.mk (hbox); have n2_ := Aside0.mk ((by rw [hg]; exact (below_size (by repeat (first | (with_reducible first | exact HB.out | apply below_alloc | apply pw_below_drewN | apply below_drew1) | exact HB.out))) : w.heap.size ≤ gb189)); have n3_ := Aside0.mk ((by rw [hg]; exact (below_size (by repeat (first | (with_reducible first | exact HB.out | apply below_alloc | apply pw_below_drewN | apply below_drew1) | exact HB.out))) : w.heap.size ≤ gb189)); clear HB; have HB := n0_; have BK189 := n1_; have GW189 := n2_; have GE189 := n3_; clear n0_ n1_ n2_ n3_; clear hb hbox hg; have hcz16_0 : w15.cell? ⟨gb189, 0, none⟩ = some (.int .i64 a0_0) := (blk_cell BK189.out 0).trans rfl; have hcz16_1 : w15.cell? ⟨gb189, 1, none⟩ = some (.int .i64 a0_1) := (blk_cell BK189.out 1).trans rfl; have hcz16_2 : w15.cell? ⟨gb189, 2, none⟩ = some (.int .i64 a0_2) := (blk_cell BK189.out 2).trans rfl; have hcz16_3 : w15.cell? ⟨gb189, 3, none⟩ = some (.int .i64 a0_3) := (blk_cell BK189.out 3).trans rfl; have hfz16_0 := blk_frozen BK189.out 0; have hfz16_1 := blk_frozen BK189.out 1; have hfz16_2 := blk_frozen BK189.out 2; have hfz16_3 := blk_frozen BK189.out 3))
      go_ret
      exact ⟨by first | rfl | (simp [errW_none, errW_some] <;> rfl) | (simp [*, errW_none, errW_some] <;> rfl), by repeat (first | (with_reducible first | exact HB.out | apply below_alloc | apply pw_below_drewN | apply below_drew1 | refine below_set ?_ GE189.out) | exact HB.out)⟩
  · rw [if_neg c2] at H
    have c2b0 : decide ((-40) ≤ a0_0) = false := decide_eq_false c2
    clear c2
    obtain rfl := Option.some.inj H
    go_enter Try.func85, Try.ntmps85
    go_wp2_with (first | ((with_reducible refine gate_dst (N := 1) rfl ?_); refine box_event ?hg (N := 1) ?hd (cs := #[.int .i64 a0_0, .int .i64 a0_1, .int .i64 a0_2, .int .i64 a0_3]) (t := 65) ?hr ?_; (case hd => rfl); (case hg => rfl); (case hr => first | (go_simp; done) | (go_simp; rfl)); intro gb189 hg w17 hbox hb; have n0_ := Aside0.mk (below_step (by repeat (first | (with_reducible first | exact HB.out | apply below_alloc | apply pw_below_drewN | apply below_drew1) | exact HB.out)) hb); have n1_ := Aside0.mk (hbox); have n2_ := Aside0.mk ((by rw [hg]; exact (below_size (by repeat (first | (with_reducible first | exact HB.out | apply below_alloc | apply pw_below_drewN | apply below_drew1) | exact HB.out))) : w.heap.size ≤ gb189)); have n3_ := Aside0.mk ((by rw [hg]; exact (below_size (by repeat (first | (with_reducible first | exact HB.out | apply below_alloc | apply pw_below_drewN | apply below_drew1) | exact HB.out))) : w.heap.size ≤ gb189)); clear HB; have HB := n0_; have BK189 := n1_; have GW189 := n2_; have GE189 := n3_; clear n0_ n1_ n2_ n3_; clear hb hbox hg; have hcz18_0 : w17.cell? ⟨gb189, 0, none⟩ = some (.int .i64 a0_0) := (blk_cell BK189.out 0).trans rfl; have hcz18_1 : w17.cell? ⟨gb189, 1, none⟩ = some (.int .i64 a0_1) := (blk_cell BK189.out 1).trans rfl; have hcz18_2 : w17.cell? ⟨gb189, 2, none⟩ = some (.int .i64 a0_2) := (blk_cell BK189.out 2).trans rfl; have hcz18_3 : w17.cell? ⟨gb189, 3, none⟩ = some (.int .i64 a0_3) := (blk_cell BK189.out 3).trans rfl; have hfz18_0 := blk_frozen BK189.out 0; have hfz18_1 := blk_frozen BK189.out 1; have hfz18_2 := blk_frozen BK189.out 2; have hfz18_3 := blk_frozen BK189.out 3))
    go_ret
    exact ⟨by first | rfl | (simp [errW_none, errW_some] <;> rfl) | (simp [*, errW_none, errW_some] <;> rfl), by repeat (first | (with_reducible first | exact HB.out | apply below_alloc | apply pw_below_drewN | apply below_drew1 | refine below_set ?_ GE189.out) | exact HB.out)⟩

end Go.Proofs.Yteepckjegpnffaa.P

/-! ### Px16 -/
namespace Go.Proofs.Yteepckjegpnffaa.P
open Go.RowKit Go.Proofs.YteepckjegpnffaaW.PrintWords Go.Proofs.YteepckjegpnffaaW.PrintLast Go.Proofs.YteepckjegpnffaaW.PrintMore
attribute [local go_sem] max2_int min2_int max_two min_two max_three min_three max_four min_four   -- for this text's walks alone
set_option linter.unusedVariables false
set_option linter.unusedSimpArgs false

/-! ### spec_l11SameInts: function 90 -/
def spec_l11SameInts.l0 : Nat → List Int → List Int → Int → Option (Bool)
  | 0, _, _, _ => none
  | k + 1, x0, x1, x5 => if x5 < (x0.length : Int) then (if 0 ≤ x5 then (if x5 < (x1.length : Int) then (if (rd x0 x5) = (rd x1 x5) then (spec_l11SameInts.l0 k x0 x1 (wrap64 (x5 + 1))) else (some false)) else (none)) else (none)) else (some true)
def spec_l11SameInts.f (k : Nat) (l0 : List Int) (l1 : List Int) : Option (Bool) := if (l0.length : Int) = (l1.length : Int) then (spec_l11SameInts.l0 k l0 l1 0) else (some false)
theorem spec_l11SameInts.mono_l : ∀ k, (∀ y0 y1 y2, LeO (spec_l11SameInts.l0 k y0 y1 y2) (spec_l11SameInts.l0 (k + 1) y0 y1 y2))
  | 0 => fun _ _ _ r h => by simp [spec_l11SameInts.l0] at h
  | k + 1 => by
    have ih0 := spec_l11SameInts.mono_l k
    · intro y0 y1 y2
      unfold spec_l11SameInts.l0
      repeat' first
      | (with_reducible exact ih0 _ _ _)
      | (with_reducible exact LeO.refl _)
      | (with_reducible exact LeO.none _)
      | (with_reducible refine LeO.ite ?_ ?_)
      | (with_reducible refine LeO.bind ?_ (fun _ => ?_))
      | exact ih0 _ _ _
      | exact LeO.none _
      | refine LeO.ite ?_ ?_
      | refine LeO.bind ?_ (fun _ => ?_)
theorem spec_l11SameInts.mono : ∀ a0 a1 k, LeO (spec_l11SameInts.f k a0 a1) (spec_l11SameInts.f (k + 1) a0 a1) := by
  intro a0 a1 k
  have ih0 := spec_l11SameInts.mono_l k
  unfold spec_l11SameInts.f
  repeat' first
      | (with_reducible exact ih0 _ _ _)
      | (with_reducible exact LeO.refl _)
      | (with_reducible exact LeO.none _)
      | (with_reducible refine LeO.ite ?_ ?_)
      | (with_reducible refine LeO.bind ?_ (fun _ => ?_))
      | exact ih0 _ _ _
      | exact LeO.none _
      | refine LeO.ite ?_ ?_
      | refine LeO.bind ?_ (fun _ => ?_)
set_option maxHeartbeats 8000000 in
set_option maxRecDepth 100000 in
theorem spec_l11SameInts.calls (k : Nat) (A0 : Option Addr) (c0 : Nat) (l0 : List Int) (A1 : Option Addr) (c1 : Nat) (l1 : List Int) (r : Bool) (w : World) (hr0 : Kd.C (Kd.int .i64) w A0 l0.length l0) (hc0 : l0.length ≤ c0) (hr1 : Kd.C (Kd.int .i64) w A1 l1.length l1) (hc1 : l1.length ≤ c1) (h : spec_l11SameInts.f k l0 l1 = some r) :
    Calls Try.prog 90 #[.slice A0 l0.length c0, .slice A1 l1.length c1] w fun e w' => e = .returned (.bool r) ∧ Drawn0 w w' := by
  have HR0 := Aside0.mk hr0
  have HC0 := Aside0.mk hc0
  clear hr0 hc0
  have HR1 := Aside0.mk hr1
  have HC1 := Aside0.mk hc1
  clear hr1 hc1
  have H : (if (l0.length : Int) = (l1.length : Int) then (spec_l11SameInts.l0 k l0 l1 0) else (some false)) = some r := h
  clear h
  by_cases c3 : (l0.length : Int) = (l1.length : Int)
  · rw [if_pos c3] at H
    have c3b0 : ((l0.length : Int) == (l1.length : Int)) = true := beq_iff_eq.mpr c3
    have c3b1 : ((l0.length : Int) != (l1.length : Int)) = false := bne_eq_false_iff_eq.mpr c3
    have c3b2 : (l0.length == l1.length) = true := by first | simpa using c3 | (simp at c3 ⊢; omega)
    clear c3
    have H' := Aside0.mk H
    clear H
    go_enter Try.func90, Try.ntmps90
    go_wp2
    repeat (go_quiet (fail); try go_wp2)
    go_loopg [5] k (fun kq v5 w' => ∃ (x5_1 : Int), v5 = .int .i64 x5_1 ∧ Aside0 (spec_l11SameInts.l0 kq l0 l1 x5_1 = some r) ∧ Aside0 (kq ≤ k) ∧ Drawn0 w w')
    case atStart => exact ⟨(0), (by first | rfl | (simp; done) | (simp [*]; done)), H', ⟨Nat.le_refl _⟩, by repeat (first | exact Drawn0.refl _ | apply Drawn0.step)⟩
    case round =>
      clear H'
      try clear c1
      try clear p2
      try clear c3
      try clear c3b0
      try clear c3b1
      try clear c3b2
      obtain ⟨x5_1, rfl, HA, HK1, ⟨m1, rfl⟩⟩ := hrel
      cases gk with
      | zero => exact absurd HA.out (by simp [spec_l11SameInts.l0])
      | succ k1 =>
        have H := HA.out
        clear HA
        simp only [spec_l11SameInts.l0] at H
        by_cases c4 : x5_1 < (l0.length : Int)
        · rw [if_pos c4] at H
          have c4b0 : decide (x5_1 < (l0.length : Int)) = true := decide_eq_true c4
          clear c4
          by_cases c5 : 0 ≤ x5_1
          · rw [if_pos c5] at H
            have c5b0 : decide (0 ≤ x5_1) = true := decide_eq_true c5
            clear c5
            by_cases c6 : x5_1 < (l1.length : Int)
            · rw [if_pos c6] at H
              have c6b0 : decide (x5_1 < (l1.length : Int)) = true := decide_eq_true c6
              clear c6
              by_cases c7 : (rd l0 x5_1) = (rd l1 x5_1)
              · rw [if_pos c7] at H
                have c7b0 : ((rd l0 x5_1) == (rd l1 x5_1)) = true := beq_iff_eq.mpr c7
                have c7b1 : ((rd l0 x5_1) != (rd l1 x5_1)) = false := bne_eq_false_iff_eq.mpr c7
                clear c7
                have H' := Aside0.mk H
                clear H
                have p145 : 0 ≤ (x5_1 : Int) := of_decide_eq_true (by first | (with_reducible assumption) | assumption)
                have q145 : x5_1 < (l0.length : Int) := of_decide_eq_true (by first | (with_reducible assumption) | assumption)
                obtain ⟨ad145, e145, hx145_0⟩ := Kd.at_int HR0.out x5_1 p145 q145
                cases e145
                replace p145 := eq_true p145
                replace q145 := eq_true q145
                have p146 : 0 ≤ (x5_1 : Int) := of_decide_eq_true (by first | (with_reducible assumption) | assumption)
                have q146 : x5_1 < (l1.length : Int) := of_decide_eq_true (by first | (with_reducible assumption) | assumption)
                obtain ⟨ad146, e146, hx146_0⟩ := Kd.at_int HR1.out x5_1 p146 q146
                cases e146
                replace p146 := eq_true p146
                replace q146 := eq_true q146
                go_wp2
                repeat (go_quiet (fail); try go_wp2)
                go_roundg k1
                case measure => have := HK1.out; omega
                case rel => exact ⟨(wrap64 (x5_1 + 1)), (by first | rfl | (simp; done) | (simp [*]; done)), H', ⟨by have := HK1.out; omega⟩, by repeat (first | exact Drawn0.refl _ | apply Drawn0.step)⟩
              · rw [if_neg c7] at H
                have c7b0 : ((rd l0 x5_1) == (rd l1 x5_1)) = false := beq_eq_false_iff_ne.mpr c7
                have c7b1 : ((rd l0 x5_1) != (rd l1 x5_1)) = true := bne_iff_ne.mpr c7
                obtain rfl := Option.some.inj H
                have p145 : 0 ≤ (x5_1 : Int) := of_decide_eq_true (by first | (with_reducible assumption) | assumption)
                have q145 : x5_1 < (l0.length : Int) := of_decide_eq_true (by first | (with_reducible assumption) | assumption)
                obtain ⟨ad145, e145, hx145_0⟩ := Kd.at_int HR0.out x5_1 p145 q145
                cases e145
                replace p145 := eq_true p145
                replace q145 := eq_true q145
                have p146 : 0 ≤ (x5_1 : Int) := of_decide_eq_true (by first | (with_reducible assumption) | assumption)
                have q146 : x5_1 < (l1.length : Int) := of_decide_eq_true (by first | (with_reducible assumption) | assumption)
                obtain ⟨ad146, e146, hx146_0⟩ := Kd.at_int HR1.out x5_1 p146 q146
                cases e146
                replace p146 := eq_true p146
                replace q146 := eq_true q146
                go_wp2
                repeat (go_quiet (fail); try go_wp2)
                go_ret
                exact ⟨by first | rfl | (simp; done) | (simp [*]; done), by repeat (first | exact Drawn0.refl _ | apply Drawn0.step)⟩
            · rw [if_neg c6] at H
              exact absurd H (by simp)
          · rw [if_neg c5] at H
            exact absurd H (by simp)
        · rw [if_neg c4] at H
          have c4b0 : decide (x5_1 < (l0.length : Int)) = false := decide_eq_false c4
          clear c4
          obtain rfl := Option.some.inj H
          go_wp2
          repeat (go_quiet (fail); try go_wp2)
          go_ret
          exact ⟨by first | rfl | (simp; done) | (simp [*]; done), by repeat (first | exact Drawn0.refl _ | apply Drawn0.step)⟩
  · rw [if_neg c3] at H
    have c3b0 : ((l0.length : Int) == (l1.length : Int)) = false := beq_eq_false_iff_ne.mpr c3
    have c3b1 : ((l0.length : Int) != (l1.length : Int)) = true := bne_iff_ne.mpr c3
    have c3b2 : (l0.length == l1.length) = false := by first | simpa using c3 | (simp at c3 ⊢; omega)
    obtain rfl := Option.some.inj H
    go_enter Try.func90, Try.ntmps90
    go_wp2
    repeat (go_quiet (fail); try go_wp2)
    go_ret
    exact ⟨by first | rfl | (simp; done) | (simp [*]; done), by repeat (first | exact Drawn0.refl _ | apply Drawn0.step)⟩

end Go.Proofs.Yteepckjegpnffaa.P

/-! ### IxPure -/
/- A valid index, the plain side: entries valid and their ids growing, the buckets as made. -/
set_option linter.unusedVariables false
set_option linter.unusedSimpArgs false
namespace Go.Proofs.Yteepckjegpnffaa.Q
open Go.RowKit Go.Proofs.Yteepckjegpnffaa.P Go.Proofs.Yteepckjegpnffaa.H Go.Proofs.YteepckjegpnffaaW.PrintWords Go.Proofs.YteepckjegpnffaaW.PrintLast
def okR (r : S65) : Bool := decide (-40 ≤ r.f0 ∧ r.f0 < r.f2 ∧ r.f2 ≤ 40 ∧ -40 ≤ r.f1 ∧ r.f1 < r.f3 ∧ r.f3 ≤ 40)
def okId (x : Int) : Bool := decide (1 ≤ x ∧ x ≤ 9999)
theorem spec_okR (r : S65) : spec_l09Rect.f r.f0 r.f1 r.f2 r.f3 = some (okR r) := by
  unfold spec_l09Rect.f okR
  by_cases a : -40 ≤ r.f0 <;> by_cases b : r.f0 < r.f2 <;> by_cases c : r.f2 ≤ 40 <;> by_cases d : -40 ≤ r.f1 <;> by_cases e : r.f1 < r.f3 <;> simp [a, b, c, d, e]
theorem impl_okR (r : S65) : impl_IsValidRect.f r.f0 r.f1 r.f2 r.f3 = some (okR r) := spec_okR r
theorem spec_okId (x : Int) : spec_l09In.f x 1 9999 = some (okId x) := by
  unfold spec_l09In.f okId
  by_cases a : 1 ≤ x <;> simp [a]
theorem impl_okId (x : Int) : impl_within.f x 1 9999 = some (okId x) := spec_okId x
/-- Entry i passes. -/
def okAt (l : List S94) (i : Nat) : Bool := okId (l.getD i z94).f0 && okR (l.getD i z94).f1 && (decide (i = 0) || decide ((l.getD (i - 1) z94).f0 < (l.getD i z94).f0))
def vix (l : List S94) (b : List (List Int)) : Bool := decide (l.length ≤ 40) && (List.range l.length).all (okAt l) && decide (b = made l)
theorem wrap_nat (i : Nat) (h : i ≤ 1000000000000) : wrap64 ((i : Int) + 1) = ((i + 1 : Nat) : Int) := by
  unfold wrap64
  omega
theorem rd_nat (l : List Int) (i : Nat) (h : i < l.length) : rd l (i : Int) = l[i] := by
  unfold rd
  rw [Int.toNat_natCast, List.getD_eq_getElem?_getD, List.getElem?_eq_getElem h]
  rfl
theorem same_l (p q : List Int) (hl : p.length = q.length) (hs : p.length ≤ 1000000000) : ∀ (n i : Nat), i + n = p.length → spec_l11SameInts.l0 (n + 1) p q i = some (decide (p.drop i = q.drop i))
  | 0, i, h => by
    simp only [spec_l11SameInts.l0]
    rw [if_neg (by omega), List.drop_eq_nil_of_le (by omega), List.drop_eq_nil_of_le (by omega)]
    rfl
  | n + 1, i, h => by
    have h1 : i < p.length := by omega
    have h2 : i < q.length := by omega
    rw [spec_l11SameInts.l0]
    rw [if_pos (by omega), if_pos (by omega), if_pos (by omega), rd_nat p i h1, rd_nat q i h2, wrap_nat i (by omega), same_l p q hl hs n (i + 1) (by omega)]
    rw [List.drop_eq_getElem_cons h1, List.drop_eq_getElem_cons h2]
    by_cases he : p[i] = q[i]
    · rw [if_pos he]; congr 1; rw [decide_eq_decide, List.cons.injEq]; exact ⟨fun h => ⟨he, h⟩, fun h => h.2⟩
    · rw [if_neg he]; congr 1; symm; rw [decide_eq_false_iff_not, List.cons.injEq]; exact fun h => he h.1
theorem same_f (p q : List Int) (hs : p.length ≤ 1000000000) : ∃ k, spec_l11SameInts.f k p q = some (decide (p = q)) := by
  by_cases hl : p.length = q.length
  · refine ⟨p.length + 1, ?_⟩
    unfold spec_l11SameInts.f
    rw [if_pos (by omega)]
    exact same_l p q hl hs p.length 0 (by omega)
  · refine ⟨0, ?_⟩
    unfold spec_l11SameInts.f
    rw [if_neg (by omega), decide_eq_false (fun e => hl (by rw [e]))]
end Go.Proofs.Yteepckjegpnffaa.Q

/-! ### Keep -/
/- Facts on cells that stay in a world that has only grown: for the regions that draw their order (go_region_held3). -/
set_option linter.unusedVariables false
namespace Go.Proofs.Yteepckjegpnffaa.H
open Go.RowKit Go.Proofs.YteepckjegpnffaaW.PrintWords Go.Proofs.YteepckjegpnffaaW.PrintLast
theorem cell_on {w1 w2 : World} (hb : Below w1.heap.size w1 w2) {a : Addr} {v : Value} (h : w1.cell? a = some v) : w2.cell? a = some v := by rw [hb.cell (World.block_lt_of_cell? _ _ h)]; exact h
theorem keep0 {w1 w2 W : World} (h : Below W.heap.size W w1) (hb : Below w1.heap.size w1 w2) : Below W.heap.size W w2 := h.trans (hb.mono h.size)
theorem keep1 {w1 w2 W : World} {a0 : Addr} {v0 : Value} (h : w1.cell? a0 = some v0 ∧ Below W.heap.size W w1) (hb : Below w1.heap.size w1 w2) : w2.cell? a0 = some v0 ∧ Below W.heap.size W w2 := by
  obtain ⟨c0, hB⟩ := h
  exact ⟨cell_on hb c0, hB.trans (hb.mono hB.size)⟩
theorem keep2 {w1 w2 W : World} {a0 : Addr} {v0 : Value} {a1 : Addr} {v1 : Value} (h : w1.cell? a0 = some v0 ∧ w1.cell? a1 = some v1 ∧ Below W.heap.size W w1) (hb : Below w1.heap.size w1 w2) : w2.cell? a0 = some v0 ∧ w2.cell? a1 = some v1 ∧ Below W.heap.size W w2 := by
  obtain ⟨c0, c1, hB⟩ := h
  exact ⟨cell_on hb c0, cell_on hb c1, hB.trans (hb.mono hB.size)⟩
theorem keep3 {w1 w2 W : World} {a0 : Addr} {v0 : Value} {a1 : Addr} {v1 : Value} {a2 : Addr} {v2 : Value} (h : w1.cell? a0 = some v0 ∧ w1.cell? a1 = some v1 ∧ w1.cell? a2 = some v2 ∧ Below W.heap.size W w1) (hb : Below w1.heap.size w1 w2) : w2.cell? a0 = some v0 ∧ w2.cell? a1 = some v1 ∧ w2.cell? a2 = some v2 ∧ Below W.heap.size W w2 := by
  obtain ⟨c0, c1, c2, hB⟩ := h
  exact ⟨cell_on hb c0, cell_on hb c1, cell_on hb c2, hB.trans (hb.mono hB.size)⟩
theorem keep4 {w1 w2 W : World} {a0 : Addr} {v0 : Value} {a1 : Addr} {v1 : Value} {a2 : Addr} {v2 : Value} {a3 : Addr} {v3 : Value} (h : w1.cell? a0 = some v0 ∧ w1.cell? a1 = some v1 ∧ w1.cell? a2 = some v2 ∧ w1.cell? a3 = some v3 ∧ Below W.heap.size W w1) (hb : Below w1.heap.size w1 w2) : w2.cell? a0 = some v0 ∧ w2.cell? a1 = some v1 ∧ w2.cell? a2 = some v2 ∧ w2.cell? a3 = some v3 ∧ Below W.heap.size W w2 := by
  obtain ⟨c0, c1, c2, c3, hB⟩ := h
  exact ⟨cell_on hb c0, cell_on hb c1, cell_on hb c2, cell_on hb c3, hB.trans (hb.mono hB.size)⟩
theorem keep5 {w1 w2 W : World} {a0 : Addr} {v0 : Value} {a1 : Addr} {v1 : Value} {a2 : Addr} {v2 : Value} {a3 : Addr} {v3 : Value} {a4 : Addr} {v4 : Value} (h : w1.cell? a0 = some v0 ∧ w1.cell? a1 = some v1 ∧ w1.cell? a2 = some v2 ∧ w1.cell? a3 = some v3 ∧ w1.cell? a4 = some v4 ∧ Below W.heap.size W w1) (hb : Below w1.heap.size w1 w2) : w2.cell? a0 = some v0 ∧ w2.cell? a1 = some v1 ∧ w2.cell? a2 = some v2 ∧ w2.cell? a3 = some v3 ∧ w2.cell? a4 = some v4 ∧ Below W.heap.size W w2 := by
  obtain ⟨c0, c1, c2, c3, c4, hB⟩ := h
  exact ⟨cell_on hb c0, cell_on hb c1, cell_on hb c2, cell_on hb c3, cell_on hb c4, hB.trans (hb.mono hB.size)⟩
theorem keep6 {w1 w2 W : World} {a0 : Addr} {v0 : Value} {a1 : Addr} {v1 : Value} {a2 : Addr} {v2 : Value} {a3 : Addr} {v3 : Value} {a4 : Addr} {v4 : Value} {a5 : Addr} {v5 : Value} (h : w1.cell? a0 = some v0 ∧ w1.cell? a1 = some v1 ∧ w1.cell? a2 = some v2 ∧ w1.cell? a3 = some v3 ∧ w1.cell? a4 = some v4 ∧ w1.cell? a5 = some v5 ∧ Below W.heap.size W w1) (hb : Below w1.heap.size w1 w2) : w2.cell? a0 = some v0 ∧ w2.cell? a1 = some v1 ∧ w2.cell? a2 = some v2 ∧ w2.cell? a3 = some v3 ∧ w2.cell? a4 = some v4 ∧ w2.cell? a5 = some v5 ∧ Below W.heap.size W w2 := by
  obtain ⟨c0, c1, c2, c3, c4, c5, hB⟩ := h
  exact ⟨cell_on hb c0, cell_on hb c1, cell_on hb c2, cell_on hb c3, cell_on hb c4, cell_on hb c5, hB.trans (hb.mono hB.size)⟩
theorem keep7 {w1 w2 W : World} {a0 : Addr} {v0 : Value} {a1 : Addr} {v1 : Value} {a2 : Addr} {v2 : Value} {a3 : Addr} {v3 : Value} {a4 : Addr} {v4 : Value} {a5 : Addr} {v5 : Value} {a6 : Addr} {v6 : Value} (h : w1.cell? a0 = some v0 ∧ w1.cell? a1 = some v1 ∧ w1.cell? a2 = some v2 ∧ w1.cell? a3 = some v3 ∧ w1.cell? a4 = some v4 ∧ w1.cell? a5 = some v5 ∧ w1.cell? a6 = some v6 ∧ Below W.heap.size W w1) (hb : Below w1.heap.size w1 w2) : w2.cell? a0 = some v0 ∧ w2.cell? a1 = some v1 ∧ w2.cell? a2 = some v2 ∧ w2.cell? a3 = some v3 ∧ w2.cell? a4 = some v4 ∧ w2.cell? a5 = some v5 ∧ w2.cell? a6 = some v6 ∧ Below W.heap.size W w2 := by
  obtain ⟨c0, c1, c2, c3, c4, c5, c6, hB⟩ := h
  exact ⟨cell_on hb c0, cell_on hb c1, cell_on hb c2, cell_on hb c3, cell_on hb c4, cell_on hb c5, cell_on hb c6, hB.trans (hb.mono hB.size)⟩
theorem keep8 {w1 w2 W : World} {a0 : Addr} {v0 : Value} {a1 : Addr} {v1 : Value} {a2 : Addr} {v2 : Value} {a3 : Addr} {v3 : Value} {a4 : Addr} {v4 : Value} {a5 : Addr} {v5 : Value} {a6 : Addr} {v6 : Value} {a7 : Addr} {v7 : Value} (h : w1.cell? a0 = some v0 ∧ w1.cell? a1 = some v1 ∧ w1.cell? a2 = some v2 ∧ w1.cell? a3 = some v3 ∧ w1.cell? a4 = some v4 ∧ w1.cell? a5 = some v5 ∧ w1.cell? a6 = some v6 ∧ w1.cell? a7 = some v7 ∧ Below W.heap.size W w1) (hb : Below w1.heap.size w1 w2) : w2.cell? a0 = some v0 ∧ w2.cell? a1 = some v1 ∧ w2.cell? a2 = some v2 ∧ w2.cell? a3 = some v3 ∧ w2.cell? a4 = some v4 ∧ w2.cell? a5 = some v5 ∧ w2.cell? a6 = some v6 ∧ w2.cell? a7 = some v7 ∧ Below W.heap.size W w2 := by
  obtain ⟨c0, c1, c2, c3, c4, c5, c6, c7, hB⟩ := h
  exact ⟨cell_on hb c0, cell_on hb c1, cell_on hb c2, cell_on hb c3, cell_on hb c4, cell_on hb c5, cell_on hb c6, cell_on hb c7, hB.trans (hb.mono hB.size)⟩
theorem keep9 {w1 w2 W : World} {a0 : Addr} {v0 : Value} {a1 : Addr} {v1 : Value} {a2 : Addr} {v2 : Value} {a3 : Addr} {v3 : Value} {a4 : Addr} {v4 : Value} {a5 : Addr} {v5 : Value} {a6 : Addr} {v6 : Value} {a7 : Addr} {v7 : Value} {a8 : Addr} {v8 : Value} (h : w1.cell? a0 = some v0 ∧ w1.cell? a1 = some v1 ∧ w1.cell? a2 = some v2 ∧ w1.cell? a3 = some v3 ∧ w1.cell? a4 = some v4 ∧ w1.cell? a5 = some v5 ∧ w1.cell? a6 = some v6 ∧ w1.cell? a7 = some v7 ∧ w1.cell? a8 = some v8 ∧ Below W.heap.size W w1) (hb : Below w1.heap.size w1 w2) : w2.cell? a0 = some v0 ∧ w2.cell? a1 = some v1 ∧ w2.cell? a2 = some v2 ∧ w2.cell? a3 = some v3 ∧ w2.cell? a4 = some v4 ∧ w2.cell? a5 = some v5 ∧ w2.cell? a6 = some v6 ∧ w2.cell? a7 = some v7 ∧ w2.cell? a8 = some v8 ∧ Below W.heap.size W w2 := by
  obtain ⟨c0, c1, c2, c3, c4, c5, c6, c7, c8, hB⟩ := h
  exact ⟨cell_on hb c0, cell_on hb c1, cell_on hb c2, cell_on hb c3, cell_on hb c4, cell_on hb c5, cell_on hb c6, cell_on hb c7, cell_on hb c8, hB.trans (hb.mono hB.size)⟩
theorem keep10 {w1 w2 W : World} {a0 : Addr} {v0 : Value} {a1 : Addr} {v1 : Value} {a2 : Addr} {v2 : Value} {a3 : Addr} {v3 : Value} {a4 : Addr} {v4 : Value} {a5 : Addr} {v5 : Value} {a6 : Addr} {v6 : Value} {a7 : Addr} {v7 : Value} {a8 : Addr} {v8 : Value} {a9 : Addr} {v9 : Value} (h : w1.cell? a0 = some v0 ∧ w1.cell? a1 = some v1 ∧ w1.cell? a2 = some v2 ∧ w1.cell? a3 = some v3 ∧ w1.cell? a4 = some v4 ∧ w1.cell? a5 = some v5 ∧ w1.cell? a6 = some v6 ∧ w1.cell? a7 = some v7 ∧ w1.cell? a8 = some v8 ∧ w1.cell? a9 = some v9 ∧ Below W.heap.size W w1) (hb : Below w1.heap.size w1 w2) : w2.cell? a0 = some v0 ∧ w2.cell? a1 = some v1 ∧ w2.cell? a2 = some v2 ∧ w2.cell? a3 = some v3 ∧ w2.cell? a4 = some v4 ∧ w2.cell? a5 = some v5 ∧ w2.cell? a6 = some v6 ∧ w2.cell? a7 = some v7 ∧ w2.cell? a8 = some v8 ∧ w2.cell? a9 = some v9 ∧ Below W.heap.size W w2 := by
  obtain ⟨c0, c1, c2, c3, c4, c5, c6, c7, c8, c9, hB⟩ := h
  exact ⟨cell_on hb c0, cell_on hb c1, cell_on hb c2, cell_on hb c3, cell_on hb c4, cell_on hb c5, cell_on hb c6, cell_on hb c7, cell_on hb c8, cell_on hb c9, hB.trans (hb.mono hB.size)⟩
theorem keep11 {w1 w2 W : World} {a0 : Addr} {v0 : Value} {a1 : Addr} {v1 : Value} {a2 : Addr} {v2 : Value} {a3 : Addr} {v3 : Value} {a4 : Addr} {v4 : Value} {a5 : Addr} {v5 : Value} {a6 : Addr} {v6 : Value} {a7 : Addr} {v7 : Value} {a8 : Addr} {v8 : Value} {a9 : Addr} {v9 : Value} {a10 : Addr} {v10 : Value} (h : w1.cell? a0 = some v0 ∧ w1.cell? a1 = some v1 ∧ w1.cell? a2 = some v2 ∧ w1.cell? a3 = some v3 ∧ w1.cell? a4 = some v4 ∧ w1.cell? a5 = some v5 ∧ w1.cell? a6 = some v6 ∧ w1.cell? a7 = some v7 ∧ w1.cell? a8 = some v8 ∧ w1.cell? a9 = some v9 ∧ w1.cell? a10 = some v10 ∧ Below W.heap.size W w1) (hb : Below w1.heap.size w1 w2) : w2.cell? a0 = some v0 ∧ w2.cell? a1 = some v1 ∧ w2.cell? a2 = some v2 ∧ w2.cell? a3 = some v3 ∧ w2.cell? a4 = some v4 ∧ w2.cell? a5 = some v5 ∧ w2.cell? a6 = some v6 ∧ w2.cell? a7 = some v7 ∧ w2.cell? a8 = some v8 ∧ w2.cell? a9 = some v9 ∧ w2.cell? a10 = some v10 ∧ Below W.heap.size W w2 := by
  obtain ⟨c0, c1, c2, c3, c4, c5, c6, c7, c8, c9, c10, hB⟩ := h
  exact ⟨cell_on hb c0, cell_on hb c1, cell_on hb c2, cell_on hb c3, cell_on hb c4, cell_on hb c5, cell_on hb c6, cell_on hb c7, cell_on hb c8, cell_on hb c9, cell_on hb c10, hB.trans (hb.mono hB.size)⟩
theorem keep12 {w1 w2 W : World} {a0 : Addr} {v0 : Value} {a1 : Addr} {v1 : Value} {a2 : Addr} {v2 : Value} {a3 : Addr} {v3 : Value} {a4 : Addr} {v4 : Value} {a5 : Addr} {v5 : Value} {a6 : Addr} {v6 : Value} {a7 : Addr} {v7 : Value} {a8 : Addr} {v8 : Value} {a9 : Addr} {v9 : Value} {a10 : Addr} {v10 : Value} {a11 : Addr} {v11 : Value} (h : w1.cell? a0 = some v0 ∧ w1.cell? a1 = some v1 ∧ w1.cell? a2 = some v2 ∧ w1.cell? a3 = some v3 ∧ w1.cell? a4 = some v4 ∧ w1.cell? a5 = some v5 ∧ w1.cell? a6 = some v6 ∧ w1.cell? a7 = some v7 ∧ w1.cell? a8 = some v8 ∧ w1.cell? a9 = some v9 ∧ w1.cell? a10 = some v10 ∧ w1.cell? a11 = some v11 ∧ Below W.heap.size W w1) (hb : Below w1.heap.size w1 w2) : w2.cell? a0 = some v0 ∧ w2.cell? a1 = some v1 ∧ w2.cell? a2 = some v2 ∧ w2.cell? a3 = some v3 ∧ w2.cell? a4 = some v4 ∧ w2.cell? a5 = some v5 ∧ w2.cell? a6 = some v6 ∧ w2.cell? a7 = some v7 ∧ w2.cell? a8 = some v8 ∧ w2.cell? a9 = some v9 ∧ w2.cell? a10 = some v10 ∧ w2.cell? a11 = some v11 ∧ Below W.heap.size W w2 := by
  obtain ⟨c0, c1, c2, c3, c4, c5, c6, c7, c8, c9, c10, c11, hB⟩ := h
  exact ⟨cell_on hb c0, cell_on hb c1, cell_on hb c2, cell_on hb c3, cell_on hb c4, cell_on hb c5, cell_on hb c6, cell_on hb c7, cell_on hb c8, cell_on hb c9, cell_on hb c10, cell_on hb c11, hB.trans (hb.mono hB.size)⟩
end Go.Proofs.Yteepckjegpnffaa.H

/-! ### Reg -/
/- A region that draws its order, walked once in the order of its text: what each operation yields holds in every world that meets S (S: for example, 'nothing that stood has changed'). -/
set_option linter.unusedVariables false
set_option linter.unusedSimpArgs false
namespace Go.Proofs.Yteepckjegpnffaa.H
open Go.RowKit Go.Proofs.YteepckjegpnffaaW.PrintWords Go.Proofs.YteepckjegpnffaaW.PrintLast
/-- The bits of what each operation waits for. -/
def bitsOf (T : List (List Nat × List Nat)) : List Nat := T.foldl (fun B r => B ++ [r.1.foldl (fun m n => m ||| (1 <<< n) ||| B.getD n 0) 0]) []
/-- What an operation looks at was filled by what it waits for; no two fill one slot; none looks at its own. -/
def lookOk (ops : Array Oper) (B : List Nat) : Bool :=
  (List.range ops.size).all fun i => match ops[i]? with
    | some o => (List.range ops.size).all fun j => match ops[j]? with
      | some oj => match oj.dst with
        | some d => (!(o.looksAt ops).contains d || (decide (j < i) && (B.getD i 0).testBit j)) && (j == i || !(o.dst == some d))
        | none => true
      | none => true
    | none => true
def regOk (ops : Array Oper) : Bool := (rtab .any ops).1 && waitsOk (rtab .any ops).2 (bitsOf (rtab .any ops).2) && baseOk (rtab .any ops).2 (List.range (rtab .any ops).2.length) && decide ((rtab .any ops).2.length = ops.size) && lookOk ops (bitsOf (rtab .any ops).2)
section
variable {P : Program} {ops : Array Oper} {Q : Exit → Act → World → Prop} {S : World → Prop}
/-- What an operation does in every world that meets S. -/
def Does (P : Program) (S : World → Prop) (a : Act) (o : Oper) (v : Value) : Prop :=
  (∀ w, S w → (execOp a.eval o).run P w = .ok (.value v) w) ∨
  (∃ f args, ∀ w, S w → (execOp a.eval o).run P w = .ok (.enter f args) w ∧ Calls P f args w fun e w' => e = .returned v ∧ S w')
def wpG (P : Program) (ops : Array Oper) (Q : Exit → Act → World → Prop) (S : World → Prop) : List Oper → Act → Prop
  | [], a => ∀ w, S w → Q .normal a w
  | o :: rest, a => (Region.wanted o (yielded ops a.tmps) = false ∧ wpG P ops Q S rest (a.put o.dst undef)) ∨ (Region.wanted o (yielded ops a.tmps) = true ∧ ∃ v, Does P S a o v ∧ wpG P ops Q S rest (a.put o.dst v))
def putL : Act → List Oper → List Value → Act
  | a, o :: l, v :: vs => putL (a.put o.dst v) l vs
  | a, _, _ => a
def StepG (P : Program) (ops : Array Oper) (S : World → Prop) (a : Act) (o : Oper) (v : Value) : Prop :=
  (Region.wanted o (yielded ops a.tmps) = false ∧ v = undef) ∨ (Region.wanted o (yielded ops a.tmps) = true ∧ Does P S a o v)
theorem wpG_vals : ∀ (l : List Oper) (a : Act), wpG P ops Q S l a → ∃ vs : List Value, vs.length = l.length ∧ (∀ (i : Nat) o v, l[i]? = some o → vs[i]? = some v → StepG P ops S (putL a (l.take i) vs) o v) ∧ ∀ w, S w → Q .normal (putL a l vs) w
  | [], a, h => ⟨[], rfl, fun i o v h => by simp at h, h⟩
  | o :: rest, a, h => by
    have key : ∃ v, StepG P ops S a o v ∧ wpG P ops Q S rest (a.put o.dst v) := by
      rcases h with ⟨h1, h2⟩ | ⟨h1, v, h2, h3⟩
      · exact ⟨undef, .inl ⟨h1, rfl⟩, h2⟩
      · exact ⟨v, .inr ⟨h1, h2⟩, h3⟩
    obtain ⟨v, h1, h2⟩ := key
    obtain ⟨vs, hl, hs, hq⟩ := wpG_vals rest _ h2
    refine ⟨v :: vs, by simp [hl], fun i o' v' ho hv => ?_, hq⟩
    cases i with
    | zero =>
      simp only [List.getElem?_cons_zero, Option.some.injEq] at ho hv
      subst ho hv
      exact h1
    | succ i => exact hs i o' v' (by simpa using ho) (by simpa using hv)
theorem putL_snoc : ∀ (l : List Oper) (vs : List Value) (a : Act) (i : Nat) (o : Oper) (v : Value), l[i]? = some o → vs[i]? = some v → putL a (l.take (i + 1)) vs = (putL a (l.take i) vs).put o.dst v
  | [], _, _, _, _, _, h, _ => by simp at h
  | o :: l, [], _, _, _, _, _, h => by simp at h
  | o :: l, v :: vs, a, 0, o', v', h, h' => by
    simp only [List.getElem?_cons_zero, Option.some.injEq] at h h'
    subst h h'
    cases l <;> rfl
  | o :: l, v :: vs, a, i + 1, o', v', h, h' => putL_snoc l vs (a.put o.dst v) i o' v' (by simpa using h) (by simpa using h')
/-- The entries of the slots that the region fills. -/
def ents (ops : Array Oper) (vs : List Value) : List (Nat × Tmp × Value) := (List.range ops.size).filterMap fun i => ((ops[i]?).bind fun o => o.dst).map fun t => (i, t, vs.getD i undef)
theorem mem_ents {vs : List Value} {e : Nat × Tmp × Value} (h : e ∈ ents ops vs) : ∃ o, ops[e.1]? = some o ∧ o.dst = some e.2.1 ∧ e.2.2 = vs.getD e.1 undef := by
  obtain ⟨i, hi, he⟩ := List.mem_filterMap.1 h
  obtain ⟨t, ht, rfl⟩ := Option.map_eq_some_iff.1 he
  obtain ⟨o, ho, hd⟩ := Option.bind_eq_some_iff.1 ht
  exact ⟨o, ho, hd, rfl⟩
theorem putSel_congr {t : Tmp} {b b' : Nat → Bool} : ∀ {L : List (Nat × Tmp × Value)} {a a' : Act}, (∀ e ∈ L, e.2.1 = t → b e.1 = b' e.1) → a.tmps[t]? = a'.tmps[t]? → a.tmps.size = a'.tmps.size → (putSel a b L).tmps[t]? = (putSel a' b' L).tmps[t]?
  | [], _, _, _, h, _ => h
  | e :: r, a, a', h, ht, hz => by
    unfold putSel
    by_cases he : e.2.1 = t
    · rw [← h e (by simp) he]
      cases b e.1
      · exact putSel_congr (fun x hx => h x (by simp [hx])) ht hz
      · simp only [if_true]
        refine putSel_congr (fun x hx => h x (by simp [hx])) ?_ (by simp [Act.put, hz])
        subst he
        simp [Act.put, Array.getElem?_setIfInBounds, hz]
    · refine putSel_congr (fun x hx => h x (by simp [hx])) ?_ ?_
      · split <;> split <;> simp [Act.put, Array.getElem?_setIfInBounds_ne he, ht]
      · split <;> split <;> simp [Act.put, hz]
theorem putL_sel (vs : List Value) (a : Act) (hd : ∀ (i : Nat) (o : Oper) (j : Nat) (o' : Oper), ops[i]? = some o → ops[j]? = some o' → i ≠ j → ∀ t, o.dst = some t → o'.dst ≠ some t) (hl : vs.length = ops.size) :
    ∀ i, i ≤ ops.size → putL a (ops.toList.take i) vs = putSel a (fun j => decide (j < i)) (ents ops vs)
  | 0, _ => by
    have : ∀ (L : List (Nat × Tmp × Value)) (a : Act), putSel a (fun j => decide (j < 0)) L = a := by
      intro L
      induction L with
      | nil => intro a; rfl
      | cons e r ih => intro a; unfold putSel; simpa using ih a
    rw [this]
    cases vs <;> rfl
  | i + 1, hi => by
    obtain ⟨o, ho⟩ : ∃ o, ops[i]? = some o := ⟨ops[i], Array.getElem?_eq_getElem (by omega)⟩
    obtain ⟨v, hv⟩ : ∃ v, vs[i]? = some v := ⟨vs[i]'(by omega), List.getElem?_eq_getElem (by omega)⟩
    rw [putL_snoc _ _ _ i o v (by simpa using ho) hv, putL_sel vs a hd hl i (by omega)]
    have hup : (fun j => decide (j < i + 1)) = up (fun j => decide (j < i)) i := by
      funext j
      unfold up
      by_cases h : j = i
      · subst h; simp
      · rw [if_neg h]; congr 1; apply propext; omega
    rw [hup]
    cases hdst : o.dst with
    | none =>
      refine putSel_none ?_
      rw [List.all_eq_true]
      intro e he
      obtain ⟨o', ho', hd', _⟩ := mem_ents he
      have : e.1 ≠ i := fun h => by rw [h, ho] at ho'; injection ho' with h2; rw [← h2, hdst] at hd'; cases hd'
      simp [this]
    | some t =>
      have hspl : ents ops vs = ((List.range i).filterMap fun i => ((ops[i]?).bind fun o => o.dst).map fun t => (i, t, vs.getD i undef)) ++ (i, t, v) :: ((List.range' (i + 1) (ops.size - (i + 1))).filterMap fun i => ((ops[i]?).bind fun o => o.dst).map fun t => (i, t, vs.getD i undef)) := by
        have h1 : List.range ops.size = List.range i ++ i :: List.range' (i + 1) (ops.size - (i + 1)) := by
          rw [List.range_eq_range', List.range_eq_range']
          have h3 : List.range' 0 ops.size = List.range' 0 i ++ List.range' i (ops.size - i) := by
            have := List.range'_append_1 (s := 0) (m := i) (n := ops.size - i)
            rw [Nat.zero_add, show i + (ops.size - i) = ops.size from by omega] at this
            exact this.symm
          rw [h3, show ops.size - i = (ops.size - (i + 1)) + 1 from by omega, List.range'_succ]
        have h2 : vs.getD i undef = v := by simp [List.getD_eq_getElem?_getD, hv]
        unfold ents
        rw [h1, List.filterMap_append, List.filterMap_cons]
        simp only [ho, Option.bind_some, hdst, Option.map_some, h2]
      rw [hspl]
      refine putSel_up (by simp) ?_
      rw [List.all_eq_true]
      intro e he
      have hmem : e ∈ ents ops vs ∧ e.1 ≠ i := by
        rw [hspl]
        rcases List.mem_append.1 he with h | h
        · refine ⟨List.mem_append_left _ h, ?_⟩
          obtain ⟨j, hj, hj2⟩ := List.mem_filterMap.1 h
          obtain ⟨t', _, rfl⟩ := Option.map_eq_some_iff.1 hj2
          have := List.mem_range.1 hj
          show j ≠ i
          omega
        · refine ⟨List.mem_append_right _ (List.mem_cons_of_mem _ h), ?_⟩
          obtain ⟨j, hj, hj2⟩ := List.mem_filterMap.1 h
          obtain ⟨t', _, rfl⟩ := Option.map_eq_some_iff.1 hj2
          have := List.mem_range'_1.1 hj
          show j ≠ i
          omega
      obtain ⟨o', ho', hd', _⟩ := mem_ents hmem.1
      have h3 : e.2.1 ≠ t := fun h => hd i o e.1 o' ho ho' (fun x => hmem.2 x.symm) t hdst (by rw [hd', h])
      simp [hmem.2, h3]
theorem lookOk_dst {B : List Nat} (h : lookOk ops B = true) (i : Nat) (o : Oper) (j : Nat) (oj : Oper) (hi : ops[i]? = some o) (hj : ops[j]? = some oj) (t : Tmp) (ht : oj.dst = some t) :
    (t ∈ o.looksAt ops → j < i ∧ (B.getD i 0).testBit j = true) ∧ (j = i ∨ o.dst ≠ some t) := by
  have h1 := List.all_eq_true.1 h i (List.mem_range.2 (Array.getElem?_eq_some_iff.1 hi).1)
  rw [hi] at h1
  have h2 := List.all_eq_true.1 h1 j (List.mem_range.2 (Array.getElem?_eq_some_iff.1 hj).1)
  rw [hj] at h2
  simp only [ht, Bool.and_eq_true, Bool.or_eq_true, Bool.not_eq_true', decide_eq_true_eq, beq_iff_eq, beq_eq_false_iff_ne] at h2
  refine ⟨fun hm => ?_, h2.2⟩
  rcases h2.1 with h3 | h3
  · rw [List.contains_iff_mem.2 hm] at h3
    cases h3
  · exact h3
theorem look_same {a a' : Act} {o : Oper} (hs : ∀ cs b, o.op ≠ .select cs b) (h : ∀ t ∈ o.looksAt ops, a.tmps[t]? = a'.tmps[t]?) : execOp a.eval o = execOp a'.eval o ∧ Region.wanted o (yielded ops a.tmps) = Region.wanted o (yielded ops a'.tmps) := by
  constructor
  · refine execOp_congr o hs (fun x hx => ?_)
    cases x with
    | tmp t =>
      have := h t (List.mem_append_left _ (List.mem_filterMap.2 ⟨.tmp t, by simpa using hx, rfl⟩))
      simp [Act.eval, Array.getD_eq_getD_getElem?, this]
    | _ => rfl
  · unfold Region.wanted
    cases hg : o.guard with
    | none => rfl
    | some gw =>
      obtain ⟨g, want⟩ := gw
      have hy : yielded ops a.tmps g = yielded ops a'.tmps g := by
        unfold yielded
        cases ht : (ops[g]?).bind (·.dst) with
        | none => rfl
        | some t =>
          have := h t (List.mem_append_right _ (by simp [hg, ht]))
          simp [this]
      simp only [hy]
/-- THE REGION, WHATEVER ORDER IS DRAWN, by one walk in the order of its text. -/
theorem region_seq {id : Nat} {a : Act} {W : World} (S : World → Prop) (hm : P.follows .mixedOrders = true) (hok : regOk ops = true) (hS : S W.drew) (h : wpG P ops Q S ops.toList a) : (Code.region id ops true).wp P Q a W := by
  simp only [regOk, Bool.and_eq_true, decide_eq_true_eq] at hok
  obtain ⟨⟨⟨⟨h1, h2⟩, h3⟩, h4⟩, h5⟩ := hok
  have hsel : Region.noSelect ops = true := h1
  obtain ⟨vs, hl, hstep, hq⟩ := wpG_vals _ _ h
  have hl : vs.length = ops.size := hl.trans Array.length_toList
  have hd : ∀ (i : Nat) (o : Oper) (j : Nat) (o' : Oper), ops[i]? = some o → ops[j]? = some o' → i ≠ j → ∀ t, o.dst = some t → o'.dst ≠ some t := by
    intro i o j o' hi hj hne t ht ht'
    rcases (lookOk_dst h5 i o j o' hi hj t ht').2 with h | h
    · exact hne h.symm
    · exact h ht
  refine wp_region_last (S := fun _ => True) (ds := []) hm ?_
  refine inv_ (T := rtab .any ops) (B := bitsOf (rtab .any ops).2) (List.range (rtab .any ops).2.length) (fun b a' w' => S w' ∧ a' = putSel a b (ents ops vs)) rfl h2 h3 ?_ ⟨hS, ?_⟩ ?_ ?_
  · rw [h4]
    simp only [List.length_range, beq_self_eq_true, Bool.and_true]
    rw [beq_iff_eq]
    apply List.ext_getElem?
    intro j
    by_cases hj : j < ops.size
    · simp only [lof, List.getElem?_map, List.getElem?_range hj, Option.map_some]
      rw [List.contains_iff_mem.2 (List.mem_range.2 hj)]
      simp [hj]
    · rw [List.getElem?_eq_none (by simp [lof]; omega), List.getElem?_eq_none (by simp; omega)]
  · have : ∀ (L : List (Nat × Tmp × Value)) (a : Act), a = putSel a (fun _ => false) L := by
      intro L
      induction L with
      | nil => intro a; rfl
      | cons e r ih => intro a; unfold putSel; simpa using ih a
    exact this _ _
  · intro i hi b a' w' hI hb hon hoff
    obtain ⟨hSw, rfl⟩ := hI
    have hin : i < ops.size := by have := List.mem_range.1 hi; omega
    obtain ⟨o, ho⟩ : ∃ o, ops[i]? = some o := ⟨ops[i], Array.getElem?_eq_getElem hin⟩
    obtain ⟨v, hv⟩ : ∃ v, vs[i]? = some v := ⟨vs[i]'(by omega), List.getElem?_eq_getElem (by omega)⟩
    refine ⟨o, ho, fun K hK => ?_⟩
    have hst := hstep i o v (by simpa using ho) hv
    rw [putL_sel vs a hd hl i (by omega)] at hst
    have hso := Region.noSelect_spec hsel i o
    have hsame := look_same (ops := ops) (o := o) (a := putSel a b (ents ops vs)) (a' := putSel a (fun j => decide (j < i)) (ents ops vs)) (fun cs b => hso cs b ho) (fun t ht => by
      refine putSel_congr (fun e he het => ?_) rfl rfl
      obtain ⟨oj, hoj, hdj, _⟩ := mem_ents he
      obtain ⟨k1, k2⟩ := (lookOk_dst h5 i o e.1 oj ho hoj t (by rw [hdj, het])).1 ht
      rw [hon e.1 (by rw [Bool.and_eq_true]; exact ⟨List.contains_iff_mem.2 (List.mem_range.2 (by rw [h4]; exact (Array.getElem?_eq_some_iff.1 hoj).1)), k2⟩)]
      exact (decide_eq_true k1).symm)
    have hput : ∀ w'', S w'' → K ((putSel a b (ents ops vs)).put o.dst v) w'' := by
      intro w'' hS''
      refine hK _ _ ⟨hS'', ?_⟩
      cases hdst : o.dst with
      | none =>
        refine putSel_none ?_
        rw [List.all_eq_true]
        intro e he
        obtain ⟨o', ho', hd', _⟩ := mem_ents he
        have : e.1 ≠ i := fun h => by rw [h, ho] at ho'; injection ho' with h2; rw [← h2, hdst] at hd'; cases hd'
        simp [this]
      | some t =>
        have hvd : vs.getD i undef = v := by simp [List.getD_eq_getElem?_getD, hv]
        have hme : (i, t, v) ∈ ents ops vs := List.mem_filterMap.2 ⟨i, List.mem_range.2 hin, by simp [ho, hdst, hv]⟩
        obtain ⟨L1, L2, hLL⟩ := List.append_of_mem hme
        rw [hLL]
        refine putSel_up hb ?_
        rw [List.all_eq_true]
        intro e he
        have hnd : (ents ops vs).Pairwise (fun x y => x.1 < y.1) := by
          unfold ents
          refine List.Pairwise.filterMap _ ?_ (List.pairwise_lt_range)
          intro x y hxy e1 he1 e2 he2
          obtain ⟨_, _, rfl⟩ := Option.map_eq_some_iff.1 he1
          obtain ⟨_, _, rfl⟩ := Option.map_eq_some_iff.1 he2
          exact hxy
        rw [hLL] at hnd
        have hne : e.1 ≠ i := by
          rw [List.pairwise_append] at hnd
          rcases List.mem_append.1 he with h | h
          · have := hnd.2.2 e h (i, t, v) (by simp); show e.1 ≠ i; have h2 : e.1 < i := this; omega
          · have := (List.pairwise_cons.1 hnd.2.1).1 e h; show e.1 ≠ i; have h2 : i < e.1 := this; omega
        obtain ⟨o', ho', hd', _⟩ := mem_ents (vs := vs) (e := e) (by rw [hLL]; rcases List.mem_append.1 he with h | h <;> simp [h])
        have h3 : e.2.1 ≠ t := fun h => hd i o e.1 o' ho ho' (fun x => hne x.symm) t hdst (by rw [hd', h])
        simp [hne, h3]
    rw [hsame.2]
    rcases hst with ⟨s1, s2⟩ | ⟨s1, s2⟩
    · rw [if_neg (by rw [s1]; decide), ← s2]
      exact hput w' hSw
    · rw [if_pos s1]
      unfold Oper.wp
      rcases s2 with s2 | ⟨f, args, s2⟩
      · rw [hsame.1, s2 w' hSw]
        exact hput w' hSw
      · rw [hsame.1, (s2 w' hSw).1, Oper.upon_enter]
        refine (s2 w' hSw).2.mono fun e w'' hh => ?_
        obtain ⟨rfl, hS''⟩ := hh
        exact hput w'' hS''
  · intro b a' w' hall hI
    obtain ⟨hSw, rfl⟩ := hI
    have := hq w' hSw
    have h6 : putL a ops.toList vs = putSel a b (ents ops vs) := by
      have h7 := putL_sel vs a hd hl ops.size (Nat.le_refl _)
      rw [List.take_of_length_le (by simp)] at h7
      rw [h7]
      have : ∀ (L : List (Nat × Tmp × Value)) (a : Act), (∀ e ∈ L, e.1 < ops.size ∧ b e.1 = true) → putSel a (fun j => decide (j < ops.size)) L = putSel a b L := by
        intro L
        induction L with
        | nil => intro a _; rfl
        | cons e r ih =>
          intro a hL
          unfold putSel
          have := hL e (by simp)
          rw [if_pos (by simpa using this.1), if_pos this.2]
          exact ih _ (fun x hx => hL x (by simp [hx]))
      refine this _ _ (fun e he => ?_)
      obtain ⟨oj, hoj, _, _⟩ := mem_ents he
      have hlt := (Array.getElem?_eq_some_iff.1 hoj).1
      exact ⟨hlt, hall e.1 (List.contains_iff_mem.2 (List.mem_range.2 (by omega)))⟩
    rw [h6] at this
    exact this
/-! the steps -/
variable {o : Oper} {rest : List Oper} {a a' : Act} {v : Value}
theorem gs_off (hw : Region.wanted o (yielded ops a.tmps) = false) (ha : a.put o.dst undef = a') (h : wpG P ops Q S rest a') : wpG P ops Q S (o :: rest) a := .inl ⟨hw, by rw [ha]; exact h⟩
theorem gs_val (hw : Region.wanted o (yielded ops a.tmps) = true) (hv : ∀ w, S w → (execOp a.eval o).run P w = .ok (.value v) w) (ha : a.put o.dst v = a') (h : wpG P ops Q S rest a') : wpG P ops Q S (o :: rest) a := .inr ⟨hw, v, .inl hv, by rw [ha]; exact h⟩
theorem gs_call {f : FuncId} {fn : Func} {opds : Array Operand} {ts : Array TypeId} (hf : P.funcs[f]? = some fn) (hname : (fn.name == "runtime.NumGoroutine") = false) (hb : fn.body.isSome = true) (args : Array Value)
    (hw : Region.wanted o (yielded ops a.tmps) = true) (hop : o.op = .call { callee := .value (.func f), args := opds, argTypes := ts }) (hargs : opds.map a.eval = args)
    (hc : ∀ w, S w → Calls P f args w fun e w' => e = .returned v ∧ S w') (ha : a.put o.dst v = a') (h : wpG P ops Q S rest a') : wpG P ops Q S (o :: rest) a :=
  .inr ⟨hw, v, .inr ⟨f, args, fun w hS => ⟨by
    have he := enters_ hf hname hb args w
    unfold execOp
    simp [hop, resolve, Deferred.ofValue, invoke, Act.eval, hargs, he], hc w hS⟩⟩, by rw [ha]; exact h⟩
theorem gs_end (h : ∀ w, S w → Q .normal a w) : wpG P ops Q S [] a := h
end
end Go.Proofs.Yteepckjegpnffaa.H

/-! ### IxEq -/
/- slices.Equal over whole numbers, the closure that calls it, and slices.EqualFunc over rows of whole numbers with that closure; walked by hand. -/
set_option linter.unusedVariables false
set_option linter.unusedSimpArgs false
namespace Go.Proofs.Yteepckjegpnffaa.Q
open Go.RowKit Go.Proofs.Yteepckjegpnffaa.P Go.Proofs.Yteepckjegpnffaa.H Go.Proofs.YteepckjegpnffaaW.PrintWords Go.Proofs.YteepckjegpnffaaW.PrintLast
/-- A whole number of a slice that is read. -/
theorem intCell {w : World} {A : Option Addr} {l : List Int} (h : Kd.C (Kd.int .i64) w A l.length l) (i : Nat) (hi : i < l.length) :
    ∃ ad, A = some ad ∧ w.cell? (ad.add i) = some (.int .i64 l[i]) := by
  obtain ⟨ad, c, e, hl, hK, hc⟩ := Kd.C_get h (0 : Int) (i : Int) (by omega) (by omega)
  have hK : c = [.int .i64 (l.getD (i : Int).toNat 0)] := hK
  subst hK
  refine ⟨ad, e, ?_⟩
  have := hc 0 _ rfl
  rw [Int.toNat_natCast] at this
  have e2 : l.getD i 0 = l[i] := by simp [List.getD_eq_getElem?_getD, hi]
  rw [e2] at this
  simpa [Kd.int, Kd.scalar] using this
/-- A row of a slice of rows that is read. -/
theorem rowCell {w : World} {A : Option Addr} {l : List (List Int)} (h : Kd.C (Kd.slice 2 (Kd.int .i64)) w A l.length l) (i : Nat) (hi : i < l.length) :
    ∃ ad A0 c0, A = some ad ∧ w.cell? (ad.add i) = some (.slice A0 (l[i]).length c0) ∧ (l[i]).length ≤ c0 ∧ Kd.C (Kd.int .i64) w A0 (l[i]).length l[i] := by
  obtain ⟨ad, A0, c0, e, hc, hl, hr⟩ := at_L3 h (i : Int) (by omega) (by omega)
  have e0 : rd_L3 l (i : Int) = l[i] := by simp [rd_L3, List.getD_eq_getElem?_getD, hi]
  rw [e0] at hc hl hr
  rw [Int.toNat_natCast] at hc
  exact ⟨ad, A0, c0, e, hc, hl, hr⟩
theorem eq_take {α : Type} [DecidableEq α] {p q : List α} (hl : p.length = q.length) (h : p.take p.length = q.take p.length) : p = q := by
  rw [List.take_length, hl, List.take_length] at h
  exact h
/-- The first i agree. -/
def AgRel {α : Type} (p q : List α) (w : World) (v : Value) (w' : World) : Prop := ∃ i : Nat, i ≤ p.length ∧ v = .int .i64 i ∧ p.take i = q.take i ∧ Below w.heap.size w w'
theorem AgRel.next {α : Type} {p q : List α} {w w' : World} {i : Nat} (h1 : i < p.length) (h2 : i < q.length) (ha : p.take i = q.take i) (he : p[i] = q[i]) (hb : Below w.heap.size w w') : AgRel p q w (.int .i64 (↑i + 1)) w' :=
  ⟨i + 1, by omega, rfl, by rw [List.take_succ_eq_append_getElem h1, List.take_succ_eq_append_getElem h2, ha, he], hb⟩
set_option maxHeartbeats 400000 in
theorem eqI_calls (A : Option Addr) (c : Nat) (l : List Int) (B : Option Addr) (d : Nat) (m : List Int) (w : World) (hl : Kd.C (Kd.int .i64) w A l.length l) (hm : Kd.C (Kd.int .i64) w B m.length m) (hs : l.length ≤ 1000000000) :
    Calls Try.prog 97 #[.slice A l.length c, .slice B m.length d] w fun e w' => e = .returned (.bool (decide (l = m))) ∧ Below w.heap.size w w' := by
  have HL := Lib.hid hl
  have HM := Lib.hid hm
  clear hl hm
  by_cases hlen : l.length = m.length
  · go_enter Try.func97, Try.ntmps97
    go_wp2_with fail
    go_loopw [13] (fun v w' => AgRel l m w v w') (fun v _ => l.length - (intOf v).toNat)
    case atStart => exact ⟨0, Nat.zero_le _, rfl, rfl, Below.refl _ _⟩
    case round =>
      obtain ⟨i, hi, rfl, ha, hB⟩ := hrel
      have HA := Lib.hid ha
      have B1 := Lib.hid hB
      clear ha hB
      by_cases hlt : i < l.length
      · have hlt2 : i < m.length := by omega
        obtain ⟨a1, rfl, x1⟩ := intCell (Kd.C_below HL.out B1.out) i hlt
        obtain ⟨a2, rfl, x2⟩ := intCell (Kd.C_below HM.out B1.out) i hlt2
        have hne : l[i] ≠ m[i] → decide (l = m) = false := fun h => decide_eq_false fun e => h (by simp [e])
        have HN := Lib.hid hne
        have HX := Lib.hid (fun (e : l[i] = m[i]) => AgRel.next (w' := wr.drew) hlt hlt2 HA.out e B1.out.drew)
        clear hne
        generalize l[i] = u at *
        generalize m[i] = v at *
        by_cases huv : u = v
        · have q1 : (u == v) = true := by simp [huv]
          have q2 : (u != v) = false := by simp [huv]
          go_wp2_with fail
          go_region
          all_goals
            go_wp2_with fail
            exact ⟨HX.out huv, by simp [intOf]; omega⟩
        · have q1 : (u == v) = false := by simp [huv]
          have q2 : (u != v) = true := by simp [huv]
          go_wp2_with fail
          go_region
          all_goals
            go_wp2_with fail
            go_ret
            exact ⟨by rw [HN.out huv]; rfl, B1.out.drew⟩
      · have hE : decide (l = m) = true := decide_eq_true (eq_take hlen (by have := HA.out; rwa [show i = l.length from by omega] at this))
        have HE := Lib.hid hE
        clear hE
        go_wp2_with fail
        go_ret
        exact ⟨by rw [HE.out]; rfl, B1.out⟩
  · have HE := Lib.hid (show decide (l = m) = false from decide_eq_false fun e => hlen (by rw [e]))
    go_enter Try.func97, Try.ntmps97
    go_wp2_with fail
    go_ret
    exact ⟨by rw [HE.out]; rfl, Below.refl _ _⟩
theorem eqC_calls (A : Option Addr) (c : Nat) (l : List Int) (B : Option Addr) (d : Nat) (m : List Int) (w : World) (hl : Kd.C (Kd.int .i64) w A l.length l) (hm : Kd.C (Kd.int .i64) w B m.length m) (hs : l.length ≤ 1000000000) :
    Calls Try.prog 96 #[.slice A l.length c, .slice B m.length d] w fun e w' => e = .returned (.bool (decide (l = m))) ∧ Below w.heap.size w w' := by
  go_enter Try.func96, Try.ntmps96
  go_wp2_with (go_at_call 97; (with_reducible refine (eqI_calls A c l B d m _ hl hm hs).mono ?_); rintro e w1 ⟨rfl, hb⟩)
  go_ret
  exact ⟨rfl, hb⟩
set_option maxHeartbeats 400000 in
set_option maxRecDepth 100000 in
theorem eqF_calls (A : Option Addr) (c : Nat) (l : List (List Int)) (B : Option Addr) (d : Nat) (m : List (List Int)) (w : World) (hl : Kd.C (Kd.slice 2 (Kd.int .i64)) w A l.length l) (hm : Kd.C (Kd.slice 2 (Kd.int .i64)) w B m.length m) (hs : l.length ≤ 1000000000) (hs2 : ∀ x ∈ l, x.length ≤ 1000000000) :
    Calls Try.prog 94 #[.slice A l.length c, .slice B m.length d, .func (.func 96) #[] #[]] w fun e w' => e = .returned (.bool (decide (l = m))) ∧ Below w.heap.size w w' := by
  have HL := Lib.hid hl
  have HM := Lib.hid hm
  have HS := Lib.hid hs2
  clear hl hm hs2
  by_cases hlen : l.length = m.length
  · go_enter Try.func94, Try.ntmps94
    go_wp2_with fail
    go_loopw [17] (fun v w' => AgRel l m w v w') (fun v _ => l.length - (intOf v).toNat)
    case atStart => exact ⟨0, Nat.zero_le _, rfl, rfl, Below.refl _ _⟩
    case round =>
      have HLN := Lib.hid hlen
      clear hlen
      obtain ⟨i, hi, rfl, ha, hB⟩ := hrel
      have HA := Lib.hid ha
      have B1 := Lib.hid hB
      clear ha hB
      by_cases hlt : i < l.length
      · have hlt2 : i < m.length := by have := HLN.out; omega
        obtain ⟨a1, A1, c1, rfl, x1, le1, r1⟩ := rowCell (Kd.C_below HL.out B1.out) i hlt
        obtain ⟨a2, A2, c2, rfl, x2, le2, r2⟩ := rowCell (Kd.C_below HM.out B1.out) i hlt2
        have hne : l[i] ≠ m[i] → decide (l = m) = false := fun h => decide_eq_false fun e => h (by simp [e])
        have HN := Lib.hid hne
        have HX := Lib.hid (fun (e : l[i] = m[i]) (w' : World) (hb : Below w.heap.size w w') => AgRel.next (w' := w') hlt hlt2 HA.out e hb)
        have hsi := HS.out l[i] (List.getElem_mem hlt)
        clear hne
        generalize l[i] = u at *
        generalize m[i] = v at *
        have R1 := Lib.hid r1
        have R2 := Lib.hid r2
        clear r1 r2 le1 le2
        cases hdec : decide (u = v) with
        | true =>
          have HUV := Lib.hid (of_decide_eq_true hdec)
          have HD := Lib.hid hdec
          clear hdec
          go_wp2_with (go_at_call 96; (with_reducible refine (eqC_calls A1 c1 u A2 c2 v _ R1.out R2.out hsi).mono ?_); rintro e w1 ⟨rfl, hb⟩; rw [HD.out])
          exact ⟨HX.out HUV.out _ (B1.out.trans (hb.mono B1.out.size)), by simp [intOf]; omega⟩
        | false =>
          have huv := of_decide_eq_false hdec
          have HD := Lib.hid hdec
          clear hdec
          go_wp2_with (go_at_call 96; (with_reducible refine (eqC_calls A1 c1 u A2 c2 v _ R1.out R2.out hsi).mono ?_); rintro e w1 ⟨rfl, hb⟩; rw [HD.out])
          go_ret
          exact ⟨by rw [HN.out huv]; rfl, B1.out.trans (hb.mono B1.out.size)⟩
      · have hE : decide (l = m) = true := decide_eq_true (eq_take HLN.out (by have := HA.out; rwa [show i = l.length from by omega] at this))
        have HE := Lib.hid hE
        have hlt3 : ¬ i < m.length := by have := HLN.out; omega
        clear hE
        go_wp2_with fail
        go_ret
        exact ⟨by rw [HE.out]; rfl, B1.out⟩
  · have HE := Lib.hid (show decide (l = m) = false from decide_eq_false fun e => hlen (by rw [e]))
    go_enter Try.func94, Try.ntmps94
    go_wp2_with fail
    go_ret
    exact ⟨by rw [HE.out]; rfl, Below.refl _ _⟩
end Go.Proofs.Yteepckjegpnffaa.Q

/-! ### IxValidS -/
/- spec.IsValidIndex: walked by hand. -/
set_option linter.unusedVariables false
set_option linter.unusedSimpArgs false
namespace Go.Proofs.Yteepckjegpnffaa.Q
open Go.RowKit Go.Proofs.Yteepckjegpnffaa.P Go.Proofs.Yteepckjegpnffaa.H Go.Proofs.YteepckjegpnffaaW.PrintWords Go.Proofs.YteepckjegpnffaaW.PrintLast
/-- Loop 1: the entries before i pass. -/
def VRel (l : List S94) (g1 : Nat) (cs : Array Value) (w : World) (v : Value) (w' : World) : Prop :=
  ∃ i : Nat, i ≤ l.length ∧ v = .int .i64 i ∧ (∀ j, j < i → okAt l j = true) ∧ Below w.heap.size w w' ∧ Box w' g1 cs 42
theorem okAt_at (l : List S94) (i : Nat) (h : i < l.length) : okAt l i = (okId l[i].f0 && okR l[i].f1 && (decide (i = 0) || decide ((l.getD (i - 1) z94).f0 < l[i].f0))) := by
  unfold okAt
  rw [List.getD_eq_getElem?_getD, List.getElem?_eq_getElem h]
  rfl
theorem vix_no {l : List S94} {b : List (List Int)} {i : Nat} (h : i < l.length) (hn : okAt l i = false) : vix l b = false := by
  have : (List.range l.length).all (okAt l) = false := by
    rw [List.all_eq_false]
    exact ⟨i, by simpa using h, by simp [hn]⟩
  unfold vix
  rw [this]
  simp
theorem vix_yes {l : List S94} {b : List (List Int)} (h40 : l.length ≤ 40) (hn : ∀ j, j < l.length → okAt l j = true) : vix l b = decide (b = made l) := by
  have : (List.range l.length).all (okAt l) = true := by
    rw [List.all_eq_true]
    intro j hj
    exact hn j (by simpa using hj)
  unfold vix
  rw [this, decide_eq_true h40]
  simp
set_option maxHeartbeats 1000000 in
theorem spec_vix_calls (A0 : Option Addr) (c0 : Nat) (l0 : List S94) (A1 : Option Addr) (c1 : Nat) (l1 : List (List Int)) (w : World) (hr0 : Kd.C k94 w A0 l0.length l0) (hc0 : l0.length ≤ c0) (hr1 : Kd.C kB w A1 l1.length l1) (hs : ∀ x ∈ l1, x.length ≤ 1000000000) :
    Calls Try.prog 39 #[.agg #[.slice A0 l0.length c0, .slice A1 l1.length c1]] w fun e w' => e = .returned (.bool (vix l0 l1)) ∧ Below w.heap.size w w' := by
  have HR0 := Lib.hid hr0
  have HR1 := Lib.hid hr1
  have HC0 := Lib.hid hc0
  have HS := Lib.hid hs
  clear hr0 hr1 hc0 hs
  have B := Lib.hid (Below.refl w.heap.size w)
  by_cases h40 : l0.length ≤ 40
  · by_cases h25 : l1.length = 25
    · have h25n : (decide ((l1.length : Int) = 25)) = true := by simp [h25]
      go_enter Try.func39, Try.ntmps39
      go_wp2_with fail
      go_loopw [3] (fun v w' => VRel l0 w.heap.size #[.slice A0 l0.length c0, .slice A1 25 c1] w v w') (fun v _ => l0.length - (intOf v).toNat)
      case atStart => exact ⟨0, Nat.zero_le _, rfl, fun j hj => absurd hj (Nat.not_lt_zero _), (Below.refl _ _).alloc (Nat.le_refl _) _, Box.new _ _ _⟩
      case round =>
        obtain ⟨i, hi, rfl, hall, hB, hX⟩ := hrel
        have HA := Lib.hid hall
        have B := Lib.hid hB
        have X := Lib.hid hX
        clear hall hB hX
        have x0 := X.out.cell 0 _ rfl
        have x1 := X.out.cell 1 _ rfl
        obtain ⟨wo, rfl⟩ : ∃ wo : World, wo = wr := ⟨_, rfl⟩
        by_cases hlt : i < l0.length
        · obtain ⟨ad, rfl, e0, e1, e2, e3, e4⟩ := entCells (Kd.C_below HR0.out B.out) i hlt
          have hok := okAt_at l0 i hlt
          have HPR := Lib.hid hok
          generalize l0[i] = en at *
          clear hok
          have hx4 := Box.new wo #[.int .i64 en.f0, .int .i64 en.f1.f0, .int .i64 en.f1.f1, .int .i64 en.f1.f2, .int .i64 en.f1.f3] 94
          have hb4 : Below wo.heap.size wo (wo.alloc (.cells #[.int .i64 en.f0, .int .i64 en.f1.f0, .int .i64 en.f1.f1, .int .i64 en.f1.f2, .int .i64 en.f1.f3] 94)) := (Below.refl _ _).alloc (Nat.le_refl _) _
          have X4 := Lib.hid hx4
          have B4 := Lib.hid hb4
          clear hx4 hb4
          go_wp2_with fail
          generalize hW4 : wo.alloc (.cells #[.int .i64 en.f0, .int .i64 en.f1.f0, .int .i64 en.f1.f1, .int .i64 en.f1.f2, .int .i64 en.f1.f3] 94) = W4 at *
          have f0 := X4.out.cell 0 _ rfl
          have f1 := X4.out.cell 1 _ rfl
          have f2 := X4.out.cell 2 _ rfl
          have f3 := X4.out.cell 3 _ rfl
          have f4 := X4.out.cell 4 _ rfl
          cases ho1 : okId en.f0 with
          | false =>
            have H1 := Lib.hid ((spec_okId en.f0).trans (congrArg some ho1))
            have HN := Lib.hid (vix_no (b := l1) hlt (by rw [HPR.out, ho1]; rfl))
            clear ho1
            refine region_seq (fun w' => Below W4.heap.size W4 w') rfl (by kernel_rfl) ((Below.refl _ _).drew) ?_
            repeat (first
              | (refine gs_off (a' := ?_) (by rfl) ?_ ?_; rotate_left 1; (simp only [Act.put, List.setIfInBounds_toArray, List.set_cons_zero, List.set_cons_succ]; rfl))
              | (refine gs_call (v := .bool false) (a' := ?_) Try.func88 (by kernel_rfl) rfl #[.int .i64 en.f0, .int .i64 1, .int .i64 9999] (by rfl) (by rfl) (by simp only [List.map_toArray, List.map_cons, List.map_nil]; rfl) (fun w' hw' => (spec_l09In.calls _ _ _ _ w' H1.out).mono (fun e w'' h => ⟨h.1, hw'.trans ((h.2.below).mono hw'.size)⟩)) ?_ ?_; rotate_left 1; (simp only [Act.put, List.setIfInBounds_toArray, List.set_cons_zero, List.set_cons_succ]; rfl))
              | (refine gs_val (v := ?_) (a' := ?_) (by rfl) ?_ ?_ ?_; rotate_left 2; (intro w' hw'; (have k_0 := cell_on hw' f0); first | (go_simp; done) | (go_simp; with_reducible rfl)); (simp only [Act.put, List.setIfInBounds_toArray, List.set_cons_zero, List.set_cons_succ]; rfl)))
            refine gs_end (fun w1 hB1 => ?_)
            go_wp2_with fail
            go_ret
            exact ⟨by rw [HN.out]; rfl, B.out.trans ((B4.out.trans (hB1.mono B4.out.size)).mono B.out.size)⟩
          | true =>
            have H1 := Lib.hid ((spec_okId en.f0).trans (congrArg some ho1))
            cases ho2 : okR en.f1 with
            | false =>
              have H2 := Lib.hid ((spec_okR en.f1).trans (congrArg some ho2))
              have HN := Lib.hid (vix_no (b := l1) hlt (by rw [HPR.out, ho1, ho2]; rfl))
              clear ho1 ho2
              refine region_seq (fun w' => Below W4.heap.size W4 w') rfl (by kernel_rfl) ((Below.refl _ _).drew) ?_
              repeat (first
                | (refine gs_off (a' := ?_) (by rfl) ?_ ?_; rotate_left 1; (simp only [Act.put, List.setIfInBounds_toArray, List.set_cons_zero, List.set_cons_succ]; rfl))
                | (refine gs_call (v := .bool true) (a' := ?_) Try.func88 (by kernel_rfl) rfl #[.int .i64 en.f0, .int .i64 1, .int .i64 9999] (by rfl) (by rfl) (by simp only [List.map_toArray, List.map_cons, List.map_nil]; rfl) (fun w' hw' => (spec_l09In.calls _ _ _ _ w' H1.out).mono (fun e w'' h => ⟨h.1, hw'.trans ((h.2.below).mono hw'.size)⟩)) ?_ ?_; rotate_left 1; (simp only [Act.put, List.setIfInBounds_toArray, List.set_cons_zero, List.set_cons_succ]; rfl))
                | (refine gs_call (v := .bool false) (a' := ?_) Try.func89 (by kernel_rfl) rfl #[.agg #[.int .i64 en.f1.f0, .int .i64 en.f1.f1, .int .i64 en.f1.f2, .int .i64 en.f1.f3]] (by rfl) (by rfl) (by simp only [List.map_toArray, List.map_cons, List.map_nil]; rfl) (fun w' hw' => (spec_l09Rect.calls _ _ _ _ _ w' H2.out).mono (fun e w'' h => ⟨h.1, hw'.trans ((h.2).mono hw'.size)⟩)) ?_ ?_; rotate_left 1; (simp only [Act.put, List.setIfInBounds_toArray, List.set_cons_zero, List.set_cons_succ]; rfl))
                | (refine gs_val (v := ?_) (a' := ?_) (by rfl) ?_ ?_ ?_; rotate_left 2; (intro w' hw'; (have k_0 := cell_on hw' f0); (have k_1 := cell_on hw' f1); (have k_2 := cell_on hw' f2); (have k_3 := cell_on hw' f3); (have k_4 := cell_on hw' f4); first | (go_simp; done) | (go_simp; with_reducible rfl)); (simp only [Act.put, List.setIfInBounds_toArray, List.set_cons_zero, List.set_cons_succ]; rfl)))
              refine gs_end (fun w1 hB1 => ?_)
              go_wp2_with fail
              go_ret
              exact ⟨by rw [HN.out]; rfl, B.out.trans ((B4.out.trans (hB1.mono B4.out.size)).mono B.out.size)⟩
            | true =>
              have H2 := Lib.hid ((spec_okR en.f1).trans (congrArg some ho2))
              by_cases hi0 : i = 0
              · subst hi0
                have HN := Lib.hid (show okAt l0 0 = true by rw [HPR.out, ho1, ho2]; rfl)
                clear ho1 ho2
                refine region_seq (fun w' => Below W4.heap.size W4 w') rfl (by kernel_rfl) ((Below.refl _ _).drew) ?_
                repeat (first
                  | (refine gs_off (a' := ?_) (by rfl) ?_ ?_; rotate_left 1; (simp only [Act.put, List.setIfInBounds_toArray, List.set_cons_zero, List.set_cons_succ]; rfl))
                  | (refine gs_call (v := .bool true) (a' := ?_) Try.func88 (by kernel_rfl) rfl #[.int .i64 en.f0, .int .i64 1, .int .i64 9999] (by rfl) (by rfl) (by simp only [List.map_toArray, List.map_cons, List.map_nil]; rfl) (fun w' hw' => (spec_l09In.calls _ _ _ _ w' H1.out).mono (fun e w'' h => ⟨h.1, hw'.trans ((h.2.below).mono hw'.size)⟩)) ?_ ?_; rotate_left 1; (simp only [Act.put, List.setIfInBounds_toArray, List.set_cons_zero, List.set_cons_succ]; rfl))
                  | (refine gs_call (v := .bool true) (a' := ?_) Try.func89 (by kernel_rfl) rfl #[.agg #[.int .i64 en.f1.f0, .int .i64 en.f1.f1, .int .i64 en.f1.f2, .int .i64 en.f1.f3]] (by rfl) (by rfl) (by simp only [List.map_toArray, List.map_cons, List.map_nil]; rfl) (fun w' hw' => (spec_l09Rect.calls _ _ _ _ _ w' H2.out).mono (fun e w'' h => ⟨h.1, hw'.trans ((h.2).mono hw'.size)⟩)) ?_ ?_; rotate_left 1; (simp only [Act.put, List.setIfInBounds_toArray, List.set_cons_zero, List.set_cons_succ]; rfl))
                  | (refine gs_val (v := ?_) (a' := ?_) (by rfl) ?_ ?_ ?_; rotate_left 2; (intro w' hw'; (have k_0 := cell_on hw' f0); (have k_1 := cell_on hw' f1); (have k_2 := cell_on hw' f2); (have k_3 := cell_on hw' f3); (have k_4 := cell_on hw' f4); first | (go_simp; done) | (go_simp; with_reducible rfl)); (simp only [Act.put, List.setIfInBounds_toArray, List.set_cons_zero, List.set_cons_succ]; rfl)))
                refine gs_end (fun w1 hB1 => ?_)
                go_wp2_with fail
                refine ⟨⟨1, by omega, by go_num, fun j hj => ?_, B.out.trans ((B4.out.trans (hB1.mono B4.out.size)).mono B.out.size), (X.out.below B4.out).below hB1⟩, by simp [intOf]; omega⟩
                have hj0 : j = 0 := by omega
                subst hj0
                exact HN.out
              · obtain ⟨ad2, ead, p0, _⟩ := entCells (Kd.C_below HR0.out B.out) (i - 1) (by omega)
                injection ead with ead
                subst ead
                have p0 := cell_on B4.out p0
                have hprev : (l0.getD (i - 1) z94).f0 = (l0[i - 1]'(by omega)).f0 := by
                  rw [List.getD_eq_getElem?_getD, List.getElem?_eq_getElem (by omega)]; rfl
                rw [← hprev] at p0
                clear hprev
                generalize (l0.getD (i - 1) z94).f0 = pv at *
                have hpos : 0 < i := by omega
                have hw1 : IntKind.i64.wrap (↑i - 1) = (↑i : Int) - 1 := IntWalk.i64_in _ (by omega)
                have hw2 : (1 : Int) ≤ ↑i := by omega
                have hw3 : (↑i : Int) - 1 < ↑l0.length := by omega
                have hw4 : ((↑i : Int) - 1).toNat = i - 1 := by omega
                by_cases hlt2 : pv < en.f0
                · have HN := Lib.hid (show okAt l0 i = true by rw [HPR.out, ho1, ho2]; simp [hlt2])
                  have hq : decide (en.f0 ≤ pv) = false := decide_eq_false (by omega)
                  clear ho1 ho2 hlt2
                  refine region_seq (fun w' => Below W4.heap.size W4 w') rfl (by kernel_rfl) ((Below.refl _ _).drew) ?_
                  repeat (first
                    | (refine gs_off (a' := ?_) (by rfl) ?_ ?_; rotate_left 1; (simp only [Act.put, List.setIfInBounds_toArray, List.set_cons_zero, List.set_cons_succ]; rfl))
                    | (refine gs_call (v := .bool true) (a' := ?_) Try.func88 (by kernel_rfl) rfl #[.int .i64 en.f0, .int .i64 1, .int .i64 9999] (by rfl) (by rfl) (by simp only [List.map_toArray, List.map_cons, List.map_nil]; rfl) (fun w' hw' => (spec_l09In.calls _ _ _ _ w' H1.out).mono (fun e w'' h => ⟨h.1, hw'.trans ((h.2.below).mono hw'.size)⟩)) ?_ ?_; rotate_left 1; (simp only [Act.put, List.setIfInBounds_toArray, List.set_cons_zero, List.set_cons_succ]; rfl))
                    | (refine gs_call (v := .bool true) (a' := ?_) Try.func89 (by kernel_rfl) rfl #[.agg #[.int .i64 en.f1.f0, .int .i64 en.f1.f1, .int .i64 en.f1.f2, .int .i64 en.f1.f3]] (by rfl) (by rfl) (by simp only [List.map_toArray, List.map_cons, List.map_nil]; rfl) (fun w' hw' => (spec_l09Rect.calls _ _ _ _ _ w' H2.out).mono (fun e w'' h => ⟨h.1, hw'.trans ((h.2).mono hw'.size)⟩)) ?_ ?_; rotate_left 1; (simp only [Act.put, List.setIfInBounds_toArray, List.set_cons_zero, List.set_cons_succ]; rfl))
                    | (refine gs_val (v := ?_) (a' := ?_) (by rfl) ?_ ?_ ?_; rotate_left 2; (intro w' hw'; (have k_0 := cell_on hw' f0); (have k_1 := cell_on hw' f1); (have k_2 := cell_on hw' f2); (have k_3 := cell_on hw' f3); (have k_4 := cell_on hw' f4); (have k_5 := cell_on hw' p0); (have k_6 := cell_on hw' (cell_on B4.out x0)); first | (go_simp; done) | (go_simp; with_reducible rfl)); (simp only [Act.put, List.setIfInBounds_toArray, List.set_cons_zero, List.set_cons_succ]; rfl)))
                  refine gs_end (fun w1 hB1 => ?_)
                  clear hq hw1 hw2 hw3 hw4
                  go_wp2_with fail
                  refine ⟨⟨i + 1, by omega, by go_num, fun j hj => ?_, B.out.trans ((B4.out.trans (hB1.mono B4.out.size)).mono B.out.size), (X.out.below B4.out).below hB1⟩, by simp [intOf]; omega⟩
                  rcases Nat.lt_or_ge j i with hji | hji
                  · exact HA.out j hji
                  · have hj0 : j = i := by omega
                    subst hj0
                    exact HN.out
                · have HN := Lib.hid (vix_no (b := l1) hlt (show okAt l0 i = false by rw [HPR.out, ho1, ho2]; simp [hlt2, hi0]))
                  have hq : decide (en.f0 ≤ pv) = true := decide_eq_true (by omega)
                  clear ho1 ho2 hlt2
                  refine region_seq (fun w' => Below W4.heap.size W4 w') rfl (by kernel_rfl) ((Below.refl _ _).drew) ?_
                  repeat (first
                    | (refine gs_off (a' := ?_) (by rfl) ?_ ?_; rotate_left 1; (simp only [Act.put, List.setIfInBounds_toArray, List.set_cons_zero, List.set_cons_succ]; rfl))
                    | (refine gs_call (v := .bool true) (a' := ?_) Try.func88 (by kernel_rfl) rfl #[.int .i64 en.f0, .int .i64 1, .int .i64 9999] (by rfl) (by rfl) (by simp only [List.map_toArray, List.map_cons, List.map_nil]; rfl) (fun w' hw' => (spec_l09In.calls _ _ _ _ w' H1.out).mono (fun e w'' h => ⟨h.1, hw'.trans ((h.2.below).mono hw'.size)⟩)) ?_ ?_; rotate_left 1; (simp only [Act.put, List.setIfInBounds_toArray, List.set_cons_zero, List.set_cons_succ]; rfl))
                    | (refine gs_call (v := .bool true) (a' := ?_) Try.func89 (by kernel_rfl) rfl #[.agg #[.int .i64 en.f1.f0, .int .i64 en.f1.f1, .int .i64 en.f1.f2, .int .i64 en.f1.f3]] (by rfl) (by rfl) (by simp only [List.map_toArray, List.map_cons, List.map_nil]; rfl) (fun w' hw' => (spec_l09Rect.calls _ _ _ _ _ w' H2.out).mono (fun e w'' h => ⟨h.1, hw'.trans ((h.2).mono hw'.size)⟩)) ?_ ?_; rotate_left 1; (simp only [Act.put, List.setIfInBounds_toArray, List.set_cons_zero, List.set_cons_succ]; rfl))
                    | (refine gs_val (v := ?_) (a' := ?_) (by rfl) ?_ ?_ ?_; rotate_left 2; (intro w' hw'; (have k_0 := cell_on hw' f0); (have k_1 := cell_on hw' f1); (have k_2 := cell_on hw' f2); (have k_3 := cell_on hw' f3); (have k_4 := cell_on hw' f4); (have k_5 := cell_on hw' p0); (have k_6 := cell_on hw' (cell_on B4.out x0)); first | (go_simp; done) | (go_simp; with_reducible rfl)); (simp only [Act.put, List.setIfInBounds_toArray, List.set_cons_zero, List.set_cons_succ]; rfl)))
                  refine gs_end (fun w1 hB1 => ?_)
                  clear hq hw1 hw2 hw3 hw4
                  go_wp2_with fail
                  go_ret
                  exact ⟨by rw [HN.out]; rfl, B.out.trans ((B4.out.trans (hB1.mono B4.out.size)).mono B.out.size)⟩
        · have hie : i = l0.length := by omega
          subst hie
          have HV := Lib.hid (vix_yes (b := l1) h40 (fun j hj => HA.out j hj))
          clear hlt
          go_wp2_with (go_at_call 69; (with_reducible refine (made_calls A0 c0 l0 _ (Kd.C_below HR0.out B.out) HC0.out (by omega)).mono ?_); rintro e w1 ⟨vB, rfl, hS, hb⟩; obtain ⟨Ab, cb, ev⟩ := Kd.S_slice hS; subst ev; have S1 := Lib.hid (Kd.S_reads' hS); replace X := Lib.hid (X.out.below hb); replace B := Lib.hid (B.out.trans (hb.mono B.out.size)); clear hS hb x0 x1)
          obtain ⟨w2, ew2⟩ : ∃ w2, w2 = w1.alloc (.cells #[.slice A0 l0.length c0, .slice Ab (made l0).length cb] 42) := ⟨_, rfl⟩
          have X5 := Lib.hid (show Box w2 w1.heap.size _ _ from ew2 ▸ Box.new w1 #[.slice A0 l0.length c0, .slice Ab (made l0).length cb] 42)
          have hb2 : Below w1.heap.size w1 w2 := ew2 ▸ (Below.refl _ _).alloc (Nat.le_refl _) _
          have S2 := Lib.hid (Kd.C_below S1.out.2.2 hb2)
          replace X := Lib.hid (X.out.below hb2)
          replace B := Lib.hid (B.out.trans (hb2.mono B.out.size))
          rw [← ew2]
          clear hb2 ew2
          go_loopw [6] (fun v w' => ∃ k : Nat, k ≤ 25 ∧ v = .int .i64 k ∧ l1.take k = (made l0).take k ∧ Below w2.heap.size w2 w') (fun v _ => 25 - (intOf v).toNat)
          case atStart => exact ⟨0, by omega, rfl, rfl, Below.refl _ _⟩
          case round =>
            obtain ⟨k, hk, rfl, ha, hb2⟩ := hrel
            have HA2 := Lib.hid ha
            have B2 := Lib.hid hb2
            have H25 := Lib.hid h25
            clear ha hb2 h25 h25n
            obtain ⟨wo, rfl⟩ : ∃ wo : World, wo = wr := ⟨_, rfl⟩
            have x1 := (X.out.below B2.out).cell 1 _ rfl
            have y1 := (X5.out.below B2.out).cell 1 _ rfl
            by_cases hlt : k < 25
            · obtain ⟨a1, A1r, c1r, rfl, z1, le1, r1⟩ := rowCell (Kd.C_below (Kd.C_below HR1.out B.out) B2.out) k (by rw [H25.out]; exact hlt)
              obtain ⟨a2, A2r, c2r, rfl, z2, le2, r2⟩ := rowCell (Kd.C_below S2.out B2.out) k (by rw [made_len]; exact hlt)
              have hsz := HS.out _ (List.getElem_mem (h := (by rw [H25.out]; exact hlt : k < l1.length)))
              have HAG := Lib.hid (fun (e : l1[k]'(by rw [H25.out]; exact hlt) = (made l0)[k]'(by rw [made_len]; exact hlt)) => show l1.take (k + 1) = (made l0).take (k + 1) by rw [List.take_succ_eq_append_getElem (by rw [H25.out]; exact hlt), List.take_succ_eq_append_getElem (by rw [made_len]; exact hlt), HA2.out, e])
              have HNE := Lib.hid (fun (e : l1[k]'(by rw [H25.out]; exact hlt) ≠ (made l0)[k]'(by rw [made_len]; exact hlt)) => show vix l0 l1 = false by rw [HV.out, decide_eq_false]; intro h; exact e (by simp [h]))
              obtain ⟨kk, hf⟩ := same_f (l1[k]'(by rw [H25.out]; exact hlt)) ((made l0)[k]'(by rw [made_len]; exact hlt)) hsz
              generalize l1[k]'(by rw [H25.out]; exact hlt) = p at *
              generalize (made l0)[k]'(by rw [made_len]; exact hlt) = q at *
              have R1 := Lib.hid r1
              have R2 := Lib.hid r2
              have LE1 := Lib.hid le1
              have LE2 := Lib.hid le2
              have hm25 : (k : Int) < ↑(made l0).length := by rw [made_len]; omega
              have h25k : (k : Int) < ↑l1.length := by rw [H25.out]; omega
              clear r1 r2 le1 le2 hsz
              cases hd : decide (p = q) with
              | true =>
                have HF := Lib.hid (hf.trans (congrArg some hd))
                have HPQ := Lib.hid (of_decide_eq_true hd)
                clear hf hd
                go_wp2_with fail
                refine region_seq (fun w' => Below wo.heap.size wo w') rfl (by kernel_rfl) ((Below.refl _ _).drew) ?_
                repeat (first
                  | (refine gs_off (a' := ?_) (by rfl) ?_ ?_; rotate_left 1; (simp only [Act.put, List.setIfInBounds_toArray, List.set_cons_zero, List.set_cons_succ]; rfl))
                  | (refine gs_call (v := .bool true) (a' := ?_) Try.func90 (by kernel_rfl) rfl #[.slice A1r p.length c1r, .slice A2r q.length c2r] (by rfl) (by rfl) (by simp only [List.map_toArray, List.map_cons, List.map_nil]; rfl) (fun w' hw' => (spec_l11SameInts.calls _ _ _ _ _ _ _ _ w' (Kd.C_below R1.out hw') LE1.out (Kd.C_below R2.out hw') LE2.out HF.out).mono (fun e w'' h => ⟨h.1, hw'.trans ((h.2.below).mono hw'.size)⟩)) ?_ ?_; rotate_left 1; (simp only [Act.put, List.setIfInBounds_toArray, List.set_cons_zero, List.set_cons_succ]; rfl))
                  | (refine gs_val (v := ?_) (a' := ?_) (by rfl) ?_ ?_ ?_; rotate_left 2; (intro w' hw'; (have k_0 := cell_on hw' x1); (have k_1 := cell_on hw' y1); (have k_2 := cell_on hw' z1); (have k_3 := cell_on hw' z2); first | (go_simp; done) | (go_simp; with_reducible rfl)); (simp only [Act.put, List.setIfInBounds_toArray, List.set_cons_zero, List.set_cons_succ]; rfl)))
                refine gs_end (fun w3 hB3 => ?_)
                clear hm25 h25k
                go_wp2_with fail
                exact ⟨⟨k + 1, by omega, by go_num, HAG.out HPQ.out, B2.out.trans (hB3.mono B2.out.size)⟩, by simp [intOf]; omega⟩
              | false =>
                have HF := Lib.hid (hf.trans (congrArg some hd))
                have HPQ := Lib.hid (of_decide_eq_false hd)
                clear hf hd
                go_wp2_with fail
                refine region_seq (fun w' => Below wo.heap.size wo w') rfl (by kernel_rfl) ((Below.refl _ _).drew) ?_
                repeat (first
                  | (refine gs_off (a' := ?_) (by rfl) ?_ ?_; rotate_left 1; (simp only [Act.put, List.setIfInBounds_toArray, List.set_cons_zero, List.set_cons_succ]; rfl))
                  | (refine gs_call (v := .bool false) (a' := ?_) Try.func90 (by kernel_rfl) rfl #[.slice A1r p.length c1r, .slice A2r q.length c2r] (by rfl) (by rfl) (by simp only [List.map_toArray, List.map_cons, List.map_nil]; rfl) (fun w' hw' => (spec_l11SameInts.calls _ _ _ _ _ _ _ _ w' (Kd.C_below R1.out hw') LE1.out (Kd.C_below R2.out hw') LE2.out HF.out).mono (fun e w'' h => ⟨h.1, hw'.trans ((h.2.below).mono hw'.size)⟩)) ?_ ?_; rotate_left 1; (simp only [Act.put, List.setIfInBounds_toArray, List.set_cons_zero, List.set_cons_succ]; rfl))
                  | (refine gs_val (v := ?_) (a' := ?_) (by rfl) ?_ ?_ ?_; rotate_left 2; (intro w' hw'; (have k_0 := cell_on hw' x1); (have k_1 := cell_on hw' y1); (have k_2 := cell_on hw' z1); (have k_3 := cell_on hw' z2); first | (go_simp; done) | (go_simp; with_reducible rfl)); (simp only [Act.put, List.setIfInBounds_toArray, List.set_cons_zero, List.set_cons_succ]; rfl)))
                refine gs_end (fun w3 hB3 => ?_)
                clear hm25 h25k
                go_wp2_with fail
                go_ret
                exact ⟨by rw [HNE.out HPQ.out]; rfl, B.out.trans ((B2.out.trans (hB3.mono B2.out.size)).mono B.out.size)⟩
            · have hke : k = 25 := by omega
              subst hke
              have HE := Lib.hid (show vix l0 l1 = true by
                rw [HV.out, decide_eq_true_eq]
                have := HA2.out
                rw [List.take_of_length_le (by rw [H25.out]; exact Nat.le_refl _), List.take_of_length_le (by rw [made_len]; exact Nat.le_refl _)] at this
                exact this)
              clear hlt
              go_wp2_with fail
              go_ret
              exact ⟨by rw [HE.out]; rfl, B.out.trans (B2.out.mono B.out.size)⟩
    · have HE := Lib.hid (show vix l0 l1 = false by
        unfold vix
        rw [show decide (l1 = made l0) = false from decide_eq_false (fun h => h25 (by rw [h, made_len]))]
        simp)
      have hne : ((l1.length : Int) != 25) = true := by rw [bne_iff_ne]; omega
      go_enter Try.func39, Try.ntmps39
      go_wp2_with fail
      go_ret
      exact ⟨by rw [HE.out]; rfl, (Below.refl _ _).alloc (Nat.le_refl _) _⟩
  · have HE := Lib.hid (show vix l0 l1 = false by
      unfold vix
      rw [decide_eq_false h40]
      rfl)
    go_enter Try.func39, Try.ntmps39
    go_wp2_with fail
    go_ret
    exact ⟨by rw [HE.out]; rfl, (Below.refl _ _).alloc (Nat.le_refl _) _⟩
end Go.Proofs.Yteepckjegpnffaa.Q

/-! ### Px27 -/
namespace Go.Proofs.Yteepckjegpnffaa.P
open Go.RowKit Go.Proofs.YteepckjegpnffaaW.PrintWords Go.Proofs.YteepckjegpnffaaW.PrintLast Go.Proofs.YteepckjegpnffaaW.PrintMore
attribute [local go_sem] max2_int min2_int max_two min_two max_three min_three max_four min_four   -- for this text's walks alone
set_option linter.unusedVariables false
set_option linter.unusedSimpArgs false

/-! ### impl_EmptyIndex: function 22 -/
def impl_EmptyIndex.f  : Option ((List (S94)) × (List (List Int))) := if 25 ≤ 11728124029610 then (some (([] : List (S94)), (List.replicate 25 []))) else (none)
set_option maxHeartbeats 8000000 in
set_option maxRecDepth 100000 in
theorem impl_EmptyIndex.calls  (r1 : List (S94)) (r2 : List (List Int)) (w : World) (h : impl_EmptyIndex.f  = some (r1, r2)) :
    Calls Try.prog 22 #[] w fun e w' => ∃ v0_ v1_ : Value, e = .returned (.agg #[v0_, v1_]) ∧ Kd.R k94 94 w' w.heap.size (fun _ => True) v0_ r1 ∧ Kd.S (Kd.slice 2 (Kd.int .i64)) 62 w' w.heap.size (fun _ => True) v1_ r2 ∧ Below w.heap.size w w' := by
  have hu42 := Try.underlying42
  have HB := Aside0.mk (Below.refl w.heap.size w)
  have H : (if 25 ≤ 11728124029610 then (some (([] : List (S94)), (List.replicate 25 []))) else (none)) = some (r1, r2) := h
  clear h
  by_cases c1 : 25 ≤ 11728124029610
  · rw [if_pos c1] at H
    have c1b0 := eq_true c1
    have c1b1 : decide (25 ≤ 11728124029610) = true := decide_eq_true c1
    clear c1
    obtain ⟨y191, hy191⟩ : ∃ y_ : List (List Int), y_ = (List.replicate 25 []) := ⟨_, rfl⟩
    replace H : (some (([] : List (S94)), y191)) = some (r1, r2) := by first | (rw [hy191]; with_reducible exact H) | (have H2_ := (Option.bind_some _ _).symm.trans H; rw [hy191]; with_reducible exact H2_) | (have H2_ := (Option.bind_some _ _).symm.trans H; with_reducible exact H2_) | with_reducible exact H | (rw [hy191]; exact H) | exact H
    have Ny191 := Aside0.mk hy191
    clear hy191
    simp only [Option.some.injEq, Prod.mk.injEq] at H
    obtain ⟨rfl, rfl⟩ := H
    go_enter Try.func22, Try.ntmps22
    go_wp2_with (first | ((with_reducible refine gate_dst (N := 0) rfl ?_); refine box_event ?hg (N := 0) ?hd (cs := #[.slice none 0 0, .slice none 0 0]) (t := 42) ?hr ?_; (case hd => rfl); (case hg => rfl); (case hr => first | (go_simp; done) | (go_simp; rfl)); intro gb190 hg w2 hbox hb; have n0_ := Aside0.mk (below_step (by repeat (first | (with_reducible first | exact HB.out | apply below_alloc | apply pw_below_drewN | apply below_drew1) | exact HB.out)) hb); have n1_ := Aside0.mk (hbox); have n2_ := Aside0.mk ((by rw [hg]; exact (below_size (by repeat (first | (with_reducible first | exact HB.out | apply below_alloc | apply pw_below_drewN | apply below_drew1) | exact HB.out))) : w.heap.size ≤ gb190)); have n3_ := Aside0.mk ((by rw [hg]; exact (below_size (by repeat (first | (with_reducible first | exact HB.out | apply below_alloc | apply pw_below_drewN | apply below_drew1) | exact HB.out))) : w.heap.size ≤ gb190)); clear HB; have HB := n0_; have BK190 := n1_; have GW190 := n2_; have GE190 := n3_; clear n0_ n1_ n2_ n3_; clear hb hbox hg) | ((with_reducible refine gate_dst (N := 1) rfl ?_); refine Kd.S_make (Kd.slice 2 (Kd.int .i64)) _ 62 rfl (N := 1) rfl 40 _ _ rfl 25 rfl rfl Try.underlying40 (.slice none 0 0) 24 info62 rfl (by decide) (by omega) [] (ok := fun _ => True) (okp := fun _ => True) ⟨_, rfl, Kd.R_nil _ _ _ _ _⟩ (fun _ hk => hk) trivial (by omega) (by omega) (Below.refl _ _) (Nat.le_refl _) ?_; intro v192 w3 ho4 hb hg_ hnew_; clear hg_ hnew_; (first | rw [← Ny191.out] at ho4 | (simp only [Int.reduceToNat] at ho4; rw [← Ny191.out] at ho4)); have n0_ := Aside0.mk (Kd.S_lower ho4 (below_size (by repeat (first | (with_reducible first | exact HB.out | apply below_alloc | apply pw_below_drewN | apply below_drew1 | refine below_set ?_ GE190.out) | exact HB.out)))); have n1_ := Aside0.mk (blk_below (g := gb190) (o := .cells #[.slice none 0 0, .slice none 0 0] 42 (0, 0)) (by (with_reducible repeat (first | refine blk_drewN ?_ _ | refine blk_drew ?_ | refine blk_alloc ?_ _)); exact BK190.out) hb); have n2_ := Aside0.mk (below_step (by repeat (first | (with_reducible first | exact HB.out | apply below_alloc | apply pw_below_drewN | apply below_drew1 | refine below_set ?_ GE190.out) | exact HB.out)) hb); clear BK190; clear HB; have HO193 := n0_; have BK190 := n1_; have HB := n2_; clear n0_ n1_ n2_; clear hb ho4; obtain ⟨Ao5, co5, eo5⟩ := Kd.S_slice HO193.out; subst eo5; have hcz6_0 : w3.cell? ⟨gb190, 0, none⟩ = some (.slice none 0 0) := (blk_cell BK190.out 0).trans rfl; have hcz6_1 : w3.cell? ⟨gb190, 1, none⟩ = some (.slice none 0 0) := (blk_cell BK190.out 1).trans rfl; have hfz6_0 := blk_frozen BK190.out 0; have hfz6_1 := blk_frozen BK190.out 1))
    refine bodyPost_ret (results_cell_row rfl _ _ gb190 42 #[.slice none 0 0, .slice Ao5 y191.length co5] (0, 0) _ rfl (by (with_reducible repeat (first | refine blk_drewN ?_ _ | refine blk_drew ?_ | refine blk_alloc ?_ _)); refine blk_put (cs := #[.slice none 0 0, .slice none 0 0]) ?_ 1 _ rfl; (with_reducible repeat (first | refine blk_drewN ?_ _ | refine blk_drew ?_ | refine blk_alloc ?_ _)); refine blk_put (cs := #[.slice none 0 0, .slice none 0 0]) ?_ 0 _ rfl; (with_reducible repeat (first | refine blk_drewN ?_ _ | refine blk_drew ?_ | refine blk_alloc ?_ _)); exact BK190.out) Try.underlying42 rfl (by kernel_rfl)) rfl ?_
    exact ⟨_, _, by first | rfl | (simp [errW_none, errW_some] <;> rfl) | (simp [*, errW_none, errW_some] <;> rfl), by first | exact Kd.R_nil _ _ _ _ _ | exact Kd.N_nil _ _ _ _ _ | exact Kd.V_nil _ _ _ _ _ | exact Kd.Q_nil _ _ _ _ _ | exact Kd.S_nil _ _ _ _ _, by (with_reducible repeat (first | apply Kd.S_alloc | apply Kd.S_drewN | apply Kd.S_drew)); exact Kd.S_mono (Kd.S_far (p := ⟨gb190, 1, none⟩) (Kd.S_far (p := ⟨gb190, 0, none⟩) (Kd.S_types HO193.out BK190.out (by decide)) (fun _ hk => hk.2) (.slice none 0 0)) (fun _ hk => hk.2) (.slice Ao5 y191.length co5)) (fun _ hk => trivial), by repeat (first | (with_reducible first | exact HB.out | apply below_alloc | apply pw_below_drewN | apply below_drew1 | refine below_set ?_ GE190.out) | exact HB.out)⟩
  · rw [if_neg c1] at H
    exact absurd H (by simp)

end Go.Proofs.Yteepckjegpnffaa.P
