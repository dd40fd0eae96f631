/- Walks and plain lemmas for the law FnExactIsLayout, part b. -/
import Derived.Test.YtncjjplpenjghaaMFnExactIsLayouta
import Derived.Test.YtncjjplpenjghaaWWords
import Derived.Test.YtncjjplpenjghaaWMore
import Derived.Laws.Tables
import Derived.Lib.Hide
import Derived.Test.YtncjjplpenjghaaProg
import Derived.Laws.StructEq
import Derived.Deep.MidRow
import Derived.Test.YtncjjplpenjghaaWInv
import Derived.Test.YtncjjplpenjghaaWInvWords
import Derived.Test.YtncjjplpenjghaaWLast
import Derived.BigRegion
import Derived.Deep.RegionHeld3
/-! ### Px19 -/
namespace Go.Proofs.Ytncjjplpenjghaa.P
open Go.RowKit Go.Proofs.YtncjjplpenjghaaW.PrintWords Go.Proofs.YtncjjplpenjghaaW.PrintLast Go.Proofs.YtncjjplpenjghaaW.PrintMore
attribute [local go_sem] max2_int min2_int max_two min_two max_three min_three max_four min_four   -- for this text's walks alone
set_option linter.unusedVariables false
set_option linter.unusedSimpArgs false

/-! ### laws_toRectS: function 31 -/
def laws_toRectS.l0 : Nat → List (S81) → List (S75) → Int → Option ((List (S75)))
  | 0, _, _, _ => none
  | k + 1, x0, x3, x4 => if x4 < (x0.length : Int) then (if 0 ≤ x4 then ((laws_toRect.f ((rd_T81 x0 x4).f0) ((rd_T81 x0 x4).f1) ((rd_T81 x0 x4).f2) ((rd_T81 x0 x4).f3)).bind fun bt167 => (if x4 < (x3.length : Int) then (laws_toRectS.l0 k x0 (x3.set (x4 : Int).toNat (⟨bt167.1, bt167.2.1, bt167.2.2.1, bt167.2.2.2⟩ : S75)) (wrap64 (x4 + 1))) else (none))) else (none)) else (some x3)
def laws_toRectS.f (k : Nat) (l0 : List (S81)) : Option ((List (S75))) := if 0 ≤ (l0.length : Int) then (if ((l0.length : Int) : Int).toNat ≤ 8796093022208 then (laws_toRectS.l0 k l0 (List.replicate ((l0.length : Int) : Int).toNat z75) 0) else (none)) else (none)
theorem laws_toRectS.mono_l : ∀ k, (∀ y0 y1 y2, LeO (laws_toRectS.l0 k y0 y1 y2) (laws_toRectS.l0 (k + 1) y0 y1 y2))
  | 0 => fun _ _ _ r h => by simp [laws_toRectS.l0] at h
  | k + 1 => by
    have ih0 := laws_toRectS.mono_l k
    · intro y0 y1 y2
      unfold laws_toRectS.l0
      repeat' first
      | (with_reducible exact ih0 _ _ _)
      | (with_reducible exact LeO.refl _)
      | (with_reducible exact LeO.none _)
      | (with_reducible refine LeO.ite ?_ ?_)
      | (with_reducible refine LeO.bind ?_ (fun _ => ?_))
      | exact ih0 _ _ _
      | exact LeO.none _
      | refine LeO.ite ?_ ?_
      | refine LeO.bind ?_ (fun _ => ?_)
theorem laws_toRectS.mono : ∀ a0 k, LeO (laws_toRectS.f k a0) (laws_toRectS.f (k + 1) a0) := by
  intro a0 k
  have ih0 := laws_toRectS.mono_l k
  unfold laws_toRectS.f
  repeat' first
      | (with_reducible exact ih0 _ _ _)
      | (with_reducible exact LeO.refl _)
      | (with_reducible exact LeO.none _)
      | (with_reducible refine LeO.ite ?_ ?_)
      | (with_reducible refine LeO.bind ?_ (fun _ => ?_))
      | exact ih0 _ _ _
      | exact LeO.none _
      | refine LeO.ite ?_ ?_
      | refine LeO.bind ?_ (fun _ => ?_)
set_option maxHeartbeats 8000000 in
set_option maxRecDepth 100000 in
theorem laws_toRectS.calls (k : Nat) (A0 : Option Addr) (c0 : Nat) (l0 : List (S81)) (r : List (S75)) (w : World) (hr0 : Kd.C k81 w A0 l0.length l0) (hc0 : l0.length ≤ c0) (h : laws_toRectS.f k l0 = some r) :
    Calls Try.prog 31 #[.slice A0 l0.length c0] w fun e w' => ∃ v0_ : Value, e = .returned (v0_) ∧ Kd.R k75 75 w' w.heap.size (fun _ => True) v0_ r ∧ Below w.heap.size w w' := by
  have hu81 := Try.underlying81
  have hu75 := Try.underlying75
  have HR0 := Aside0.mk hr0
  have HC0 := Aside0.mk hc0
  clear hr0 hc0
  have HB := Aside0.mk (Below.refl w.heap.size w)
  have H : (if 0 ≤ (l0.length : Int) then (if ((l0.length : Int) : Int).toNat ≤ 8796093022208 then (laws_toRectS.l0 k l0 (List.replicate ((l0.length : Int) : Int).toNat z75) 0) else (none)) else (none)) = some r := h
  clear h
  by_cases c2 : 0 ≤ (l0.length : Int)
  · rw [if_pos c2] at H
    have c2b0 := eq_true c2
    have c2b1 : decide (0 ≤ (l0.length : Int)) = true := decide_eq_true c2
    clear c2
    by_cases c3 : ((l0.length : Int) : Int).toNat ≤ 8796093022208
    · rw [if_pos c3] at H
      have c3b0 := eq_true c3
      have c3b1 : decide (((l0.length : Int) : Int).toNat ≤ 8796093022208) = true := decide_eq_true c3
      clear c3
      obtain ⟨y163, hy163⟩ : ∃ y_ : List (S75), y_ = (List.replicate ((l0.length : Int) : Int).toNat z75) := ⟨_, rfl⟩
      replace H : (laws_toRectS.l0 k l0 y163 0) = some r := by first | (rw [hy163]; with_reducible exact H) | (have H2_ := (Option.bind_some _ _).symm.trans H; rw [hy163]; with_reducible exact H2_) | (have H2_ := (Option.bind_some _ _).symm.trans H; with_reducible exact H2_) | with_reducible exact H | (rw [hy163]; exact H) | exact H
      have Ny163 := Aside0.mk hy163
      clear hy163
      have H' := Aside0.mk H
      clear H
      go_enter Try.func31, Try.ntmps31
      go_wp2_with (first | ((with_reducible refine gate_dst (N := 7) rfl ?_); refine Kd.R_make k75 _ 75 rfl (N := 7) rfl 31 _ _ rfl (l0.length : Int) rfl rfl Try.underlying31 (.agg #[(.int .i64 0), (.int .i64 0), (.int .i64 0), (.int .i64 0)]) 32 info75 rfl (by decide) (by omega) z75 (ok := fun _ => True) (okp := fun _ => True) (k75_mkM _ _ _ z75 ) (fun _ hk => hk) trivial (of_decide_eq_true (by first | (with_reducible assumption) | assumption)) (Nat.le_trans (Nat.mul_le_mul_right _ (of_decide_eq_true (by first | (with_reducible assumption) | assumption) : (l0.length : Int).toNat ≤ 8796093022208)) (by omega)) (Below.refl _ _) (Nat.le_refl _) ?_; intro v164 w4 ho5 hb hg_ hnew_; clear hg_ hnew_; (first | rw [← Ny163.out] at ho5 | (simp only [Int.reduceToNat] at ho5; rw [← Ny163.out] at ho5)); have n0_ := Aside0.mk (Kd.R_lower ho5 (below_size (by repeat (first | (with_reducible first | exact HB.out | apply below_alloc | apply pw_below_drewN | apply below_drew1) | exact HB.out)))); have n1_ := Aside0.mk (below_step (by repeat (first | (with_reducible first | exact HB.out | apply below_alloc | apply pw_below_drewN | apply below_drew1) | exact HB.out)) hb); clear HB; have HO165 := n0_; have HB := n1_; clear n0_ n1_; clear hb ho5))
      go_loopg [4] k (fun kq v4 w' => ∃ (x3_1 : List (S75)) (x4_1 : Int), v4 = .int .i64 x4_1 ∧ Aside0 (laws_toRectS.l0 kq l0 x3_1 x4_1 = some r) ∧ Aside0 (kq ≤ k) ∧ Aside0 (Kd.R k75 75 w' w.heap.size (fun _ => True) v164 x3_1) ∧ Aside0 (Below w.heap.size w w'))
      case atStart => exact ⟨(y163), (0), (by first | rfl | (simp; done) | (simp [*]; done)), H', ⟨Nat.le_refl _⟩, ⟨by (with_reducible repeat (first | apply Kd.R_alloc | apply Kd.R_drewN | apply Kd.R_drew)); exact HO165.out⟩, ⟨by repeat (first | (with_reducible first | exact HB.out | apply below_alloc | apply pw_below_drewN | apply below_drew1) | exact HB.out)⟩⟩
      case round =>
        clear H'
        try clear c2
        try clear c2b0
        try clear c2b1
        try clear p2
        try clear c3
        try clear c3b0
        try clear c3b1
        obtain ⟨x3_1, x4_1, rfl, HA, HK1, HO_3, HB⟩ := hrel
        cases gk with
        | zero => exact absurd HA.out (by simp [laws_toRectS.l0])
        | succ k1 =>
          have H := HA.out
          clear HA
          simp only [laws_toRectS.l0] at H
          by_cases c6 : x4_1 < (l0.length : Int)
          · rw [if_pos c6] at H
            have c6b0 : decide (x4_1 < (l0.length : Int)) = true := decide_eq_true c6
            clear c6
            by_cases c7 : 0 ≤ x4_1
            · rw [if_pos c7] at H
              have c7b0 : decide (0 ≤ x4_1) = true := decide_eq_true c7
              clear c7
              replace H := Option.bind_eq_some_iff.mp H
              obtain ⟨⟨t167, t168, t169, t170⟩, A80, H⟩ := H
              replace H : (if x4_1 < (x3_1.length : Int) then (laws_toRectS.l0 k1 l0 (x3_1.set (x4_1 : Int).toNat (⟨t167, t168, t169, t170⟩ : S75)) (wrap64 (x4_1 + 1))) else (none)) = some r := H
              have A8 := Aside0.mk A80
              clear A80
              by_cases c9 : x4_1 < (x3_1.length : Int)
              · rw [if_pos c9] at H
                have c9b0 : decide (x4_1 < (x3_1.length : Int)) = true := decide_eq_true c9
                clear c9
                obtain ⟨y171, hy171⟩ : ∃ y_ : List (S75), y_ = (x3_1.set (x4_1 : Int).toNat (⟨t167, t168, t169, t170⟩ : S75)) := ⟨_, rfl⟩
                replace H : (laws_toRectS.l0 k1 l0 y171 (wrap64 (x4_1 + 1))) = some r := by first | (rw [hy171]; with_reducible exact H) | (have H2_ := (Option.bind_some _ _).symm.trans H; rw [hy171]; with_reducible exact H2_) | (have H2_ := (Option.bind_some _ _).symm.trans H; with_reducible exact H2_) | with_reducible exact H | (rw [hy171]; exact H) | exact H
                have Ny171 := Aside0.mk hy171
                clear hy171
                have H' := Aside0.mk H
                clear H
                have p166 : 0 ≤ (x4_1 : Int) := of_decide_eq_true (by first | (with_reducible assumption) | assumption)
                have q166 : x4_1 < (l0.length : Int) := of_decide_eq_true (by first | (with_reducible assumption) | assumption)
                obtain ⟨ad166, e166, hx166_0, hx166_1, hx166_2, hx166_3⟩ := at_T81 HR0.out x4_1 p166 q166
                cases e166
                replace hx166_0 := (HB.out.cell (World.block_lt_of_cell? _ _ hx166_0)).trans hx166_0
                replace hx166_1 := (HB.out.cell (World.block_lt_of_cell? _ _ hx166_1)).trans hx166_1
                replace hx166_2 := (HB.out.cell (World.block_lt_of_cell? _ _ hx166_2)).trans hx166_2
                replace hx166_3 := (HB.out.cell (World.block_lt_of_cell? _ _ hx166_3)).trans hx166_3
                replace p166 := eq_true p166
                replace q166 := eq_true q166
                go_wp2_with (first | ((with_reducible refine gate_callee (f := 74) rfl ?_); refine goesL_ (some 20) rfl rfl Try.func74 (by kernel_rfl) rfl #[.agg #[.int .i64 ((rd_T81 l0 x4_1).f0), .int .i64 ((rd_T81 l0 x4_1).f1), .int .i64 ((rd_T81 l0 x4_1).f2), .int .i64 ((rd_T81 l0 x4_1).f3)]] rfl (by (try simp only [List.map_toArray, List.map_cons, List.map_nil]); first | done | rfl | (simp only [List.length_drop, List.length_take]; rfl)) ?_; (with_reducible refine (laws_toRect.calls ((rd_T81 l0 x4_1).f0) ((rd_T81 l0 x4_1).f1) ((rd_T81 l0 x4_1).f2) ((rd_T81 l0 x4_1).f3) t167 t168 t169 t170 _ A8.out).mono ?_); rintro e w11 ⟨rfl, hb⟩; refine ⟨_, rfl, ?_⟩; have n0_ := Aside0.mk (Kd.R_below (by (with_reducible repeat (first | apply Kd.R_alloc | apply Kd.R_drewN | apply Kd.R_drew)); exact HO_3.out) hb); have n1_ := Aside0.mk (below_step (by repeat (first | (with_reducible first | exact HB.out | apply below_alloc | apply pw_below_drewN | apply below_drew1) | exact HB.out)) hb); clear HO_3; clear HB; have HO_3 := n0_; have HB := n1_; clear n0_ n1_; (try clear hb); (try clear hb2); (try clear hk); (try clear hi); have p10 : 0 ≤ (x4_1 : Int) := of_decide_eq_true (by first | (with_reducible assumption) | assumption); have q10 : (x4_1 : Int) < ((x3_1.length : Int) : Int) := of_decide_eq_true (by first | (with_reducible assumption) | assumption); obtain ⟨go10, co10, eo10, gb10, gl10, cl10, HG10⟩ := Kd.R_form HO_3.out (by omega); (first | cases eo10 | (injection eo10 with ea_ en_ ec_; (first | subst ea_ | (injection ea_ with ea_; subst ea_)); subst ec_; clear en_)); have GB10 := Aside0.mk gb10; have GG10 := Aside0.mk HG10; clear gb10 gl10 HG10; obtain ⟨ce10, hcl10, hM10, hcc10, hfr10⟩ := Kd.R_elem HO_3.out z75 (x4_1 : Int) p10 q10; obtain rfl := k75_openM hM10; have hx10_0 : w11.cell? ⟨go10, (x4_1 : Int).toNat * 4, none⟩ = some (.int .i64 ((rd_T75 x3_1 x4_1).f0)) := hcc10 0 _ rfl; have hx10_1 : w11.cell? ⟨go10, (x4_1 : Int).toNat * 4 + 1, none⟩ = some (.int .i64 ((rd_T75 x3_1 x4_1).f1)) := hcc10 1 _ rfl; have hx10_2 : w11.cell? ⟨go10, (x4_1 : Int).toNat * 4 + 2, none⟩ = some (.int .i64 ((rd_T75 x3_1 x4_1).f2)) := hcc10 2 _ rfl; have hx10_3 : w11.cell? ⟨go10, (x4_1 : Int).toNat * 4 + 3, none⟩ = some (.int .i64 ((rd_T75 x3_1 x4_1).f3)) := hcc10 3 _ rfl; have hf10_0 : w11.frozen? ⟨go10, (x4_1 : Int).toNat * 4, none⟩ = false := hfr10 0; have hf10_1 : w11.frozen? ⟨go10, (x4_1 : Int).toNat * 4 + 1, none⟩ = false := hfr10 1; have hf10_2 : w11.frozen? ⟨go10, (x4_1 : Int).toNat * 4 + 2, none⟩ = false := hfr10 2; have hf10_3 : w11.frozen? ⟨go10, (x4_1 : Int).toNat * 4 + 3, none⟩ = false := hfr10 3; clear hcl10 hcc10 hfr10 hM10; replace p10 := eq_true p10; replace q10 := eq_true q10; have HX12 := Aside0.mk (show Kd.R k75 75 w11 w.heap.size (fun _ => True) (.slice (some ⟨go10, 0, none⟩) x3_1.length co10) x3_1 from (by (with_reducible repeat (first | apply Kd.R_alloc | apply Kd.R_drewN | apply Kd.R_drew)); exact HO_3.out)); obtain ⟨ce12, hcl12, hM12, hcc12, hfr12⟩ := Kd.R_elem HX12.out z75 (x4_1 : Int) (of_decide_eq_true (by first | (with_reducible assumption) | assumption)) (by have h_ : (x4_1 : Int) < ((x3_1.length : Int) : Int) := of_decide_eq_true (by first | (with_reducible assumption) | assumption); first | exact h_ | (have e_ := (Kd.R_reads' HO_3.out).1; omega) | simpa using h_); obtain rfl := k75_openM hM12; have HP12 := Kd.R_seg HX12.out (x4_1 : Int) (of_decide_eq_true (by first | (with_reducible assumption) | assumption)) (by have h_ : (x4_1 : Int) < ((x3_1.length : Int) : Int) := of_decide_eq_true (by first | (with_reducible assumption) | assumption); first | exact h_ | (have e_ := (Kd.R_reads' HO_3.out).1; omega) | simpa using h_) (seg := [.int .i64 t167, .int .i64 t168, .int .i64 t169, .int .i64 t170]) (j := 0) hcl12 hcc12 (show 4 ≤ 4 from by decide) (x' := (⟨t167, t168, t169, t170⟩ : S75)) (k75_mkM _ _ _ (⟨t167, t168, t169, t170⟩ : S75) ) (fun _ hk => hk); have hx12_0 := hcc12 0 _ rfl; (try simp only [show (k75).sz = 4 from rfl, Nat.mul_one, Nat.add_zero] at hx12_0); have hf12_0 := hfr12 0; (try simp only [show (k75).sz = 4 from rfl, Nat.mul_one, Nat.add_zero] at hf12_0); have hx12_1 := hcc12 1 _ rfl; (try simp only [show (k75).sz = 4 from rfl, Nat.mul_one, Nat.add_zero] at hx12_1); have hf12_1 := hfr12 1; (try simp only [show (k75).sz = 4 from rfl, Nat.mul_one, Nat.add_zero] at hf12_1); have hx12_2 := hcc12 2 _ rfl; (try simp only [show (k75).sz = 4 from rfl, Nat.mul_one, Nat.add_zero] at hx12_2); have hf12_2 := hfr12 2; (try simp only [show (k75).sz = 4 from rfl, Nat.mul_one, Nat.add_zero] at hf12_2); have hx12_3 := hcc12 3 _ rfl; (try simp only [show (k75).sz = 4 from rfl, Nat.mul_one, Nat.add_zero] at hx12_3); have hf12_3 := hfr12 3; (try simp only [show (k75).sz = 4 from rfl, Nat.mul_one, Nat.add_zero] at hf12_3); clear hcl12 hcc12 hfr12 hM12) | ((with_reducible refine gate_store (t := 75) (p := 21) rfl ?_); refine store_event (t := 75) (p := 21) (v := ?vo_w13) (w1 := ((((w11.setCell ⟨go10, (x4_1 : Int).toNat * 4, none⟩ (.int .i64 t167)).setCell ⟨go10, (x4_1 : Int).toNat * 4 + 1, none⟩ (.int .i64 t168)).setCell ⟨go10, (x4_1 : Int).toNat * 4 + 2, none⟩ (.int .i64 t169)).setCell ⟨go10, (x4_1 : Int).toNat * 4 + 3, none⟩ (.int .i64 t170))) ?hg ?ho ?hn ?hr ?_; (case ho => rfl); (case hg => rfl); (case hn => rfl); (case hr => first | (go_simp; done) | (go_simp; rfl)); intro w13 hw; have hg : w11.grownBy w13 (some go10) := (by rw [hw]; exact HP12.2); have hp_ : Kd.R k75 75 w13 w.heap.size (fun _ => True) (.slice (some ⟨go10, 0, none⟩) x3_1.length co10) y171 := (by rw [hw, Ny171.out]; exact HP12.1); clear HP12; have n0_ := Aside0.mk (hp_); have n1_ := Aside0.mk ((by rw [hw]; exact below_set (below_set (below_set (below_set (HB.out) GB10.out) GB10.out) GB10.out) GB10.out : Below w.heap.size w w13)); clear HO_3; clear HB; have HO_3 := n0_; have HB := n1_; clear n0_ n1_; clear hg hw hp_))
                go_roundg k1
                case measure => have := HK1.out; omega
                case rel => exact ⟨(y171), (wrap64 (x4_1 + 1)), (by first | rfl | (simp; done) | (simp [*]; done)), H', ⟨by have := HK1.out; omega⟩, ⟨by (with_reducible repeat (first | apply Kd.R_alloc | apply Kd.R_drewN | apply Kd.R_drew)); exact HO_3.out⟩, ⟨by repeat (first | (with_reducible first | exact HB.out | apply below_alloc | apply pw_below_drewN | apply below_drew1) | exact HB.out)⟩⟩
              · rw [if_neg c9] at H
                exact absurd H (by simp)
            · rw [if_neg c7] at H
              exact absurd H (by simp)
          · rw [if_neg c6] at H
            have c6b0 : decide (x4_1 < (l0.length : Int)) = false := decide_eq_false c6
            clear c6
            obtain rfl := Option.some.inj H
            go_wp2
            go_ret
            exact ⟨_, by first | rfl | (simp [errW_none, errW_some] <;> rfl) | (simp [*, errW_none, errW_some] <;> rfl), by (with_reducible repeat (first | apply Kd.R_alloc | apply Kd.R_drewN | apply Kd.R_drew)); exact HO_3.out, by repeat (first | (with_reducible first | exact HB.out | apply below_alloc | apply pw_below_drewN | apply below_drew1) | exact HB.out)⟩
    · rw [if_neg c3] at H
      exact absurd H (by simp)
  · rw [if_neg c2] at H
    exact absurd H (by simp)

end Go.Proofs.Ytncjjplpenjghaa.P

/-! ### Px20 -/
namespace Go.Proofs.Ytncjjplpenjghaa.P
open Go.RowKit Go.Proofs.YtncjjplpenjghaaW.PrintWords Go.Proofs.YtncjjplpenjghaaW.PrintLast Go.Proofs.YtncjjplpenjghaaW.PrintMore
attribute [local go_sem] max2_int min2_int max_two min_two max_three min_three max_four min_four   -- for this text's walks alone
set_option linter.unusedVariables false
set_option linter.unusedSimpArgs false

/-! ### laws_toRectSS: function 17 -/
def laws_toRectSS.l0 : Nat → List (List (S81)) → List (List (S75)) → Int → Option ((List (List (S75))))
  | 0, _, _, _ => none
  | k + 1, x0, x3, x4 => if x4 < (x0.length : Int) then (if 0 ≤ x4 then ((laws_toRectS.f k (rd_L2 x0 x4)).bind fun t176 => (if x4 < (x3.length : Int) then (laws_toRectSS.l0 k x0 (x3.set (x4 : Int).toNat t176) (wrap64 (x4 + 1))) else (none))) else (none)) else (some x3)
def laws_toRectSS.f (k : Nat) (l0 : List (List (S81))) : Option ((List (List (S75)))) := if 0 ≤ (l0.length : Int) then (if ((l0.length : Int) : Int).toNat ≤ 11728124029610 then (laws_toRectSS.l0 k l0 (List.replicate ((l0.length : Int) : Int).toNat []) 0) else (none)) else (none)
theorem laws_toRectSS.mono_l : ∀ k, (∀ y0 y1 y2, LeO (laws_toRectSS.l0 k y0 y1 y2) (laws_toRectSS.l0 (k + 1) y0 y1 y2))
  | 0 => fun _ _ _ r h => by simp [laws_toRectSS.l0] at h
  | k + 1 => by
    have ih0 := laws_toRectSS.mono_l k
    · intro y0 y1 y2
      unfold laws_toRectSS.l0
      repeat' first
      | (with_reducible exact ih0 _ _ _)
      | (with_reducible exact laws_toRectS.mono _ _)
      | (with_reducible exact LeO.refl _)
      | (with_reducible exact LeO.none _)
      | (with_reducible refine LeO.ite ?_ ?_)
      | (with_reducible refine LeO.bind ?_ (fun _ => ?_))
      | exact ih0 _ _ _
      | exact laws_toRectS.mono _ _
      | exact LeO.none _
      | refine LeO.ite ?_ ?_
      | refine LeO.bind ?_ (fun _ => ?_)
theorem laws_toRectSS.mono : ∀ a0 k, LeO (laws_toRectSS.f k a0) (laws_toRectSS.f (k + 1) a0) := by
  intro a0 k
  have ih0 := laws_toRectSS.mono_l k
  unfold laws_toRectSS.f
  repeat' first
      | (with_reducible exact ih0 _ _ _)
      | (with_reducible exact laws_toRectS.mono _ _)
      | (with_reducible exact LeO.refl _)
      | (with_reducible exact LeO.none _)
      | (with_reducible refine LeO.ite ?_ ?_)
      | (with_reducible refine LeO.bind ?_ (fun _ => ?_))
      | exact ih0 _ _ _
      | exact laws_toRectS.mono _ _
      | exact LeO.none _
      | refine LeO.ite ?_ ?_
      | refine LeO.bind ?_ (fun _ => ?_)
set_option maxHeartbeats 8000000 in
set_option maxRecDepth 100000 in
theorem laws_toRectSS.calls (k : Nat) (A0 : Option Addr) (c0 : Nat) (l0 : List (List (S81))) (r : List (List (S75))) (w : World) (hr0 : Kd.C (Kd.slice 81 k81) w A0 l0.length l0) (hc0 : l0.length ≤ c0) (h : laws_toRectSS.f k l0 = some r) :
    Calls Try.prog 17 #[.slice A0 l0.length c0] w fun e w' => ∃ v0_ : Value, e = .returned (v0_) ∧ Kd.S (Kd.slice 75 k75) 31 w' w.heap.size (fun _ => True) v0_ r ∧ Below w.heap.size w w' := by
  have HR0 := Aside0.mk hr0
  have HC0 := Aside0.mk hc0
  clear hr0 hc0
  have HB := Aside0.mk (Below.refl w.heap.size w)
  have H : (if 0 ≤ (l0.length : Int) then (if ((l0.length : Int) : Int).toNat ≤ 11728124029610 then (laws_toRectSS.l0 k l0 (List.replicate ((l0.length : Int) : Int).toNat []) 0) else (none)) else (none)) = some r := h
  clear h
  by_cases c2 : 0 ≤ (l0.length : Int)
  · rw [if_pos c2] at H
    have c2b0 := eq_true c2
    have c2b1 : decide (0 ≤ (l0.length : Int)) = true := decide_eq_true c2
    clear c2
    by_cases c3 : ((l0.length : Int) : Int).toNat ≤ 11728124029610
    · rw [if_pos c3] at H
      have c3b0 := eq_true c3
      have c3b1 : decide (((l0.length : Int) : Int).toNat ≤ 11728124029610) = true := decide_eq_true c3
      clear c3
      obtain ⟨y172, hy172⟩ : ∃ y_ : List (List (S75)), y_ = (List.replicate ((l0.length : Int) : Int).toNat []) := ⟨_, rfl⟩
      replace H : (laws_toRectSS.l0 k l0 y172 0) = some r := by first | (rw [hy172]; with_reducible exact H) | (have H2_ := (Option.bind_some _ _).symm.trans H; rw [hy172]; with_reducible exact H2_) | (have H2_ := (Option.bind_some _ _).symm.trans H; with_reducible exact H2_) | with_reducible exact H | (rw [hy172]; exact H) | exact H
      have Ny172 := Aside0.mk hy172
      clear hy172
      have H' := Aside0.mk H
      clear H
      go_enter Try.func17, Try.ntmps17
      go_wp2_with (first | ((with_reducible refine gate_dst (N := 7) rfl ?_); refine Kd.S_make (Kd.slice 75 k75) _ 31 rfl (N := 7) rfl 25 _ _ rfl (l0.length : Int) rfl rfl Try.underlying25 (.slice none 0 0) 24 info31 rfl (by decide) (by omega) [] (ok := fun _ => True) (okp := fun _ => True) ⟨_, rfl, Kd.R_nil _ _ _ _ _⟩ (fun _ hk => hk) trivial (of_decide_eq_true (by first | (with_reducible assumption) | assumption)) (Nat.le_trans (Nat.mul_le_mul_right _ (of_decide_eq_true (by first | (with_reducible assumption) | assumption) : (l0.length : Int).toNat ≤ 11728124029610)) (by omega)) (Below.refl _ _) (Nat.le_refl _) ?_; intro v173 w4 ho5 hb hg_ hnew_; clear hg_ hnew_; (first | rw [← Ny172.out] at ho5 | (simp only [Int.reduceToNat] at ho5; rw [← Ny172.out] at ho5)); have n0_ := Aside0.mk (Kd.S_lower ho5 (below_size (by repeat (first | (with_reducible first | exact HB.out | apply below_alloc | apply pw_below_drewN | apply below_drew1) | exact HB.out)))); have n1_ := Aside0.mk (below_step (by repeat (first | (with_reducible first | exact HB.out | apply below_alloc | apply pw_below_drewN | apply below_drew1) | exact HB.out)) hb); clear HB; have HO174 := n0_; have HB := n1_; clear n0_ n1_; clear hb ho5))
      go_loopg [4] k (fun kq v4 w' => ∃ (x3_1 : List (List (S75))) (x4_1 : Int), v4 = .int .i64 x4_1 ∧ Aside0 (laws_toRectSS.l0 kq l0 x3_1 x4_1 = some r) ∧ Aside0 (kq ≤ k) ∧ Aside0 (Kd.S (Kd.slice 75 k75) 31 w' w.heap.size (fun _ => True) v173 x3_1) ∧ Aside0 (Below w.heap.size w w'))
      case atStart => exact ⟨(y172), (0), (by first | rfl | (simp; done) | (simp [*]; done)), H', ⟨Nat.le_refl _⟩, ⟨by (with_reducible repeat (first | apply Kd.S_alloc | apply Kd.S_drewN | apply Kd.S_drew)); exact HO174.out⟩, ⟨by repeat (first | (with_reducible first | exact HB.out | apply below_alloc | apply pw_below_drewN | apply below_drew1) | exact HB.out)⟩⟩
      case round =>
        clear H'
        try clear c1
        try clear c2
        try clear c2b0
        try clear c2b1
        try clear p2
        try clear c3
        try clear c3b0
        try clear c3b1
        obtain ⟨x3_1, x4_1, rfl, HA, HK1, HO_3, HB⟩ := hrel
        cases gk with
        | zero => exact absurd HA.out (by simp [laws_toRectSS.l0])
        | succ k1 =>
          have H := HA.out
          clear HA
          simp only [laws_toRectSS.l0] at H
          by_cases c6 : x4_1 < (l0.length : Int)
          · rw [if_pos c6] at H
            have c6b0 : decide (x4_1 < (l0.length : Int)) = true := decide_eq_true c6
            clear c6
            by_cases c7 : 0 ≤ x4_1
            · rw [if_pos c7] at H
              have c7b0 : decide (0 ≤ x4_1) = true := decide_eq_true c7
              clear c7
              replace H := Option.bind_eq_some_iff.mp H
              obtain ⟨t176, A80, H⟩ := H
              replace H : (if x4_1 < (x3_1.length : Int) then (laws_toRectSS.l0 k1 l0 (x3_1.set (x4_1 : Int).toNat t176) (wrap64 (x4_1 + 1))) else (none)) = some r := H
              have A8 := Aside0.mk A80
              clear A80
              by_cases c9 : x4_1 < (x3_1.length : Int)
              · rw [if_pos c9] at H
                have c9b0 : decide (x4_1 < (x3_1.length : Int)) = true := decide_eq_true c9
                clear c9
                obtain ⟨y179, hy179⟩ : ∃ y_ : List (List (S75)), y_ = (x3_1.set (x4_1 : Int).toNat t176) := ⟨_, rfl⟩
                replace H : (laws_toRectSS.l0 k1 l0 y179 (wrap64 (x4_1 + 1))) = some r := by first | (rw [hy179]; with_reducible exact H) | (have H2_ := (Option.bind_some _ _).symm.trans H; rw [hy179]; with_reducible exact H2_) | (have H2_ := (Option.bind_some _ _).symm.trans H; with_reducible exact H2_) | with_reducible exact H | (rw [hy179]; exact H) | exact H
                have Ny179 := Aside0.mk hy179
                clear hy179
                have H' := Aside0.mk H
                clear H
                have p175 : 0 ≤ (x4_1 : Int) := of_decide_eq_true (by first | (with_reducible assumption) | assumption)
                have q175 : x4_1 < (l0.length : Int) := of_decide_eq_true (by first | (with_reducible assumption) | assumption)
                obtain ⟨ad175, A175_0, c175_0, e175, hx175_0, hl175_0, hi175_0⟩ := at_L2 HR0.out x4_1 p175 q175
                cases e175
                replace hx175_0 := (HB.out.cell (World.block_lt_of_cell? _ _ hx175_0)).trans hx175_0
                have HR175_0 := Aside0.mk hi175_0
                have HC175_0 := Aside0.mk hl175_0
                clear hi175_0 hl175_0
                replace p175 := eq_true p175
                replace q175 := eq_true q175
                go_wp2_with (first | ((with_reducible refine gate_callee (f := 31) rfl ?_); refine goesL_ (some 20) rfl rfl Try.func31 (by kernel_rfl) rfl #[.slice A175_0 (rd_L2 l0 x4_1).length c175_0] rfl (by (try simp only [List.map_toArray, List.map_cons, List.map_nil]); first | done | rfl | (simp only [List.length_drop, List.length_take]; rfl)) ?_; (with_reducible refine (laws_toRectS.calls k1 _ _ (rd_L2 l0 x4_1) t176 _ ?side1 ?side2 A8.out).mono ?_); (case side1 => repeat (first | exact (Kd.C_below HR175_0.out HB.out) | (with_reducible refine Kd.C_alloc ?_ _) | (with_reducible refine Kd.C_drewN ?_ _) | (with_reducible refine Kd.C_drew ?_))); (case side2 => exact HC175_0.out); rintro e w11 ⟨v177, rfl, ho0, hb⟩; refine ⟨_, rfl, ?_⟩; have n0_ := Aside0.mk (Kd.S_elder' (by (with_reducible repeat (first | apply Kd.S_alloc | apply Kd.S_drewN | apply Kd.S_drew)); exact HO_3.out) (Kd.R_base ho0) hb); have n1_ := Aside0.mk (Kd.R_lower ho0 (below_size (by repeat (first | (with_reducible first | exact HB.out | apply below_alloc | apply pw_below_drewN | apply below_drew1) | exact HB.out)))); have n2_ := Aside0.mk (below_step (by repeat (first | (with_reducible first | exact HB.out | apply below_alloc | apply pw_below_drewN | apply below_drew1) | exact HB.out)) hb); clear HO_3; clear HB; have HO_3 := n0_; have HO178 := n1_; have HB := n2_; clear n0_ n1_ n2_; (try clear hb); (try clear hb2); (try clear hk); (try clear hi); (try clear ho0); have p10 : 0 ≤ (x4_1 : Int) := of_decide_eq_true (by first | (with_reducible assumption) | assumption); have q10 : (x4_1 : Int) < ((x3_1.length : Int) : Int) := of_decide_eq_true (by first | (with_reducible assumption) | assumption); obtain ⟨go10, co10, eo10, gb10, gl10, cl10, HG10⟩ := Kd.S_form HO_3.out (by omega); (first | cases eo10 | (injection eo10 with ea_ en_ ec_; (first | subst ea_ | (injection ea_ with ea_; subst ea_)); subst ec_; clear en_)); have GB10 := Aside0.mk gb10; have GG10 := Aside0.mk HG10; clear gb10 gl10 HG10; obtain ⟨_, ce10, hcl10, hM10, hcc10, hfr10, _, _⟩ := Kd.S_elem HO_3.out [] (x4_1 : Int) p10 q10; obtain ⟨ve10_0, rfl, ge10_0⟩ := hM10; have hx10_0 := hcc10 0 _ rfl; have hf10_0 := hfr10 0; (try simp only [show ((Kd.slice 75 k75)).sz = 1 from rfl, Nat.mul_one, Nat.add_zero] at hx10_0); (try simp only [show ((Kd.slice 75 k75)).sz = 1 from rfl, Nat.mul_one, Nat.add_zero] at hf10_0); clear hcl10 hcc10 hfr10; replace p10 := eq_true p10; replace q10 := eq_true q10; have n_ := Aside0.mk (Kd.S_mono (ok' := (fun k_ => some k_ ≠ (v177 : Value).ownBlock)) HO_3.out (fun k_ hk => hk.2)); clear HO_3; have HO_3 := n_; clear n_; have HX12 := Aside0.mk (show Kd.S (Kd.slice 75 k75) 31 w11 w.heap.size (fun k_ => ((fun _ => True)) k_ ∧ ¬ ((fun k_ => some k_ = (v177 : Value).ownBlock)) k_) (.slice (some ⟨go10, 0, none⟩) x3_1.length co10) x3_1 from (by (with_reducible repeat (first | apply Kd.S_alloc | apply Kd.S_drewN | apply Kd.S_drew)); exact Kd.S_mono HO_3.out (fun k_ hk => ⟨trivial, fun e_ => hk e_⟩))); obtain ⟨oki12, ce12, hcl12, hM12, hcc12, hfr12, hoki12, hH12⟩ := Kd.S_elem HX12.out [] (x4_1 : Int) (of_decide_eq_true (by first | (with_reducible assumption) | assumption)) (by have h_ : (x4_1 : Int) < ((x3_1.length : Int) : Int) := of_decide_eq_true (by first | (with_reducible assumption) | assumption); first | exact h_ | (have e_ := (Kd.S_reads' HO_3.out).1; omega) | simpa using h_); obtain ⟨ve12_0, rfl, ge12_0⟩ := hM12; have HP12 := Kd.S_seg hH12 (of_decide_eq_true (by first | (with_reducible assumption) | assumption)) (by have h_ : (x4_1 : Int) < ((x3_1.length : Int) : Int) := of_decide_eq_true (by first | (with_reducible assumption) | assumption); first | exact h_ | (have e_ := (Kd.S_reads' HO_3.out).1; omega) | simpa using h_) (seg := [v177]) (j := 0) (show 1 ≤ 1 from by decide) (x' := t176) (Kd.M_row (Kd.R_mono (Kd.R_tight rfl (Kd.R_mono (ok' := fun k_ => ((fun _ => True)) k_ ∧ k_ ≠ go10) (Kd.R_apart' (HO178.out) (Kd.S_typed HO_3.out) (by decide)) (fun k_ hk => ⟨trivial, fun e_ => (hk.2) (by rw [e_]; rfl)⟩))) (fun _ h_ => Or.inr (h_)))) (fun _ hk => hk) (fun k_ hk_ => ((Kd.R_mono (ok' := fun k_ => ((fun _ => True)) k_ ∧ k_ ≠ go10) (Kd.R_apart' (HO178.out) (Kd.S_typed HO_3.out) (by decide)) (fun k_ hk => ⟨trivial, fun e_ => (hk.2) (by rw [e_]; rfl)⟩))).1 k_ hk_.symm); have hx12_0 := hcc12 0 _ rfl; (try simp only [show ((Kd.slice 75 k75)).sz = 1 from rfl, Nat.mul_one, Nat.add_zero] at hx12_0); have hf12_0 := hfr12 0; (try simp only [show ((Kd.slice 75 k75)).sz = 1 from rfl, Nat.mul_one, Nat.add_zero] at hf12_0); clear hcl12 hcc12 hfr12 hoki12 hH12; (try simp only [show ((Kd.slice 75 k75)).sz = 1 from rfl, Nat.mul_one, Nat.add_zero] at HP12)) | ((with_reducible refine gate_store (t := 31) (p := 21) rfl ?_); refine store_event (t := 31) (p := 21) (v := ?vo_w13) (w1 := (w11.setCell ⟨go10, (x4_1 : Int).toNat, none⟩ (v177))) ?hg ?ho ?hn ?hr ?_; (case ho => rfl); (case hg => rfl); (case hn => rfl); (case hr => first | (go_simp; done) | (go_simp; rfl) | (obtain ⟨_, _, e_⟩ := Kd.R_slice HO178.out; subst e_; first | (go_simp; done) | (go_simp; rfl))); intro w13 hw; have hg : w11.grownBy w13 (some go10) := (by rw [hw]; exact HP12.2); have hp_ : Kd.S (Kd.slice 75 k75) 31 w13 w.heap.size (fun _ => True) (.slice (some ⟨go10, 0, none⟩) x3_1.length co10) y179 := (by rw [hw, Ny179.out]; exact HP12.1); clear HP12; have n0_ := Aside0.mk (hp_); have n1_ := Aside0.mk ((by rw [hw]; exact below_set (HB.out) GB10.out : Below w.heap.size w w13)); clear HO_3; clear HB; clear HO178; have HO_3 := n0_; have HB := n1_; clear n0_ n1_; clear hg hw hp_))
                go_roundg k1
                case measure => have := HK1.out; omega
                case rel => exact ⟨(y179), (wrap64 (x4_1 + 1)), (by first | rfl | (simp; done) | (simp [*]; done)), H', ⟨by have := HK1.out; omega⟩, ⟨by (with_reducible repeat (first | apply Kd.S_alloc | apply Kd.S_drewN | apply Kd.S_drew)); exact HO_3.out⟩, ⟨by repeat (first | (with_reducible first | exact HB.out | apply below_alloc | apply pw_below_drewN | apply below_drew1) | exact HB.out)⟩⟩
              · rw [if_neg c9] at H
                exact absurd H (by simp)
            · rw [if_neg c7] at H
              exact absurd H (by simp)
          · rw [if_neg c6] at H
            have c6b0 : decide (x4_1 < (l0.length : Int)) = false := decide_eq_false c6
            clear c6
            obtain rfl := Option.some.inj H
            go_wp2
            go_ret
            exact ⟨_, by first | rfl | (simp [errW_none, errW_some] <;> rfl) | (simp [*, errW_none, errW_some] <;> rfl), by (with_reducible repeat (first | apply Kd.S_alloc | apply Kd.S_drewN | apply Kd.S_drew)); exact HO_3.out, by repeat (first | (with_reducible first | exact HB.out | apply below_alloc | apply pw_below_drewN | apply below_drew1) | exact HB.out)⟩
    · rw [if_neg c3] at H
      exact absurd H (by simp)
  · rw [if_neg c2] at H
    exact absurd H (by simp)

end Go.Proofs.Ytncjjplpenjghaa.P

/-! ### Px24 -/
namespace Go.Proofs.Ytncjjplpenjghaa.P
open Go.RowKit Go.Proofs.YtncjjplpenjghaaW.PrintWords Go.Proofs.YtncjjplpenjghaaW.PrintLast Go.Proofs.YtncjjplpenjghaaW.PrintMore
attribute [local go_sem] max2_int min2_int max_two min_two max_three min_three max_four min_four   -- for this text's walks alone
set_option linter.unusedVariables false
set_option linter.unusedSimpArgs false

/-! ### laws_eqRect: function 69 -/
def laws_eqRect.f (a0_0 : Int) (a0_1 : Int) (a0_2 : Int) (a0_3 : Int) (a1_0 : Int) (a1_1 : Int) (a1_2 : Int) (a1_3 : Int) : Option (Bool) := if a0_0 = a1_0 then (if a0_1 = a1_1 then (if a0_2 = a1_2 then (if a0_3 = a1_3 then (some true) else (some false)) else (some false)) else (some false)) else (some false)
set_option maxHeartbeats 8000000 in
set_option maxRecDepth 100000 in
theorem laws_eqRect.calls (a0_0 : Int) (a0_1 : Int) (a0_2 : Int) (a0_3 : Int) (a1_0 : Int) (a1_1 : Int) (a1_2 : Int) (a1_3 : Int) (r : Bool) (w : World) (h : laws_eqRect.f a0_0 a0_1 a0_2 a0_3 a1_0 a1_1 a1_2 a1_3 = some r) :
    Calls Try.prog 69 #[.agg #[.int .i64 a0_0, .int .i64 a0_1, .int .i64 a0_2, .int .i64 a0_3], .agg #[.int .i64 a1_0, .int .i64 a1_1, .int .i64 a1_2, .int .i64 a1_3]] w fun e w' => e = .returned (.bool r) ∧ Below w.heap.size w w' := by
  have hu75 := Try.underlying75
  have HB := Aside0.mk (Below.refl w.heap.size w)
  have H : (if a0_0 = a1_0 then (if a0_1 = a1_1 then (if a0_2 = a1_2 then (if a0_3 = a1_3 then (some true) else (some false)) else (some false)) else (some false)) else (some false)) = some r := h
  clear h
  by_cases c3 : a0_0 = a1_0
  · rw [if_pos c3] at H
    have c3b0 : (a0_0 == a1_0) = true := beq_iff_eq.mpr c3
    have c3b1 : (a0_0 != a1_0) = false := bne_eq_false_iff_eq.mpr c3
    clear c3
    by_cases c4 : a0_1 = a1_1
    · rw [if_pos c4] at H
      have c4b0 : (a0_1 == a1_1) = true := beq_iff_eq.mpr c4
      have c4b1 : (a0_1 != a1_1) = false := bne_eq_false_iff_eq.mpr c4
      clear c4
      by_cases c5 : a0_2 = a1_2
      · rw [if_pos c5] at H
        have c5b0 : (a0_2 == a1_2) = true := beq_iff_eq.mpr c5
        have c5b1 : (a0_2 != a1_2) = false := bne_eq_false_iff_eq.mpr c5
        clear c5
        by_cases c6 : a0_3 = a1_3
        · rw [if_pos c6] at H
          have c6b0 : (a0_3 == a1_3) = true := beq_iff_eq.mpr c6
          have c6b1 : (a0_3 != a1_3) = false := bne_eq_false_iff_eq.mpr c6
          clear c6
          obtain rfl := Option.some.inj H
          go_enter Try.func69, Try.ntmps69
          go_wp2_with (first | ((with_reducible refine gate_dst (N := 2) rfl ?_); refine box_event ?hg (N := 2) ?hd (cs := #[.int .i64 a0_0, .int .i64 a0_1, .int .i64 a0_2, .int .i64 a0_3]) (t := 75) ?hr ?_; (case hd => rfl); (case hg => rfl); (case hr => first | (go_simp; done) | (go_simp; rfl)); intro gb180 hg w7 hbox hb; have n0_ := Aside0.mk (below_step (by repeat (first | (with_reducible first | exact HB.out | apply below_alloc | apply pw_below_drewN | apply below_drew1) | exact HB.out)) hb); have n1_ := Aside0.mk (hbox); have n2_ := Aside0.mk ((by rw [hg]; exact (below_size (by repeat (first | (with_reducible first | exact HB.out | apply below_alloc | apply pw_below_drewN | apply below_drew1) | exact HB.out))) : w.heap.size ≤ gb180)); have n3_ := Aside0.mk ((by rw [hg]; exact (below_size (by repeat (first | (with_reducible first | exact HB.out | apply below_alloc | apply pw_below_drewN | apply below_drew1) | exact HB.out))) : w.heap.size ≤ gb180)); clear HB; have HB := n0_; have BK180 := n1_; have GW180 := n2_; have GE180 := n3_; clear n0_ n1_ n2_ n3_; clear hb hbox hg) | ((with_reducible refine gate_dst (N := 3) rfl ?_); refine box_event ?hg (N := 3) ?hd (cs := #[.int .i64 a1_0, .int .i64 a1_1, .int .i64 a1_2, .int .i64 a1_3]) (t := 75) ?hr ?_; (case hd => rfl); (case hg => rfl); (case hr => first | (go_simp; done) | (go_simp; rfl)); intro gb181 hg w8 hbox hb; have n0_ := Aside0.mk (blk_below (g := gb180) (o := .cells #[.int .i64 a0_0, .int .i64 a0_1, .int .i64 a0_2, .int .i64 a0_3] 75 (0, 0)) (by (with_reducible repeat (first | refine blk_drewN ?_ _ | refine blk_drew ?_ | refine blk_alloc ?_ _)); exact BK180.out) hb); have n1_ := Aside0.mk (below_step (by repeat (first | (with_reducible first | exact HB.out | apply below_alloc | apply pw_below_drewN | apply below_drew1 | refine below_set ?_ GE180.out) | exact HB.out)) hb); have n2_ := Aside0.mk (hbox); have n3_ := Aside0.mk ((by rw [hg]; exact (below_size (by repeat (first | (with_reducible first | exact HB.out | apply below_alloc | apply pw_below_drewN | apply below_drew1 | refine below_set ?_ GE180.out) | exact HB.out))) : w.heap.size ≤ gb181)); have n4_ := Aside0.mk ((by rw [hg]; exact (below_size (by repeat (first | (with_reducible first | exact HB.out | apply below_alloc | apply pw_below_drewN | apply below_drew1 | refine below_set ?_ GE180.out) | exact HB.out))) : w.heap.size ≤ gb181)); have n5_ := Aside0.mk ((by rw [hg]; exact Nat.ne_of_lt (blk_lt (g := gb180) (o := .cells #[.int .i64 a0_0, .int .i64 a0_1, .int .i64 a0_2, .int .i64 a0_3] 75 (0, 0)) (by (with_reducible repeat (first | refine blk_drewN ?_ _ | refine blk_drew ?_ | refine blk_alloc ?_ _)); exact BK180.out)) : gb180 ≠ gb181)); have n6_ := Aside0.mk ((by rw [hg]; exact Nat.ne_of_gt (blk_lt (g := gb180) (o := .cells #[.int .i64 a0_0, .int .i64 a0_1, .int .i64 a0_2, .int .i64 a0_3] 75 (0, 0)) (by (with_reducible repeat (first | refine blk_drewN ?_ _ | refine blk_drew ?_ | refine blk_alloc ?_ _)); exact BK180.out)) : gb181 ≠ gb180)); clear BK180; clear HB; have BK180 := n0_; have HB := n1_; have BK181 := n2_; have GW181 := n3_; have GE181 := n4_; have NB180_181 := n5_; have NB181_180 := n6_; clear n0_ n1_ n2_ n3_ n4_ n5_ n6_; clear hb hbox hg; have hnb9 := NB180_181.out; have hnc9 := NB181_180.out; have hcz10_0 : w8.cell? ⟨gb180, 0, none⟩ = some (.int .i64 a0_0) := (blk_cell BK180.out 0).trans rfl; have hcz10_1 : w8.cell? ⟨gb180, 1, none⟩ = some (.int .i64 a0_1) := (blk_cell BK180.out 1).trans rfl; have hcz10_2 : w8.cell? ⟨gb180, 2, none⟩ = some (.int .i64 a0_2) := (blk_cell BK180.out 2).trans rfl; have hcz10_3 : w8.cell? ⟨gb180, 3, none⟩ = some (.int .i64 a0_3) := (blk_cell BK180.out 3).trans rfl; have hfz10_0 := blk_frozen BK180.out 0; have hfz10_1 := blk_frozen BK180.out 1; have hfz10_2 := blk_frozen BK180.out 2; have hfz10_3 := blk_frozen BK180.out 3; have hcz11_0 : w8.cell? ⟨gb181, 0, none⟩ = some (.int .i64 a1_0) := (blk_cell BK181.out 0).trans rfl; have hcz11_1 : w8.cell? ⟨gb181, 1, none⟩ = some (.int .i64 a1_1) := (blk_cell BK181.out 1).trans rfl; have hcz11_2 : w8.cell? ⟨gb181, 2, none⟩ = some (.int .i64 a1_2) := (blk_cell BK181.out 2).trans rfl; have hcz11_3 : w8.cell? ⟨gb181, 3, none⟩ = some (.int .i64 a1_3) := (blk_cell BK181.out 3).trans rfl; have hfz11_0 := blk_frozen BK181.out 0; have hfz11_1 := blk_frozen BK181.out 1; have hfz11_2 := blk_frozen BK181.out 2; have hfz11_3 := blk_frozen BK181.out 3))
          go_ret
          exact ⟨by first | rfl | (simp [errW_none, errW_some] <;> rfl) | (simp [*, errW_none, errW_some] <;> rfl), by repeat (first | (with_reducible first | exact HB.out | apply below_alloc | apply pw_below_drewN | apply below_drew1 | refine below_set ?_ GE180.out | refine below_set ?_ GE181.out) | exact HB.out)⟩
        · rw [if_neg c6] at H
          have c6b0 : (a0_3 == a1_3) = false := beq_eq_false_iff_ne.mpr c6
          have c6b1 : (a0_3 != a1_3) = true := bne_iff_ne.mpr c6
          obtain rfl := Option.some.inj H
          go_enter Try.func69, Try.ntmps69
          go_wp2_with (first | ((with_reducible refine gate_dst (N := 2) rfl ?_); refine box_event ?hg (N := 2) ?hd (cs := #[.int .i64 a0_0, .int .i64 a0_1, .int .i64 a0_2, .int .i64 a0_3]) (t := 75) ?hr ?_; (case hd => rfl); (case hg => rfl); (case hr => first | (go_simp; done) | (go_simp; rfl)); intro gb180 hg w12 hbox hb; have n0_ := Aside0.mk (below_step (by repeat (first | (with_reducible first | exact HB.out | apply below_alloc | apply pw_below_drewN | apply below_drew1) | exact HB.out)) hb); have n1_ := Aside0.mk (hbox); have n2_ := Aside0.mk ((by rw [hg]; exact (below_size (by repeat (first | (with_reducible first | exact HB.out | apply below_alloc | apply pw_below_drewN | apply below_drew1) | exact HB.out))) : w.heap.size ≤ gb180)); have n3_ := Aside0.mk ((by rw [hg]; exact (below_size (by repeat (first | (with_reducible first | exact HB.out | apply below_alloc | apply pw_below_drewN | apply below_drew1) | exact HB.out))) : w.heap.size ≤ gb180)); clear HB; have HB := n0_; have BK180 := n1_; have GW180 := n2_; have GE180 := n3_; clear n0_ n1_ n2_ n3_; clear hb hbox hg) | ((with_reducible refine gate_dst (N := 3) rfl ?_); refine box_event ?hg (N := 3) ?hd (cs := #[.int .i64 a1_0, .int .i64 a1_1, .int .i64 a1_2, .int .i64 a1_3]) (t := 75) ?hr ?_; (case hd => rfl); (case hg => rfl); (case hr => first | (go_simp; done) | (go_simp; rfl)); intro gb181 hg w13 hbox hb; have n0_ := Aside0.mk (blk_below (g := gb180) (o := .cells #[.int .i64 a0_0, .int .i64 a0_1, .int .i64 a0_2, .int .i64 a0_3] 75 (0, 0)) (by (with_reducible repeat (first | refine blk_drewN ?_ _ | refine blk_drew ?_ | refine blk_alloc ?_ _)); exact BK180.out) hb); have n1_ := Aside0.mk (below_step (by repeat (first | (with_reducible first | exact HB.out | apply below_alloc | apply pw_below_drewN | apply below_drew1 | refine below_set ?_ GE180.out) | exact HB.out)) hb); have n2_ := Aside0.mk (hbox); have n3_ := Aside0.mk ((by rw [hg]; exact (below_size (by repeat (first | (with_reducible first | exact HB.out | apply below_alloc | apply pw_below_drewN | apply below_drew1 | refine below_set ?_ GE180.out) | exact HB.out))) : w.heap.size ≤ gb181)); have n4_ := Aside0.mk ((by rw [hg]; exact (below_size (by repeat (first | (with_reducible first | exact HB.out | apply below_alloc | apply pw_below_drewN | apply below_drew1 | refine below_set ?_ GE180.out) | exact HB.out))) : w.heap.size ≤ gb181)); have n5_ := Aside0.mk ((by rw [hg]; exact Nat.ne_of_lt (blk_lt (g := gb180) (o := .cells #[.int .i64 a0_0, .int .i64 a0_1, .int .i64 a0_2, .int .i64 a0_3] 75 (0, 0)) (by (with_reducible repeat (first | refine blk_drewN ?_ _ | refine blk_drew ?_ | refine blk_alloc ?_ _)); exact BK180.out)) : gb180 ≠ gb181)); have n6_ := Aside0.mk ((by rw [hg]; exact Nat.ne_of_gt (blk_lt (g := gb180) (o := .cells #[.int .i64 a0_0, .int .i64 a0_1, .int .i64 a0_2, .int .i64 a0_3] 75 (0, 0)) (by (with_reducible repeat (first | refine blk_drewN ?_ _ | refine blk_drew ?_ | refine blk_alloc ?_ _)); exact BK180.out)) : gb181 ≠ gb180)); clear BK180; clear HB; have BK180 := n0_; have HB := n1_; have BK181 := n2_; have GW181 := n3_; have GE181 := n4_; have NB180_181 := n5_; have NB181_180 := n6_; clear n0_ n1_ n2_ n3_ n4_ n5_ n6_; clear hb hbox hg; have hnb14 := NB180_181.out; have hnc14 := NB181_180.out; have hcz15_0 : w13.cell? ⟨gb180, 0, none⟩ = some (.int .i64 a0_0) := (blk_cell BK180.out 0).trans rfl; have hcz15_1 : w13.cell? ⟨gb180, 1, none⟩ = some (.int .i64 a0_1) := (blk_cell BK180.out 1).trans rfl; have hcz15_2 : w13.cell? ⟨gb180, 2, none⟩ = some (.int .i64 a0_2) := (blk_cell BK180.out 2).trans rfl; have hcz15_3 : w13.cell? ⟨gb180, 3, none⟩ = some (.int .i64 a0_3) := (blk_cell BK180.out 3).trans rfl; have hfz15_0 := blk_frozen BK180.out 0; have hfz15_1 := blk_frozen BK180.out 1; have hfz15_2 := blk_frozen BK180.out 2; have hfz15_3 := blk_frozen BK180.out 3; have hcz16_0 : w13.cell? ⟨gb181, 0, none⟩ = some (.int .i64 a1_0) := (blk_cell BK181.out 0).trans rfl; have hcz16_1 : w13.cell? ⟨gb181, 1, none⟩ = some (.int .i64 a1_1) := (blk_cell BK181.out 1).trans rfl; have hcz16_2 : w13.cell? ⟨gb181, 2, none⟩ = some (.int .i64 a1_2) := (blk_cell BK181.out 2).trans rfl; have hcz16_3 : w13.cell? ⟨gb181, 3, none⟩ = some (.int .i64 a1_3) := (blk_cell BK181.out 3).trans rfl; have hfz16_0 := blk_frozen BK181.out 0; have hfz16_1 := blk_frozen BK181.out 1; have hfz16_2 := blk_frozen BK181.out 2; have hfz16_3 := blk_frozen BK181.out 3))
          go_ret
          exact ⟨by first | rfl | (simp [errW_none, errW_some] <;> rfl) | (simp [*, errW_none, errW_some] <;> rfl), by repeat (first | (with_reducible first | exact HB.out | apply below_alloc | apply pw_below_drewN | apply below_drew1 | refine below_set ?_ GE180.out | refine below_set ?_ GE181.out) | exact HB.out)⟩
      · rw [if_neg c5] at H
        have c5b0 : (a0_2 == a1_2) = false := beq_eq_false_iff_ne.mpr c5
        have c5b1 : (a0_2 != a1_2) = true := bne_iff_ne.mpr c5
        obtain rfl := Option.some.inj H
        go_enter Try.func69, Try.ntmps69
        go_wp2_with (first | ((with_reducible refine gate_dst (N := 2) rfl ?_); refine box_event ?hg (N := 2) ?hd (cs := #[.int .i64 a0_0, .int .i64 a0_1, .int .i64 a0_2, .int .i64 a0_3]) (t := 75) ?hr ?_; (case hd => rfl); (case hg => rfl); (case hr => first | (go_simp; done) | (go_simp; rfl)); intro gb180 hg w17 hbox hb; have n0_ := Aside0.mk (below_step (by repeat (first | (with_reducible first | exact HB.out | apply below_alloc | apply pw_below_drewN | apply below_drew1) | exact HB.out)) hb); have n1_ := Aside0.mk (hbox); have n2_ := Aside0.mk ((by rw [hg]; exact (below_size (by repeat (first | (with_reducible first | exact HB.out | apply below_alloc | apply pw_below_drewN | apply below_drew1) | exact HB.out))) : w.heap.size ≤ gb180)); have n3_ := Aside0.mk ((by rw [hg]; exact (below_size (by repeat (first | (with_reducible first | exact HB.out | apply below_alloc | apply pw_below_drewN | apply below_drew1) | exact HB.out))) : w.heap.size ≤ gb180)); clear HB; have HB := n0_; have BK180 := n1_; have GW180 := n2_; have GE180 := n3_; clear n0_ n1_ n2_ n3_; clear hb hbox hg) | ((with_reducible refine gate_dst (N := 3) rfl ?_); refine box_event ?hg (N := 3) ?hd (cs := #[.int .i64 a1_0, .int .i64 a1_1, .int .i64 a1_2, .int .i64 a1_3]) (t := 75) ?hr ?_; (case hd => rfl); (case hg => rfl); (case hr => first | (go_simp; done) | (go_simp; rfl)); intro gb181 hg w18 hbox hb; have n0_ := Aside0.mk (blk_below (g := gb180) (o := .cells #[.int .i64 a0_0, .int .i64 a0_1, .int .i64 a0_2, .int .i64 a0_3] 75 (0, 0)) (by (with_reducible repeat (first | refine blk_drewN ?_ _ | refine blk_drew ?_ | refine blk_alloc ?_ _)); exact BK180.out) hb); have n1_ := Aside0.mk (below_step (by repeat (first | (with_reducible first | exact HB.out | apply below_alloc | apply pw_below_drewN | apply below_drew1 | refine below_set ?_ GE180.out) | exact HB.out)) hb); have n2_ := Aside0.mk (hbox); have n3_ := Aside0.mk ((by rw [hg]; exact (below_size (by repeat (first | (with_reducible first | exact HB.out | apply below_alloc | apply pw_below_drewN | apply below_drew1 | refine below_set ?_ GE180.out) | exact HB.out))) : w.heap.size ≤ gb181)); have n4_ := Aside0.mk ((by rw [hg]; exact (below_size (by repeat (first | (with_reducible first | exact HB.out | apply below_alloc | apply pw_below_drewN | apply below_drew1 | refine below_set ?_ GE180.out) | exact HB.out))) : w.heap.size ≤ gb181)); have n5_ := Aside0.mk ((by rw [hg]; exact Nat.ne_of_lt (blk_lt (g := gb180) (o := .cells #[.int .i64 a0_0, .int .i64 a0_1, .int .i64 a0_2, .int .i64 a0_3] 75 (0, 0)) (by (with_reducible repeat (first | refine blk_drewN ?_ _ | refine blk_drew ?_ | refine blk_alloc ?_ _)); exact BK180.out)) : gb180 ≠ gb181)); have n6_ := Aside0.mk ((by rw [hg]; exact Nat.ne_of_gt (blk_lt (g := gb180) (o := .cells #[.int .i64 a0_0, .int .i64 a0_1, .int .i64 a0_2, .int .i64 a0_3] 75 (0, 0)) (by (with_reducible repeat (first | refine blk_drewN ?_ _ | refine blk_drew ?_ | refine blk_alloc ?_ _)); exact BK180.out)) : gb181 ≠ gb180)); clear BK180; clear HB; have BK180 := n0_; have HB := n1_; have BK181 := n2_; have GW181 := n3_; have GE181 := n4_; have NB180_181 := n5_; have NB181_180 := n6_; clear n0_ n1_ n2_ n3_ n4_ n5_ n6_; clear hb hbox hg; have hnb19 := NB180_181.out; have hnc19 := NB181_180.out; have hcz20_0 : w18.cell? ⟨gb180, 0, none⟩ = some (.int .i64 a0_0) := (blk_cell BK180.out 0).trans rfl; have hcz20_1 : w18.cell? ⟨gb180, 1, none⟩ = some (.int .i64 a0_1) := (blk_cell BK180.out 1).trans rfl; have hcz20_2 : w18.cell? ⟨gb180, 2, none⟩ = some (.int .i64 a0_2) := (blk_cell BK180.out 2).trans rfl; have hcz20_3 : w18.cell? ⟨gb180, 3, none⟩ = some (.int .i64 a0_3) := (blk_cell BK180.out 3).trans rfl; have hfz20_0 := blk_frozen BK180.out 0; have hfz20_1 := blk_frozen BK180.out 1; have hfz20_2 := blk_frozen BK180.out 2; have hfz20_3 := blk_frozen BK180.out 3; have hcz21_0 : w18.cell? ⟨gb181, 0, none⟩ = some (.int .i64 a1_0) := (blk_cell BK181.out 0).trans rfl; have hcz21_1 : w18.cell? ⟨gb181, 1, none⟩ = some (.int .i64 a1_1) := (blk_cell BK181.out 1).trans rfl; have hcz21_2 : w18.cell? ⟨gb181, 2, none⟩ = some (.int .i64 a1_2) := (blk_cell BK181.out 2).trans rfl; have hcz21_3 : w18.cell? ⟨gb181, 3, none⟩ = some (.int .i64 a1_3) := (blk_cell BK181.out 3).trans rfl; have hfz21_0 := blk_frozen BK181.out 0; have hfz21_1 := blk_frozen BK181.out 1; have hfz21_2 := blk_frozen BK181.out 2; have hfz21_3 := blk_frozen BK181.out 3))
        go_ret
        exact ⟨by first | rfl | (simp [errW_none, errW_some] <;> rfl) | (simp [*, errW_none, errW_some] <;> rfl), by repeat (first | (with_reducible first | exact HB.out | apply below_alloc | apply pw_below_drewN | apply below_drew1 | refine below_set ?_ GE180.out | refine below_set ?_ GE181.out) | exact HB.out)⟩
    · rw [if_neg c4] at H
      have c4b0 : (a0_1 == a1_1) = false := beq_eq_false_iff_ne.mpr c4
      have c4b1 : (a0_1 != a1_1) = true := bne_iff_ne.mpr c4
      obtain rfl := Option.some.inj H
      go_enter Try.func69, Try.ntmps69
      go_wp2_with (first | ((with_reducible refine gate_dst (N := 2) rfl ?_); refine box_event ?hg (N := 2) ?hd (cs := #[.int .i64 a0_0, .int .i64 a0_1, .int .i64 a0_2, .int .i64 a0_3]) (t := 75) ?hr ?_; (case hd => rfl); (case hg => rfl); (case hr => first | (go_simp; done) | (go_simp; rfl)); intro gb180 hg w22 hbox hb; have n0_ := Aside0.mk (below_step (by repeat (first | (with_reducible first | exact HB.out | apply below_alloc | apply pw_below_drewN | apply below_drew1) | exact HB.out)) hb); have n1_ := Aside0.mk (hbox); have n2_ := Aside0.mk ((by rw [hg]; exact (below_size (by repeat (first | (with_reducible first | exact HB.out | apply below_alloc | apply pw_below_drewN | apply below_drew1) | exact HB.out))) : w.heap.size ≤ gb180)); have n3_ := Aside0.mk ((by rw [hg]; exact (below_size (by repeat (first | (with_reducible first | exact HB.out | apply below_alloc | apply pw_below_drewN | apply below_drew1) | exact HB.out))) : w.heap.size ≤ gb180)); clear HB; have HB := n0_; have BK180 := n1_; have GW180 := n2_; have GE180 := n3_; clear n0_ n1_ n2_ n3_; clear hb hbox hg) | ((with_reducible refine gate_dst (N := 3) rfl ?_); refine box_event ?hg (N := 3) ?hd (cs := #[.int .i64 a1_0, .int .i64 a1_1, .int .i64 a1_2, .int .i64 a1_3]) (t := 75) ?hr ?_; (case hd => rfl); (case hg => rfl); (case hr => first | (go_simp; done) | (go_simp; rfl)); intro gb181 hg w23 hbox hb; have n0_ := Aside0.mk (blk_below (g := gb180) (o := .cells #[.int .i64 a0_0, .int .i64 a0_1, .int .i64 a0_2, .int .i64 a0_3] 75 (0, 0)) (by (with_reducible repeat (first | refine blk_drewN ?_ _ | refine blk_drew ?_ | refine blk_alloc ?_ _)); exact BK180.out) hb); have n1_ := Aside0.mk (below_step (by repeat (first | (with_reducible first | exact HB.out | apply below_alloc | apply pw_below_drewN | apply below_drew1 | refine below_set ?_ GE180.out) | exact HB.out)) hb); have n2_ := Aside0.mk (hbox); have n3_ := Aside0.mk ((by rw [hg]; exact (below_size (by repeat (first | (with_reducible first | exact HB.out | apply below_alloc | apply pw_below_drewN | apply below_drew1 | refine below_set ?_ GE180.out) | exact HB.out))) : w.heap.size ≤ gb181)); have n4_ := Aside0.mk ((by rw [hg]; exact (below_size (by repeat (first | (with_reducible first | exact HB.out | apply below_alloc | apply pw_below_drewN | apply below_drew1 | refine below_set ?_ GE180.out) | exact HB.out))) : w.heap.size ≤ gb181)); have n5_ := Aside0.mk ((by rw [hg]; exact Nat.ne_of_lt (blk_lt (g := gb180) (o := .cells #[.int .i64 a0_0, .int .i64 a0_1, .int .i64 a0_2, .int .i64 a0_3] 75 (0, 0)) (by (with_reducible repeat (first | refine blk_drewN ?_ _ | refine blk_drew ?_ | refine blk_alloc ?_ _)); exact BK180.out)) : gb180 ≠ gb181)); have n6_ := Aside0.mk ((by rw [hg]; exact Nat.ne_of_gt (blk_lt (g := gb180) (o := .cells #[.int .i64 a0_0, .int .i64 a0_1, .int .i64 a0_2, .int .i64 a0_3] 75 (0, 0)) (by (with_reducible repeat (first | refine blk_drewN ?_ _ | refine blk_drew ?_ | refine blk_alloc ?_ _)); exact BK180.out)) : gb181 ≠ gb180)); clear BK180; clear HB; have BK180 := n0_; have HB := n1_; have BK181 := n2_; have GW181 := n3_; have GE181 := n4_; have NB180_181 := n5_; have NB181_180 := n6_; clear n0_ n1_ n2_ n3_ n4_ n5_ n6_; clear hb hbox hg; have hnb24 := NB180_181.out; have hnc24 := NB181_180.out; have hcz25_0 : w23.cell? ⟨gb180, 0, none⟩ = some (.int .i64 a0_0) := (blk_cell BK180.out 0).trans rfl; have hcz25_1 : w23.cell? ⟨gb180, 1, none⟩ = some (.int .i64 a0_1) := (blk_cell BK180.out 1).trans rfl; have hcz25_2 : w23.cell? ⟨gb180, 2, none⟩ = some (.int .i64 a0_2) := (blk_cell BK180.out 2).trans rfl; have hcz25_3 : w23.cell? ⟨gb180, 3, none⟩ = some (.int .i64 a0_3) := (blk_cell BK180.out 3).trans rfl; have hfz25_0 := blk_frozen BK180.out 0; have hfz25_1 := blk_frozen BK180.out 1; have hfz25_2 := blk_frozen BK180.out 2; have hfz25_3 := blk_frozen BK180.out 3; have hcz26_0 : w23.cell? ⟨gb181, 0, none⟩ = some (.int .i64 a1_0) := (blk_cell BK181.out 0).trans rfl; have hcz26_1 : w23.cell? ⟨gb181, 1, none⟩ = some (.int .i64 a1_1) := (blk_cell BK181.out 1).trans rfl; have hcz26_2 : w23.cell? ⟨gb181, 2, none⟩ = some (.int .i64 a1_2) := (blk_cell BK181.out 2).trans rfl; have hcz26_3 : w23.cell? ⟨gb181, 3, none⟩ = some (.int .i64 a1_3) := (blk_cell BK181.out 3).trans rfl; have hfz26_0 := blk_frozen BK181.out 0; have hfz26_1 := blk_frozen BK181.out 1; have hfz26_2 := blk_frozen BK181.out 2; have hfz26_3 := blk_frozen BK181.out 3))
      go_ret
      exact ⟨by first | rfl | (simp [errW_none, errW_some] <;> rfl) | (simp [*, errW_none, errW_some] <;> rfl), by repeat (first | (with_reducible first | exact HB.out | apply below_alloc | apply pw_below_drewN | apply below_drew1 | refine below_set ?_ GE180.out | refine below_set ?_ GE181.out) | exact HB.out)⟩
  · rw [if_neg c3] at H
    have c3b0 : (a0_0 == a1_0) = false := beq_eq_false_iff_ne.mpr c3
    have c3b1 : (a0_0 != a1_0) = true := bne_iff_ne.mpr c3
    obtain rfl := Option.some.inj H
    go_enter Try.func69, Try.ntmps69
    go_wp2_with (first | ((with_reducible refine gate_dst (N := 2) rfl ?_); refine box_event ?hg (N := 2) ?hd (cs := #[.int .i64 a0_0, .int .i64 a0_1, .int .i64 a0_2, .int .i64 a0_3]) (t := 75) ?hr ?_; (case hd => rfl); (case hg => rfl); (case hr => first | (go_simp; done) | (go_simp; rfl)); intro gb180 hg w27 hbox hb; have n0_ := Aside0.mk (below_step (by repeat (first | (with_reducible first | exact HB.out | apply below_alloc | apply pw_below_drewN | apply below_drew1) | exact HB.out)) hb); have n1_ := Aside0.mk (hbox); have n2_ := Aside0.mk ((by rw [hg]; exact (below_size (by repeat (first | (with_reducible first | exact HB.out | apply below_alloc | apply pw_below_drewN | apply below_drew1) | exact HB.out))) : w.heap.size ≤ gb180)); have n3_ := Aside0.mk ((by rw [hg]; exact (below_size (by repeat (first | (with_reducible first | exact HB.out | apply below_alloc | apply pw_below_drewN | apply below_drew1) | exact HB.out))) : w.heap.size ≤ gb180)); clear HB; have HB := n0_; have BK180 := n1_; have GW180 := n2_; have GE180 := n3_; clear n0_ n1_ n2_ n3_; clear hb hbox hg) | ((with_reducible refine gate_dst (N := 3) rfl ?_); refine box_event ?hg (N := 3) ?hd (cs := #[.int .i64 a1_0, .int .i64 a1_1, .int .i64 a1_2, .int .i64 a1_3]) (t := 75) ?hr ?_; (case hd => rfl); (case hg => rfl); (case hr => first | (go_simp; done) | (go_simp; rfl)); intro gb181 hg w28 hbox hb; have n0_ := Aside0.mk (blk_below (g := gb180) (o := .cells #[.int .i64 a0_0, .int .i64 a0_1, .int .i64 a0_2, .int .i64 a0_3] 75 (0, 0)) (by (with_reducible repeat (first | refine blk_drewN ?_ _ | refine blk_drew ?_ | refine blk_alloc ?_ _)); exact BK180.out) hb); have n1_ := Aside0.mk (below_step (by repeat (first | (with_reducible first | exact HB.out | apply below_alloc | apply pw_below_drewN | apply below_drew1 | refine below_set ?_ GE180.out) | exact HB.out)) hb); have n2_ := Aside0.mk (hbox); have n3_ := Aside0.mk ((by rw [hg]; exact (below_size (by repeat (first | (with_reducible first | exact HB.out | apply below_alloc | apply pw_below_drewN | apply below_drew1 | refine below_set ?_ GE180.out) | exact HB.out))) : w.heap.size ≤ gb181)); have n4_ := Aside0.mk ((by rw [hg]; exact (below_size (by repeat (first | (with_reducible first | exact HB.out | apply below_alloc | apply pw_below_drewN | apply below_drew1 | refine below_set ?_ GE180.out) | exact HB.out))) : w.heap.size ≤ gb181)); have n5_ := Aside0.mk ((by rw [hg]; exact Nat.ne_of_lt (blk_lt (g := gb180) (o := .cells #[.int .i64 a0_0, .int .i64 a0_1, .int .i64 a0_2, .int .i64 a0_3] 75 (0, 0)) (by (with_reducible repeat (first | refine blk_drewN ?_ _ | refine blk_drew ?_ | refine blk_alloc ?_ _)); exact BK180.out)) : gb180 ≠ gb181)); have n6_ := Aside0.mk ((by rw [hg]; exact Nat.ne_of_gt (blk_lt (g := gb180) (o := .cells #[.int .i64 a0_0, .int .i64 a0_1, .int .i64 a0_2, .int .i64 a0_3] 75 (0, 0)) (by (with_reducible repeat (first | refine blk_drewN ?_ _ | refine blk_drew ?_ | refine blk_alloc ?_ _)); exact BK180.out)) : gb181 ≠ gb180)); clear BK180; clear HB; have BK180 := n0_; have HB := n1_; have BK181 := n2_; have GW181 := n3_; have GE181 := n4_; have NB180_181 := n5_; have NB181_180 := n6_; clear n0_ n1_ n2_ n3_ n4_ n5_ n6_; clear hb hbox hg; have hnb29 := NB180_181.out; have hnc29 := NB181_180.out; have hcz30_0 : w28.cell? ⟨gb180, 0, none⟩ = some (.int .i64 a0_0) := (blk_cell BK180.out 0).trans rfl; have hcz30_1 : w28.cell? ⟨gb180, 1, none⟩ = some (.int .i64 a0_1) := (blk_cell BK180.out 1).trans rfl; have hcz30_2 : w28.cell? ⟨gb180, 2, none⟩ = some (.int .i64 a0_2) := (blk_cell BK180.out 2).trans rfl; have hcz30_3 : w28.cell? ⟨gb180, 3, none⟩ = some (.int .i64 a0_3) := (blk_cell BK180.out 3).trans rfl; have hfz30_0 := blk_frozen BK180.out 0; have hfz30_1 := blk_frozen BK180.out 1; have hfz30_2 := blk_frozen BK180.out 2; have hfz30_3 := blk_frozen BK180.out 3; have hcz31_0 : w28.cell? ⟨gb181, 0, none⟩ = some (.int .i64 a1_0) := (blk_cell BK181.out 0).trans rfl; have hcz31_1 : w28.cell? ⟨gb181, 1, none⟩ = some (.int .i64 a1_1) := (blk_cell BK181.out 1).trans rfl; have hcz31_2 : w28.cell? ⟨gb181, 2, none⟩ = some (.int .i64 a1_2) := (blk_cell BK181.out 2).trans rfl; have hcz31_3 : w28.cell? ⟨gb181, 3, none⟩ = some (.int .i64 a1_3) := (blk_cell BK181.out 3).trans rfl; have hfz31_0 := blk_frozen BK181.out 0; have hfz31_1 := blk_frozen BK181.out 1; have hfz31_2 := blk_frozen BK181.out 2; have hfz31_3 := blk_frozen BK181.out 3))
    go_ret
    exact ⟨by first | rfl | (simp [errW_none, errW_some] <;> rfl) | (simp [*, errW_none, errW_some] <;> rfl), by repeat (first | (with_reducible first | exact HB.out | apply below_alloc | apply pw_below_drewN | apply below_drew1 | refine below_set ?_ GE180.out | refine below_set ?_ GE181.out) | exact HB.out)⟩

end Go.Proofs.Ytncjjplpenjghaa.P

/-! ### Px25 -/
namespace Go.Proofs.Ytncjjplpenjghaa.P
open Go.RowKit Go.Proofs.YtncjjplpenjghaaW.PrintWords Go.Proofs.YtncjjplpenjghaaW.PrintLast Go.Proofs.YtncjjplpenjghaaW.PrintMore
attribute [local go_sem] max2_int min2_int max_two min_two max_three min_three max_four min_four   -- for this text's walks alone
set_option linter.unusedVariables false
set_option linter.unusedSimpArgs false

/-! ### laws_eqRectS: function 24 -/
def laws_eqRectS.l0 : Nat → List (S75) → List (S75) → Int → Option (Bool)
  | 0, _, _, _ => none
  | k + 1, x0, x1, x5 => if x5 < (x0.length : Int) then (if 0 ≤ x5 then (if x5 < (x1.length : Int) then ((laws_eqRect.f ((rd_T75 x0 x5).f0) ((rd_T75 x0 x5).f1) ((rd_T75 x0 x5).f2) ((rd_T75 x0 x5).f3) ((rd_T75 x1 x5).f0) ((rd_T75 x1 x5).f1) ((rd_T75 x1 x5).f2) ((rd_T75 x1 x5).f3)).bind fun t184 => (if t184 = true then (laws_eqRectS.l0 k x0 x1 (wrap64 (x5 + 1))) else (some false))) else (none)) else (none)) else (some true)
def laws_eqRectS.f (k : Nat) (l0 : List (S75)) (l1 : List (S75)) : Option (Bool) := if (l0.length : Int) = (l1.length : Int) then (laws_eqRectS.l0 k l0 l1 0) else (some false)
theorem laws_eqRectS.mono_l : ∀ k, (∀ y0 y1 y2, LeO (laws_eqRectS.l0 k y0 y1 y2) (laws_eqRectS.l0 (k + 1) y0 y1 y2))
  | 0 => fun _ _ _ r h => by simp [laws_eqRectS.l0] at h
  | k + 1 => by
    have ih0 := laws_eqRectS.mono_l k
    · intro y0 y1 y2
      unfold laws_eqRectS.l0
      repeat' first
      | (with_reducible exact ih0 _ _ _)
      | (with_reducible exact LeO.refl _)
      | (with_reducible exact LeO.none _)
      | (with_reducible refine LeO.ite ?_ ?_)
      | (with_reducible refine LeO.bind ?_ (fun _ => ?_))
      | exact ih0 _ _ _
      | exact LeO.none _
      | refine LeO.ite ?_ ?_
      | refine LeO.bind ?_ (fun _ => ?_)
theorem laws_eqRectS.mono : ∀ a0 a1 k, LeO (laws_eqRectS.f k a0 a1) (laws_eqRectS.f (k + 1) a0 a1) := by
  intro a0 a1 k
  have ih0 := laws_eqRectS.mono_l k
  unfold laws_eqRectS.f
  repeat' first
      | (with_reducible exact ih0 _ _ _)
      | (with_reducible exact LeO.refl _)
      | (with_reducible exact LeO.none _)
      | (with_reducible refine LeO.ite ?_ ?_)
      | (with_reducible refine LeO.bind ?_ (fun _ => ?_))
      | exact ih0 _ _ _
      | exact LeO.none _
      | refine LeO.ite ?_ ?_
      | refine LeO.bind ?_ (fun _ => ?_)
def laws_eqRectS.T6 : Bool × List (List Nat × List Nat) := (true, [([], []), ([], []), ([0, 1], [0, 1]), ([2], [2]), ([], []), ([], []), ([4, 5], [4, 5]), ([6], [6]), ([3, 7], [3, 7]), ([8], [8])])
def laws_eqRectS.B6 : List Nat := [0, 0, 3, 7, 0, 0, 48, 112, 255, 511]
theorem laws_eqRectS.tab6 : rtab .any (opsOf Try.f24 6) = laws_eqRectS.T6 := by kernel_rfl
theorem laws_eqRectS.bits6 : waitsOk laws_eqRectS.T6.2 laws_eqRectS.B6 = true := by kernel_rfl
set_option maxHeartbeats 8000000 in
set_option maxRecDepth 100000 in
theorem laws_eqRectS.calls (k : Nat) (A0 : Option Addr) (c0 : Nat) (l0 : List (S75)) (A1 : Option Addr) (c1 : Nat) (l1 : List (S75)) (r : Bool) (w : World) (hr0 : Kd.C k75 w A0 l0.length l0) (hc0 : l0.length ≤ c0) (hr1 : Kd.C k75 w A1 l1.length l1) (hc1 : l1.length ≤ c1) (h : laws_eqRectS.f k l0 l1 = some r) :
    Calls Try.prog 24 #[.slice A0 l0.length c0, .slice A1 l1.length c1] w fun e w' => e = .returned (.bool r) ∧ Below w.heap.size w w' := by
  have hu75 := Try.underlying75
  have HR0 := Aside0.mk hr0
  have HC0 := Aside0.mk hc0
  clear hr0 hc0
  have HR1 := Aside0.mk hr1
  have HC1 := Aside0.mk hc1
  clear hr1 hc1
  have HB := Aside0.mk (Below.refl w.heap.size w)
  have H : (if (l0.length : Int) = (l1.length : Int) then (laws_eqRectS.l0 k l0 l1 0) else (some false)) = some r := h
  clear h
  by_cases c3 : (l0.length : Int) = (l1.length : Int)
  · rw [if_pos c3] at H
    have c3b0 : ((l0.length : Int) == (l1.length : Int)) = true := beq_iff_eq.mpr c3
    have c3b1 : ((l0.length : Int) != (l1.length : Int)) = false := bne_eq_false_iff_eq.mpr c3
    have c3b2 : (l0.length == l1.length) = true := by first | simpa using c3 | (simp at c3 ⊢; omega)
    clear c3
    have H' := Aside0.mk H
    clear H
    go_enter Try.func24, Try.ntmps24
    go_wp2
    go_loopg [5] k (fun kq v5 w' => ∃ (x5_1 : Int), v5 = .int .i64 x5_1 ∧ Aside0 (laws_eqRectS.l0 kq l0 l1 x5_1 = some r) ∧ Aside0 (kq ≤ k) ∧ Aside0 (Below w.heap.size w w'))
    case atStart => exact ⟨(0), (by first | rfl | (simp; done) | (simp [*]; done)), H', ⟨Nat.le_refl _⟩, ⟨by repeat (first | (with_reducible first | exact HB.out | apply below_alloc | apply pw_below_drewN | apply below_drew1) | exact HB.out)⟩⟩
    case round =>
      clear H'
      try clear c1
      try clear c2
      try clear p2
      try clear c3
      try clear c3b0
      try clear c3b1
      try clear c3b2
      obtain ⟨x5_1, rfl, HA, HK1, HB⟩ := hrel
      cases gk with
      | zero => exact absurd HA.out (by simp [laws_eqRectS.l0])
      | succ k1 =>
        have H := HA.out
        clear HA
        simp only [laws_eqRectS.l0] at H
        by_cases c4 : x5_1 < (l0.length : Int)
        · rw [if_pos c4] at H
          have c4b0 : decide (x5_1 < (l0.length : Int)) = true := decide_eq_true c4
          clear c4
          by_cases c5 : 0 ≤ x5_1
          · rw [if_pos c5] at H
            have c5b0 : decide (0 ≤ x5_1) = true := decide_eq_true c5
            clear c5
            by_cases c6 : x5_1 < (l1.length : Int)
            · rw [if_pos c6] at H
              have c6b0 : decide (x5_1 < (l1.length : Int)) = true := decide_eq_true c6
              clear c6
              replace H := Option.bind_eq_some_iff.mp H
              obtain ⟨t184, A70, H⟩ := H
              replace H : (if t184 = true then (laws_eqRectS.l0 k1 l0 l1 (wrap64 (x5_1 + 1))) else (some false)) = some r := H
              have A7 := Aside0.mk A70
              clear A70
              by_cases c8 : t184 = true
              · subst c8
                have H1 : (laws_eqRectS.l0 k1 l0 l1 (wrap64 (x5_1 + 1))) = some r := by rw [if_pos rfl] at H; exact H
                clear H
                have H := H1
                clear H1
                have H' := Aside0.mk H
                clear H
                try go_wp2
                have n0_ := Aside0.mk (below_drew1 HB.out)
                clear HB
                have HB := n0_
                clear n0_
                have p182 : 0 ≤ (x5_1 : Int) := of_decide_eq_true (by first | (with_reducible assumption) | assumption)
                have q182 : x5_1 < (l0.length : Int) := of_decide_eq_true (by first | (with_reducible assumption) | assumption)
                obtain ⟨ad182, e182, hx182_0, hx182_1, hx182_2, hx182_3⟩ := at_T75 HR0.out x5_1 p182 q182
                have hw182_3 := hx182_3
                have hw182_2 := hx182_2
                have hw182_1 := hx182_1
                have hw182_0 := hx182_0
                cases e182
                replace hx182_0 := (HB.out.cell (World.block_lt_of_cell? _ _ hx182_0)).trans hx182_0
                replace hx182_1 := (HB.out.cell (World.block_lt_of_cell? _ _ hx182_1)).trans hx182_1
                replace hx182_2 := (HB.out.cell (World.block_lt_of_cell? _ _ hx182_2)).trans hx182_2
                replace hx182_3 := (HB.out.cell (World.block_lt_of_cell? _ _ hx182_3)).trans hx182_3
                replace p182 := eq_true p182
                replace q182 := eq_true q182
                have p183 : 0 ≤ (x5_1 : Int) := of_decide_eq_true (by first | (with_reducible assumption) | assumption)
                have q183 : x5_1 < (l1.length : Int) := of_decide_eq_true (by first | (with_reducible assumption) | assumption)
                obtain ⟨ad183, e183, hx183_0, hx183_1, hx183_2, hx183_3⟩ := at_T75 HR1.out x5_1 p183 q183
                have hw183_3 := hx183_3
                have hw183_2 := hx183_2
                have hw183_1 := hx183_1
                have hw183_0 := hx183_0
                cases e183
                replace hx183_0 := (HB.out.cell (World.block_lt_of_cell? _ _ hx183_0)).trans hx183_0
                replace hx183_1 := (HB.out.cell (World.block_lt_of_cell? _ _ hx183_1)).trans hx183_1
                replace hx183_2 := (HB.out.cell (World.block_lt_of_cell? _ _ hx183_2)).trans hx183_2
                replace hx183_3 := (HB.out.cell (World.block_lt_of_cell? _ _ hx183_3)).trans hx183_3
                replace p183 := eq_true p183
                replace q183 := eq_true q183
                refine start_ (n := 10) (S := fun w' => w'.cell? (ad182.add ((x5_1).toNat * 4)) = some (.int .i64 ((rd_T75 l0 x5_1).f0)) ∧ w'.cell? ⟨(ad182.add ((x5_1).toNat * 4)).block, (ad182.add ((x5_1).toNat * 4)).off + 1, none⟩ = some (.int .i64 ((rd_T75 l0 x5_1).f1)) ∧ w'.cell? ⟨(ad182.add ((x5_1).toNat * 4)).block, (ad182.add ((x5_1).toNat * 4)).off + 2, none⟩ = some (.int .i64 ((rd_T75 l0 x5_1).f2)) ∧ w'.cell? ⟨(ad182.add ((x5_1).toNat * 4)).block, (ad182.add ((x5_1).toNat * 4)).off + 3, none⟩ = some (.int .i64 ((rd_T75 l0 x5_1).f3)) ∧ w'.cell? (ad183.add ((x5_1).toNat * 4)) = some (.int .i64 ((rd_T75 l1 x5_1).f0)) ∧ w'.cell? ⟨(ad183.add ((x5_1).toNat * 4)).block, (ad183.add ((x5_1).toNat * 4)).off + 1, none⟩ = some (.int .i64 ((rd_T75 l1 x5_1).f1)) ∧ w'.cell? ⟨(ad183.add ((x5_1).toNat * 4)).block, (ad183.add ((x5_1).toNat * 4)).off + 2, none⟩ = some (.int .i64 ((rd_T75 l1 x5_1).f2)) ∧ w'.cell? ⟨(ad183.add ((x5_1).toNat * 4)).block, (ad183.add ((x5_1).toNat * 4)).off + 3, none⟩ = some (.int .i64 ((rd_T75 l1 x5_1).f3))) (ds := []) #[false, false, false, false, false, false, false, false, false, false] (by kernel_rfl) rfl rfl ⟨((HB.out.cell (World.block_lt_of_cell? _ _ hw182_0)).trans hw182_0), ((HB.out.cell (World.block_lt_of_cell? _ _ hw182_1)).trans hw182_1), ((HB.out.cell (World.block_lt_of_cell? _ _ hw182_2)).trans hw182_2), ((HB.out.cell (World.block_lt_of_cell? _ _ hw182_3)).trans hw182_3), ((HB.out.cell (World.block_lt_of_cell? _ _ hw183_0)).trans hw183_0), ((HB.out.cell (World.block_lt_of_cell? _ _ hw183_1)).trans hw183_1), ((HB.out.cell (World.block_lt_of_cell? _ _ hw183_2)).trans hw183_2), ((HB.out.cell (World.block_lt_of_cell? _ _ hw183_3)).trans hw183_3)⟩ (fun hHeld => ?_); refine with_tabW laws_eqRectS.tab6 laws_eqRectS.bits6 (fun HT_ HW_ => ?_)
                generalize wr.drew = w9 at HB hx182_0 hx182_1 hx182_2 hx182_3 hx183_0 hx183_1 hx183_2 hx183_3 hHeld ⊢
                refine pure_ (i := 0) (N := some 17) (v := ?_) (a' := ?_) #[true, false, false, false, false, false, false, false, false, false] rfl rfl (any_of HT_.out (by kernel_rfl)) (fun _ _ _ h => h) (Or.inl ⟨by rfl, ?_⟩) ?_ ?_
                rotate_left
                · intro w'
                  go_simp
                  with_reducible rfl
                rotate_left
                · simp only [Act.put, List.setIfInBounds_toArray, List.set_cons_zero, List.set_cons_succ, i64_w, i32_w]
                  rfl
                refine pure_ (i := 1) (N := some 18) (v := ?_) (a' := ?_) #[true, true, false, false, false, false, false, false, false, false] rfl rfl (any_of HT_.out (by kernel_rfl)) (fun _ _ _ h => h) (Or.inl ⟨by rfl, ?_⟩) ?_ ?_
                rotate_left
                · intro w'
                  go_simp
                  with_reducible rfl
                rotate_left
                · simp only [Act.put, List.setIfInBounds_toArray, List.set_cons_zero, List.set_cons_succ, i64_w, i32_w]
                  rfl
                refine pure_ (i := 2) (N := some 19) (v := ?_) (a' := ?_) #[true, true, true, false, false, false, false, false, false, false] rfl rfl (any_of HT_.out (by kernel_rfl)) (fun _ _ _ h => h) (Or.inl ⟨by rfl, ?_⟩) ?_ ?_
                rotate_left
                · intro w'
                  go_simp
                  with_reducible rfl
                rotate_left
                · simp only [Act.put, List.setIfInBounds_toArray, List.set_cons_zero, List.set_cons_succ, i64_w, i32_w]
                  rfl
                refine pure_ (i := 4) (N := some 21) (v := ?_) (a' := ?_) #[true, true, true, false, true, false, false, false, false, false] rfl rfl (any_of HT_.out (by kernel_rfl)) (fun _ _ _ h => h) (Or.inl ⟨by rfl, ?_⟩) ?_ ?_
                rotate_left
                · intro w'
                  go_simp
                  with_reducible rfl
                rotate_left
                · simp only [Act.put, List.setIfInBounds_toArray, List.set_cons_zero, List.set_cons_succ, i64_w, i32_w]
                  rfl
                refine pure_ (i := 5) (N := some 22) (v := ?_) (a' := ?_) #[true, true, true, false, true, true, false, false, false, false] rfl rfl (any_of HT_.out (by kernel_rfl)) (fun _ _ _ h => h) (Or.inl ⟨by rfl, ?_⟩) ?_ ?_
                rotate_left
                · intro w'
                  go_simp
                  with_reducible rfl
                rotate_left
                · simp only [Act.put, List.setIfInBounds_toArray, List.set_cons_zero, List.set_cons_succ, i64_w, i32_w]
                  rfl
                refine pure_ (i := 6) (N := some 23) (v := ?_) (a' := ?_) #[true, true, true, false, true, true, true, false, false, false] rfl rfl (any_of HT_.out (by kernel_rfl)) (fun _ _ _ h => h) (Or.inl ⟨by rfl, ?_⟩) ?_ ?_
                rotate_left
                · intro w'
                  go_simp
                  with_reducible rfl
                rotate_left
                · simp only [Act.put, List.setIfInBounds_toArray, List.set_cons_zero, List.set_cons_succ, i64_w, i32_w]
                  rfl
                refine take_ (i := 3) (N := some 20) (v := ?_) (a' := ?_) #[true, true, true, true, true, true, true, false, false, false] rfl rfl (take_ofW HT_.out HW_.out (by kernel_rfl)) (fun _ _ _ h => h) (Or.inl ⟨by rfl, ?_⟩) hHeld ?_ ?_
                rotate_left
                · rintro w' ⟨s0, s1, s2, s3, s4, s5, s6, s7⟩
                  go_simp
                  with_reducible rfl
                rotate_left
                · simp only [Act.put, List.setIfInBounds_toArray, List.set_cons_zero, List.set_cons_succ, i64_w, i32_w]
                  rfl
                refine take_ (i := 7) (N := some 24) (v := ?_) (a' := ?_) #[true, true, true, true, true, true, true, true, false, false] rfl rfl (take_ofW HT_.out HW_.out (by kernel_rfl)) (fun _ _ _ h => h) (Or.inl ⟨by rfl, ?_⟩) hHeld ?_ ?_
                rotate_left
                · rintro w' ⟨s0, s1, s2, s3, s4, s5, s6, s7⟩
                  go_simp
                  with_reducible rfl
                rotate_left
                · simp only [Act.put, List.setIfInBounds_toArray, List.set_cons_zero, List.set_cons_succ, i64_w, i32_w]
                  rfl
                refine one_ (i := 8) (N := some 25) #[true, true, true, true, true, true, true, true, true, false] rfl rfl (one_of HT_.out (by kernel_rfl)) (by decide) (fun K hK => ?_)
                refine goes_ Try.func69 (by kernel_rfl) rfl #[.agg #[.int .i64 ((rd_T75 l0 x5_1).f0), .int .i64 ((rd_T75 l0 x5_1).f1), .int .i64 ((rd_T75 l0 x5_1).f2), .int .i64 ((rd_T75 l0 x5_1).f3)], .agg #[.int .i64 ((rd_T75 l1 x5_1).f0), .int .i64 ((rd_T75 l1 x5_1).f1), .int .i64 ((rd_T75 l1 x5_1).f2), .int .i64 ((rd_T75 l1 x5_1).f3)]] (by rfl) rfl rfl (by (try simp only [List.map_toArray, List.map_cons, List.map_nil]); first | done | rfl | (simp only [List.length_drop, List.length_take]; rfl)) ?_
                with_reducible refine (laws_eqRect.calls ((rd_T75 l0 x5_1).f0) ((rd_T75 l0 x5_1).f1) ((rd_T75 l0 x5_1).f2) ((rd_T75 l0 x5_1).f3) ((rd_T75 l1 x5_1).f0) ((rd_T75 l1 x5_1).f1) ((rd_T75 l1 x5_1).f2) ((rd_T75 l1 x5_1).f3) true _ A7.out).mono ?_
                rintro e w10 ⟨rfl, hb⟩
                refine ⟨_, rfl, ?_⟩
                have n0_ := Aside0.mk (below_step (by repeat (first | (with_reducible first | exact HB.out | apply below_alloc | apply pw_below_drewN | apply below_drew1) | exact HB.out)) hb)
                clear HB
                have HB := n0_
                clear n0_
                (try clear hb)
                (try clear hb2)
                (try clear hk)
                (try clear hi)
                refine hK.out _ _ ⟨((HB.out.cell (World.block_lt_of_cell? _ _ hw182_0)).trans hw182_0), ((HB.out.cell (World.block_lt_of_cell? _ _ hw182_1)).trans hw182_1), ((HB.out.cell (World.block_lt_of_cell? _ _ hw182_2)).trans hw182_2), ((HB.out.cell (World.block_lt_of_cell? _ _ hw182_3)).trans hw182_3), ((HB.out.cell (World.block_lt_of_cell? _ _ hw183_0)).trans hw183_0), ((HB.out.cell (World.block_lt_of_cell? _ _ hw183_1)).trans hw183_1), ((HB.out.cell (World.block_lt_of_cell? _ _ hw183_2)).trans hw183_2), ((HB.out.cell (World.block_lt_of_cell? _ _ hw183_3)).trans hw183_3)⟩ (fun hHeld => ?_)
                clear hK K
                refine norm_ (a' := ?_) ?_ ?_
                rotate_left
                · show Act.put _ (some 25) _ = _
                  simp only [Act.put, List.setIfInBounds_toArray, List.set_cons_zero, List.set_cons_succ, i64_w, i32_w]
                  rfl
                refine pure_ (i := 9) (N := some 26) (v := ?_) (a' := ?_) #[true, true, true, true, true, true, true, true, true, true] rfl rfl (any_of HT_.out (by kernel_rfl)) (fun _ _ _ h => h) (Or.inl ⟨by rfl, ?_⟩) ?_ ?_
                rotate_left
                · intro w'
                  go_simp
                  with_reducible rfl
                rotate_left
                · simp only [Act.put, List.setIfInBounds_toArray, List.set_cons_zero, List.set_cons_succ, i64_w, i32_w]
                  rfl
                refine done_ (done_of HT_.out (by kernel_rfl)) ?_
                try go_wp2
                go_roundg k1
                case measure => have := HK1.out; omega
                case rel => exact ⟨(wrap64 (x5_1 + 1)), (by first | rfl | (simp; done) | (simp [*]; done)), H', ⟨by have := HK1.out; omega⟩, ⟨by repeat (first | (with_reducible first | exact HB.out | apply below_alloc | apply pw_below_drewN | apply below_drew1) | exact HB.out)⟩⟩
              · replace c8 := Bool.eq_false_iff.mpr c8
                subst c8
                have H1 : (some false) = some r := by rw [if_neg (show ¬ (false = true) by decide)] at H; exact H
                clear H
                have H := H1
                clear H1
                obtain rfl := Option.some.inj H
                try go_wp2
                have n0_ := Aside0.mk (below_drew1 HB.out)
                clear HB
                have HB := n0_
                clear n0_
                have p182 : 0 ≤ (x5_1 : Int) := of_decide_eq_true (by first | (with_reducible assumption) | assumption)
                have q182 : x5_1 < (l0.length : Int) := of_decide_eq_true (by first | (with_reducible assumption) | assumption)
                obtain ⟨ad182, e182, hx182_0, hx182_1, hx182_2, hx182_3⟩ := at_T75 HR0.out x5_1 p182 q182
                have hw182_3 := hx182_3
                have hw182_2 := hx182_2
                have hw182_1 := hx182_1
                have hw182_0 := hx182_0
                cases e182
                replace hx182_0 := (HB.out.cell (World.block_lt_of_cell? _ _ hx182_0)).trans hx182_0
                replace hx182_1 := (HB.out.cell (World.block_lt_of_cell? _ _ hx182_1)).trans hx182_1
                replace hx182_2 := (HB.out.cell (World.block_lt_of_cell? _ _ hx182_2)).trans hx182_2
                replace hx182_3 := (HB.out.cell (World.block_lt_of_cell? _ _ hx182_3)).trans hx182_3
                replace p182 := eq_true p182
                replace q182 := eq_true q182
                have p183 : 0 ≤ (x5_1 : Int) := of_decide_eq_true (by first | (with_reducible assumption) | assumption)
                have q183 : x5_1 < (l1.length : Int) := of_decide_eq_true (by first | (with_reducible assumption) | assumption)
                obtain ⟨ad183, e183, hx183_0, hx183_1, hx183_2, hx183_3⟩ := at_T75 HR1.out x5_1 p183 q183
                have hw183_3 := hx183_3
                have hw183_2 := hx183_2
                have hw183_1 := hx183_1
                have hw183_0 := hx183_0
                cases e183
                replace hx183_0 := (HB.out.cell (World.block_lt_of_cell? _ _ hx183_0)).trans hx183_0
                replace hx183_1 := (HB.out.cell (World.block_lt_of_cell? _ _ hx183_1)).trans hx183_1
                replace hx183_2 := (HB.out.cell (World.block_lt_of_cell? _ _ hx183_2)).trans hx183_2
                replace hx183_3 := (HB.out.cell (World.block_lt_of_cell? _ _ hx183_3)).trans hx183_3
                replace p183 := eq_true p183
                replace q183 := eq_true q183
                refine start_ (n := 10) (S := fun w' => w'.cell? (ad182.add ((x5_1).toNat * 4)) = some (.int .i64 ((rd_T75 l0 x5_1).f0)) ∧ w'.cell? ⟨(ad182.add ((x5_1).toNat * 4)).block, (ad182.add ((x5_1).toNat * 4)).off + 1, none⟩ = some (.int .i64 ((rd_T75 l0 x5_1).f1)) ∧ w'.cell? ⟨(ad182.add ((x5_1).toNat * 4)).block, (ad182.add ((x5_1).toNat * 4)).off + 2, none⟩ = some (.int .i64 ((rd_T75 l0 x5_1).f2)) ∧ w'.cell? ⟨(ad182.add ((x5_1).toNat * 4)).block, (ad182.add ((x5_1).toNat * 4)).off + 3, none⟩ = some (.int .i64 ((rd_T75 l0 x5_1).f3)) ∧ w'.cell? (ad183.add ((x5_1).toNat * 4)) = some (.int .i64 ((rd_T75 l1 x5_1).f0)) ∧ w'.cell? ⟨(ad183.add ((x5_1).toNat * 4)).block, (ad183.add ((x5_1).toNat * 4)).off + 1, none⟩ = some (.int .i64 ((rd_T75 l1 x5_1).f1)) ∧ w'.cell? ⟨(ad183.add ((x5_1).toNat * 4)).block, (ad183.add ((x5_1).toNat * 4)).off + 2, none⟩ = some (.int .i64 ((rd_T75 l1 x5_1).f2)) ∧ w'.cell? ⟨(ad183.add ((x5_1).toNat * 4)).block, (ad183.add ((x5_1).toNat * 4)).off + 3, none⟩ = some (.int .i64 ((rd_T75 l1 x5_1).f3))) (ds := []) #[false, false, false, false, false, false, false, false, false, false] (by kernel_rfl) rfl rfl ⟨((HB.out.cell (World.block_lt_of_cell? _ _ hw182_0)).trans hw182_0), ((HB.out.cell (World.block_lt_of_cell? _ _ hw182_1)).trans hw182_1), ((HB.out.cell (World.block_lt_of_cell? _ _ hw182_2)).trans hw182_2), ((HB.out.cell (World.block_lt_of_cell? _ _ hw182_3)).trans hw182_3), ((HB.out.cell (World.block_lt_of_cell? _ _ hw183_0)).trans hw183_0), ((HB.out.cell (World.block_lt_of_cell? _ _ hw183_1)).trans hw183_1), ((HB.out.cell (World.block_lt_of_cell? _ _ hw183_2)).trans hw183_2), ((HB.out.cell (World.block_lt_of_cell? _ _ hw183_3)).trans hw183_3)⟩ (fun hHeld => ?_); refine with_tabW laws_eqRectS.tab6 laws_eqRectS.bits6 (fun HT_ HW_ => ?_)
                generalize wr.drew = w11 at HB hx182_0 hx182_1 hx182_2 hx182_3 hx183_0 hx183_1 hx183_2 hx183_3 hHeld ⊢
                refine pure_ (i := 0) (N := some 17) (v := ?_) (a' := ?_) #[true, false, false, false, false, false, false, false, false, false] rfl rfl (any_of HT_.out (by kernel_rfl)) (fun _ _ _ h => h) (Or.inl ⟨by rfl, ?_⟩) ?_ ?_
                rotate_left
                · intro w'
                  go_simp
                  with_reducible rfl
                rotate_left
                · simp only [Act.put, List.setIfInBounds_toArray, List.set_cons_zero, List.set_cons_succ, i64_w, i32_w]
                  rfl
                refine pure_ (i := 1) (N := some 18) (v := ?_) (a' := ?_) #[true, true, false, false, false, false, false, false, false, false] rfl rfl (any_of HT_.out (by kernel_rfl)) (fun _ _ _ h => h) (Or.inl ⟨by rfl, ?_⟩) ?_ ?_
                rotate_left
                · intro w'
                  go_simp
                  with_reducible rfl
                rotate_left
                · simp only [Act.put, List.setIfInBounds_toArray, List.set_cons_zero, List.set_cons_succ, i64_w, i32_w]
                  rfl
                refine pure_ (i := 2) (N := some 19) (v := ?_) (a' := ?_) #[true, true, true, false, false, false, false, false, false, false] rfl rfl (any_of HT_.out (by kernel_rfl)) (fun _ _ _ h => h) (Or.inl ⟨by rfl, ?_⟩) ?_ ?_
                rotate_left
                · intro w'
                  go_simp
                  with_reducible rfl
                rotate_left
                · simp only [Act.put, List.setIfInBounds_toArray, List.set_cons_zero, List.set_cons_succ, i64_w, i32_w]
                  rfl
                refine pure_ (i := 4) (N := some 21) (v := ?_) (a' := ?_) #[true, true, true, false, true, false, false, false, false, false] rfl rfl (any_of HT_.out (by kernel_rfl)) (fun _ _ _ h => h) (Or.inl ⟨by rfl, ?_⟩) ?_ ?_
                rotate_left
                · intro w'
                  go_simp
                  with_reducible rfl
                rotate_left
                · simp only [Act.put, List.setIfInBounds_toArray, List.set_cons_zero, List.set_cons_succ, i64_w, i32_w]
                  rfl
                refine pure_ (i := 5) (N := some 22) (v := ?_) (a' := ?_) #[true, true, true, false, true, true, false, false, false, false] rfl rfl (any_of HT_.out (by kernel_rfl)) (fun _ _ _ h => h) (Or.inl ⟨by rfl, ?_⟩) ?_ ?_
                rotate_left
                · intro w'
                  go_simp
                  with_reducible rfl
                rotate_left
                · simp only [Act.put, List.setIfInBounds_toArray, List.set_cons_zero, List.set_cons_succ, i64_w, i32_w]
                  rfl
                refine pure_ (i := 6) (N := some 23) (v := ?_) (a' := ?_) #[true, true, true, false, true, true, true, false, false, false] rfl rfl (any_of HT_.out (by kernel_rfl)) (fun _ _ _ h => h) (Or.inl ⟨by rfl, ?_⟩) ?_ ?_
                rotate_left
                · intro w'
                  go_simp
                  with_reducible rfl
                rotate_left
                · simp only [Act.put, List.setIfInBounds_toArray, List.set_cons_zero, List.set_cons_succ, i64_w, i32_w]
                  rfl
                refine take_ (i := 3) (N := some 20) (v := ?_) (a' := ?_) #[true, true, true, true, true, true, true, false, false, false] rfl rfl (take_ofW HT_.out HW_.out (by kernel_rfl)) (fun _ _ _ h => h) (Or.inl ⟨by rfl, ?_⟩) hHeld ?_ ?_
                rotate_left
                · rintro w' ⟨s0, s1, s2, s3, s4, s5, s6, s7⟩
                  go_simp
                  with_reducible rfl
                rotate_left
                · simp only [Act.put, List.setIfInBounds_toArray, List.set_cons_zero, List.set_cons_succ, i64_w, i32_w]
                  rfl
                refine take_ (i := 7) (N := some 24) (v := ?_) (a' := ?_) #[true, true, true, true, true, true, true, true, false, false] rfl rfl (take_ofW HT_.out HW_.out (by kernel_rfl)) (fun _ _ _ h => h) (Or.inl ⟨by rfl, ?_⟩) hHeld ?_ ?_
                rotate_left
                · rintro w' ⟨s0, s1, s2, s3, s4, s5, s6, s7⟩
                  go_simp
                  with_reducible rfl
                rotate_left
                · simp only [Act.put, List.setIfInBounds_toArray, List.set_cons_zero, List.set_cons_succ, i64_w, i32_w]
                  rfl
                refine one_ (i := 8) (N := some 25) #[true, true, true, true, true, true, true, true, true, false] rfl rfl (one_of HT_.out (by kernel_rfl)) (by decide) (fun K hK => ?_)
                refine goes_ Try.func69 (by kernel_rfl) rfl #[.agg #[.int .i64 ((rd_T75 l0 x5_1).f0), .int .i64 ((rd_T75 l0 x5_1).f1), .int .i64 ((rd_T75 l0 x5_1).f2), .int .i64 ((rd_T75 l0 x5_1).f3)], .agg #[.int .i64 ((rd_T75 l1 x5_1).f0), .int .i64 ((rd_T75 l1 x5_1).f1), .int .i64 ((rd_T75 l1 x5_1).f2), .int .i64 ((rd_T75 l1 x5_1).f3)]] (by rfl) rfl rfl (by (try simp only [List.map_toArray, List.map_cons, List.map_nil]); first | done | rfl | (simp only [List.length_drop, List.length_take]; rfl)) ?_
                with_reducible refine (laws_eqRect.calls ((rd_T75 l0 x5_1).f0) ((rd_T75 l0 x5_1).f1) ((rd_T75 l0 x5_1).f2) ((rd_T75 l0 x5_1).f3) ((rd_T75 l1 x5_1).f0) ((rd_T75 l1 x5_1).f1) ((rd_T75 l1 x5_1).f2) ((rd_T75 l1 x5_1).f3) false _ A7.out).mono ?_
                rintro e w12 ⟨rfl, hb⟩
                refine ⟨_, rfl, ?_⟩
                have n0_ := Aside0.mk (below_step (by repeat (first | (with_reducible first | exact HB.out | apply below_alloc | apply pw_below_drewN | apply below_drew1) | exact HB.out)) hb)
                clear HB
                have HB := n0_
                clear n0_
                (try clear hb)
                (try clear hb2)
                (try clear hk)
                (try clear hi)
                refine hK.out _ _ ⟨((HB.out.cell (World.block_lt_of_cell? _ _ hw182_0)).trans hw182_0), ((HB.out.cell (World.block_lt_of_cell? _ _ hw182_1)).trans hw182_1), ((HB.out.cell (World.block_lt_of_cell? _ _ hw182_2)).trans hw182_2), ((HB.out.cell (World.block_lt_of_cell? _ _ hw182_3)).trans hw182_3), ((HB.out.cell (World.block_lt_of_cell? _ _ hw183_0)).trans hw183_0), ((HB.out.cell (World.block_lt_of_cell? _ _ hw183_1)).trans hw183_1), ((HB.out.cell (World.block_lt_of_cell? _ _ hw183_2)).trans hw183_2), ((HB.out.cell (World.block_lt_of_cell? _ _ hw183_3)).trans hw183_3)⟩ (fun hHeld => ?_)
                clear hK K
                refine norm_ (a' := ?_) ?_ ?_
                rotate_left
                · show Act.put _ (some 25) _ = _
                  simp only [Act.put, List.setIfInBounds_toArray, List.set_cons_zero, List.set_cons_succ, i64_w, i32_w]
                  rfl
                refine pure_ (i := 9) (N := some 26) (v := ?_) (a' := ?_) #[true, true, true, true, true, true, true, true, true, true] rfl rfl (any_of HT_.out (by kernel_rfl)) (fun _ _ _ h => h) (Or.inl ⟨by rfl, ?_⟩) ?_ ?_
                rotate_left
                · intro w'
                  go_simp
                  with_reducible rfl
                rotate_left
                · simp only [Act.put, List.setIfInBounds_toArray, List.set_cons_zero, List.set_cons_succ, i64_w, i32_w]
                  rfl
                refine done_ (done_of HT_.out (by kernel_rfl)) ?_
                try go_wp2
                go_ret
                exact ⟨by first | rfl | (simp [errW_none, errW_some] <;> rfl) | (simp [*, errW_none, errW_some] <;> rfl), by repeat (first | (with_reducible first | exact HB.out | apply below_alloc | apply pw_below_drewN | apply below_drew1) | exact HB.out)⟩
            · rw [if_neg c6] at H
              exact absurd H (by simp)
          · rw [if_neg c5] at H
            exact absurd H (by simp)
        · rw [if_neg c4] at H
          have c4b0 : decide (x5_1 < (l0.length : Int)) = false := decide_eq_false c4
          clear c4
          obtain rfl := Option.some.inj H
          go_wp2
          go_ret
          exact ⟨by first | rfl | (simp [errW_none, errW_some] <;> rfl) | (simp [*, errW_none, errW_some] <;> rfl), by repeat (first | (with_reducible first | exact HB.out | apply below_alloc | apply pw_below_drewN | apply below_drew1) | exact HB.out)⟩
  · rw [if_neg c3] at H
    have c3b0 : ((l0.length : Int) == (l1.length : Int)) = false := beq_eq_false_iff_ne.mpr c3
    have c3b1 : ((l0.length : Int) != (l1.length : Int)) = true := bne_iff_ne.mpr c3
    have c3b2 : (l0.length == l1.length) = false := by first | simpa using c3 | (simp at c3 ⊢; omega)
    obtain rfl := Option.some.inj H
    go_enter Try.func24, Try.ntmps24
    go_wp2
    go_ret
    exact ⟨by first | rfl | (simp [errW_none, errW_some] <;> rfl) | (simp [*, errW_none, errW_some] <;> rfl), by repeat (first | (with_reducible first | exact HB.out | apply below_alloc | apply pw_below_drewN | apply below_drew1) | exact HB.out)⟩

end Go.Proofs.Ytncjjplpenjghaa.P

/-! ### Px26 -/
namespace Go.Proofs.Ytncjjplpenjghaa.P
open Go.RowKit Go.Proofs.YtncjjplpenjghaaW.PrintWords Go.Proofs.YtncjjplpenjghaaW.PrintLast Go.Proofs.YtncjjplpenjghaaW.PrintMore
attribute [local go_sem] max2_int min2_int max_two min_two max_three min_three max_four min_four   -- for this text's walks alone
set_option linter.unusedVariables false
set_option linter.unusedSimpArgs false

/-! ### laws_eqRectSS: function 19 -/
def laws_eqRectSS.l0 : Nat → List (List (S75)) → List (List (S75)) → Int → Option (Bool)
  | 0, _, _, _ => none
  | k + 1, x0, x1, x5 => if x5 < (x0.length : Int) then (if 0 ≤ x5 then (if x5 < (x1.length : Int) then ((laws_eqRectS.f k (rd_L5 x0 x5) (rd_L5 x1 x5)).bind fun t187 => (if t187 = true then (laws_eqRectSS.l0 k x0 x1 (wrap64 (x5 + 1))) else (some false))) else (none)) else (none)) else (some true)
def laws_eqRectSS.f (k : Nat) (l0 : List (List (S75))) (l1 : List (List (S75))) : Option (Bool) := if (l0.length : Int) = (l1.length : Int) then (laws_eqRectSS.l0 k l0 l1 0) else (some false)
theorem laws_eqRectSS.mono_l : ∀ k, (∀ y0 y1 y2, LeO (laws_eqRectSS.l0 k y0 y1 y2) (laws_eqRectSS.l0 (k + 1) y0 y1 y2))
  | 0 => fun _ _ _ r h => by simp [laws_eqRectSS.l0] at h
  | k + 1 => by
    have ih0 := laws_eqRectSS.mono_l k
    · intro y0 y1 y2
      unfold laws_eqRectSS.l0
      repeat' first
      | (with_reducible exact ih0 _ _ _)
      | (with_reducible exact laws_eqRectS.mono _ _ _)
      | (with_reducible exact LeO.refl _)
      | (with_reducible exact LeO.none _)
      | (with_reducible refine LeO.ite ?_ ?_)
      | (with_reducible refine LeO.bind ?_ (fun _ => ?_))
      | exact ih0 _ _ _
      | exact laws_eqRectS.mono _ _ _
      | exact LeO.none _
      | refine LeO.ite ?_ ?_
      | refine LeO.bind ?_ (fun _ => ?_)
theorem laws_eqRectSS.mono : ∀ a0 a1 k, LeO (laws_eqRectSS.f k a0 a1) (laws_eqRectSS.f (k + 1) a0 a1) := by
  intro a0 a1 k
  have ih0 := laws_eqRectSS.mono_l k
  unfold laws_eqRectSS.f
  repeat' first
      | (with_reducible exact ih0 _ _ _)
      | (with_reducible exact laws_eqRectS.mono _ _ _)
      | (with_reducible exact LeO.refl _)
      | (with_reducible exact LeO.none _)
      | (with_reducible refine LeO.ite ?_ ?_)
      | (with_reducible refine LeO.bind ?_ (fun _ => ?_))
      | exact ih0 _ _ _
      | exact laws_eqRectS.mono _ _ _
      | exact LeO.none _
      | refine LeO.ite ?_ ?_
      | refine LeO.bind ?_ (fun _ => ?_)
def laws_eqRectSS.T6 : Bool × List (List Nat × List Nat) := (true, [([], []), ([], []), ([0, 1], [0, 1]), ([2], [2]), ([], []), ([], []), ([4, 5], [4, 5]), ([6], [6]), ([3, 7], [3, 7]), ([8], [8])])
def laws_eqRectSS.B6 : List Nat := [0, 0, 3, 7, 0, 0, 48, 112, 255, 511]
theorem laws_eqRectSS.tab6 : rtab .any (opsOf Try.f19 6) = laws_eqRectSS.T6 := by kernel_rfl
theorem laws_eqRectSS.bits6 : waitsOk laws_eqRectSS.T6.2 laws_eqRectSS.B6 = true := by kernel_rfl
set_option maxHeartbeats 8000000 in
set_option maxRecDepth 100000 in
theorem laws_eqRectSS.calls (k : Nat) (A0 : Option Addr) (c0 : Nat) (l0 : List (List (S75))) (A1 : Option Addr) (c1 : Nat) (l1 : List (List (S75))) (r : Bool) (w : World) (hr0 : Kd.C (Kd.slice 75 k75) w A0 l0.length l0) (hc0 : l0.length ≤ c0) (hr1 : Kd.C (Kd.slice 75 k75) w A1 l1.length l1) (hc1 : l1.length ≤ c1) (h : laws_eqRectSS.f k l0 l1 = some r) :
    Calls Try.prog 19 #[.slice A0 l0.length c0, .slice A1 l1.length c1] w fun e w' => e = .returned (.bool r) ∧ Below w.heap.size w w' := by
  have HR0 := Aside0.mk hr0
  have HC0 := Aside0.mk hc0
  clear hr0 hc0
  have HR1 := Aside0.mk hr1
  have HC1 := Aside0.mk hc1
  clear hr1 hc1
  have HB := Aside0.mk (Below.refl w.heap.size w)
  have H : (if (l0.length : Int) = (l1.length : Int) then (laws_eqRectSS.l0 k l0 l1 0) else (some false)) = some r := h
  clear h
  by_cases c3 : (l0.length : Int) = (l1.length : Int)
  · rw [if_pos c3] at H
    have c3b0 : ((l0.length : Int) == (l1.length : Int)) = true := beq_iff_eq.mpr c3
    have c3b1 : ((l0.length : Int) != (l1.length : Int)) = false := bne_eq_false_iff_eq.mpr c3
    have c3b2 : (l0.length == l1.length) = true := by first | simpa using c3 | (simp at c3 ⊢; omega)
    clear c3
    have H' := Aside0.mk H
    clear H
    go_enter Try.func19, Try.ntmps19
    go_wp2
    go_loopg [5] k (fun kq v5 w' => ∃ (x5_1 : Int), v5 = .int .i64 x5_1 ∧ Aside0 (laws_eqRectSS.l0 kq l0 l1 x5_1 = some r) ∧ Aside0 (kq ≤ k) ∧ Aside0 (Below w.heap.size w w'))
    case atStart => exact ⟨(0), (by first | rfl | (simp; done) | (simp [*]; done)), H', ⟨Nat.le_refl _⟩, ⟨by repeat (first | (with_reducible first | exact HB.out | apply below_alloc | apply pw_below_drewN | apply below_drew1) | exact HB.out)⟩⟩
    case round =>
      clear H'
      try clear c1
      try clear p2
      try clear c3
      try clear c3b0
      try clear c3b1
      try clear c3b2
      obtain ⟨x5_1, rfl, HA, HK1, HB⟩ := hrel
      cases gk with
      | zero => exact absurd HA.out (by simp [laws_eqRectSS.l0])
      | succ k1 =>
        have H := HA.out
        clear HA
        simp only [laws_eqRectSS.l0] at H
        by_cases c4 : x5_1 < (l0.length : Int)
        · rw [if_pos c4] at H
          have c4b0 : decide (x5_1 < (l0.length : Int)) = true := decide_eq_true c4
          clear c4
          by_cases c5 : 0 ≤ x5_1
          · rw [if_pos c5] at H
            have c5b0 : decide (0 ≤ x5_1) = true := decide_eq_true c5
            clear c5
            by_cases c6 : x5_1 < (l1.length : Int)
            · rw [if_pos c6] at H
              have c6b0 : decide (x5_1 < (l1.length : Int)) = true := decide_eq_true c6
              clear c6
              replace H := Option.bind_eq_some_iff.mp H
              obtain ⟨t187, A70, H⟩ := H
              replace H : (if t187 = true then (laws_eqRectSS.l0 k1 l0 l1 (wrap64 (x5_1 + 1))) else (some false)) = some r := H
              have A7 := Aside0.mk A70
              clear A70
              by_cases c8 : t187 = true
              · subst c8
                have H1 : (laws_eqRectSS.l0 k1 l0 l1 (wrap64 (x5_1 + 1))) = some r := by rw [if_pos rfl] at H; exact H
                clear H
                have H := H1
                clear H1
                have H' := Aside0.mk H
                clear H
                try go_wp2
                have n0_ := Aside0.mk (below_drew1 HB.out)
                clear HB
                have HB := n0_
                clear n0_
                have p185 : 0 ≤ (x5_1 : Int) := of_decide_eq_true (by first | (with_reducible assumption) | assumption)
                have q185 : x5_1 < (l0.length : Int) := of_decide_eq_true (by first | (with_reducible assumption) | assumption)
                obtain ⟨ad185, A185_0, c185_0, e185, hx185_0, hl185_0, hi185_0⟩ := at_L5 HR0.out x5_1 p185 q185
                have hw185_0 := hx185_0
                cases e185
                replace hx185_0 := (HB.out.cell (World.block_lt_of_cell? _ _ hx185_0)).trans hx185_0
                have HR185_0 := Aside0.mk hi185_0
                have HC185_0 := Aside0.mk hl185_0
                clear hi185_0 hl185_0
                replace p185 := eq_true p185
                replace q185 := eq_true q185
                have p186 : 0 ≤ (x5_1 : Int) := of_decide_eq_true (by first | (with_reducible assumption) | assumption)
                have q186 : x5_1 < (l1.length : Int) := of_decide_eq_true (by first | (with_reducible assumption) | assumption)
                obtain ⟨ad186, A186_0, c186_0, e186, hx186_0, hl186_0, hi186_0⟩ := at_L5 HR1.out x5_1 p186 q186
                have hw186_0 := hx186_0
                cases e186
                replace hx186_0 := (HB.out.cell (World.block_lt_of_cell? _ _ hx186_0)).trans hx186_0
                have HR186_0 := Aside0.mk hi186_0
                have HC186_0 := Aside0.mk hl186_0
                clear hi186_0 hl186_0
                replace p186 := eq_true p186
                replace q186 := eq_true q186
                refine start_ (n := 10) (S := fun w' => w'.cell? (ad185.add (x5_1).toNat) = some (.slice A185_0 (rd_L5 l0 x5_1).length c185_0) ∧ w'.cell? (ad186.add (x5_1).toNat) = some (.slice A186_0 (rd_L5 l1 x5_1).length c186_0)) (ds := []) #[false, false, false, false, false, false, false, false, false, false] (by kernel_rfl) rfl rfl ⟨((HB.out.cell (World.block_lt_of_cell? _ _ hw185_0)).trans hw185_0), ((HB.out.cell (World.block_lt_of_cell? _ _ hw186_0)).trans hw186_0)⟩ (fun hHeld => ?_); refine with_tabW laws_eqRectSS.tab6 laws_eqRectSS.bits6 (fun HT_ HW_ => ?_)
                generalize wr.drew = w9 at HB HR185_0 HR186_0 hx185_0 hx186_0 hHeld ⊢
                refine pure_ (i := 0) (N := some 17) (v := ?_) (a' := ?_) #[true, false, false, false, false, false, false, false, false, false] rfl rfl (any_of HT_.out (by kernel_rfl)) (fun _ _ _ h => h) (Or.inl ⟨by rfl, ?_⟩) ?_ ?_
                rotate_left
                · intro w'
                  go_simp
                  with_reducible rfl
                rotate_left
                · simp only [Act.put, List.setIfInBounds_toArray, List.set_cons_zero, List.set_cons_succ, i64_w, i32_w]
                  rfl
                refine pure_ (i := 1) (N := some 18) (v := ?_) (a' := ?_) #[true, true, false, false, false, false, false, false, false, false] rfl rfl (any_of HT_.out (by kernel_rfl)) (fun _ _ _ h => h) (Or.inl ⟨by rfl, ?_⟩) ?_ ?_
                rotate_left
                · intro w'
                  go_simp
                  with_reducible rfl
                rotate_left
                · simp only [Act.put, List.setIfInBounds_toArray, List.set_cons_zero, List.set_cons_succ, i64_w, i32_w]
                  rfl
                refine pure_ (i := 2) (N := some 19) (v := ?_) (a' := ?_) #[true, true, true, false, false, false, false, false, false, false] rfl rfl (any_of HT_.out (by kernel_rfl)) (fun _ _ _ h => h) (Or.inl ⟨by rfl, ?_⟩) ?_ ?_
                rotate_left
                · intro w'
                  go_simp
                  with_reducible rfl
                rotate_left
                · simp only [Act.put, List.setIfInBounds_toArray, List.set_cons_zero, List.set_cons_succ, i64_w, i32_w]
                  rfl
                refine pure_ (i := 4) (N := some 21) (v := ?_) (a' := ?_) #[true, true, true, false, true, false, false, false, false, false] rfl rfl (any_of HT_.out (by kernel_rfl)) (fun _ _ _ h => h) (Or.inl ⟨by rfl, ?_⟩) ?_ ?_
                rotate_left
                · intro w'
                  go_simp
                  with_reducible rfl
                rotate_left
                · simp only [Act.put, List.setIfInBounds_toArray, List.set_cons_zero, List.set_cons_succ, i64_w, i32_w]
                  rfl
                refine pure_ (i := 5) (N := some 22) (v := ?_) (a' := ?_) #[true, true, true, false, true, true, false, false, false, false] rfl rfl (any_of HT_.out (by kernel_rfl)) (fun _ _ _ h => h) (Or.inl ⟨by rfl, ?_⟩) ?_ ?_
                rotate_left
                · intro w'
                  go_simp
                  with_reducible rfl
                rotate_left
                · simp only [Act.put, List.setIfInBounds_toArray, List.set_cons_zero, List.set_cons_succ, i64_w, i32_w]
                  rfl
                refine pure_ (i := 6) (N := some 23) (v := ?_) (a' := ?_) #[true, true, true, false, true, true, true, false, false, false] rfl rfl (any_of HT_.out (by kernel_rfl)) (fun _ _ _ h => h) (Or.inl ⟨by rfl, ?_⟩) ?_ ?_
                rotate_left
                · intro w'
                  go_simp
                  with_reducible rfl
                rotate_left
                · simp only [Act.put, List.setIfInBounds_toArray, List.set_cons_zero, List.set_cons_succ, i64_w, i32_w]
                  rfl
                refine take_ (i := 3) (N := some 20) (v := ?_) (a' := ?_) #[true, true, true, true, true, true, true, false, false, false] rfl rfl (take_ofW HT_.out HW_.out (by kernel_rfl)) (fun _ _ _ h => h) (Or.inl ⟨by rfl, ?_⟩) hHeld ?_ ?_
                rotate_left
                · rintro w' ⟨s0, s1⟩
                  go_simp
                  with_reducible rfl
                rotate_left
                · simp only [Act.put, List.setIfInBounds_toArray, List.set_cons_zero, List.set_cons_succ, i64_w, i32_w]
                  rfl
                refine take_ (i := 7) (N := some 24) (v := ?_) (a' := ?_) #[true, true, true, true, true, true, true, true, false, false] rfl rfl (take_ofW HT_.out HW_.out (by kernel_rfl)) (fun _ _ _ h => h) (Or.inl ⟨by rfl, ?_⟩) hHeld ?_ ?_
                rotate_left
                · rintro w' ⟨s0, s1⟩
                  go_simp
                  with_reducible rfl
                rotate_left
                · simp only [Act.put, List.setIfInBounds_toArray, List.set_cons_zero, List.set_cons_succ, i64_w, i32_w]
                  rfl
                refine one_ (i := 8) (N := some 25) #[true, true, true, true, true, true, true, true, true, false] rfl rfl (one_of HT_.out (by kernel_rfl)) (by decide) (fun K hK => ?_)
                refine goes_ Try.func24 (by kernel_rfl) rfl #[.slice A185_0 (rd_L5 l0 x5_1).length c185_0, .slice A186_0 (rd_L5 l1 x5_1).length c186_0] (by rfl) rfl rfl (by (try simp only [List.map_toArray, List.map_cons, List.map_nil]); first | done | rfl | (simp only [List.length_drop, List.length_take]; rfl)) ?_
                with_reducible refine (laws_eqRectS.calls k1 _ _ (rd_L5 l0 x5_1) _ _ (rd_L5 l1 x5_1) true _ ?side1 ?side2 ?side3 ?side4 A7.out).mono ?_
                (case side1 => repeat (first | exact (Kd.C_below HR185_0.out HB.out) | (with_reducible refine Kd.C_alloc ?_ _) | (with_reducible refine Kd.C_drewN ?_ _) | (with_reducible refine Kd.C_drew ?_)))
                (case side2 => exact HC185_0.out)
                (case side3 => repeat (first | exact (Kd.C_below HR186_0.out HB.out) | (with_reducible refine Kd.C_alloc ?_ _) | (with_reducible refine Kd.C_drewN ?_ _) | (with_reducible refine Kd.C_drew ?_)))
                (case side4 => exact HC186_0.out)
                rintro e w10 ⟨rfl, hb⟩
                refine ⟨_, rfl, ?_⟩
                have n0_ := Aside0.mk (below_step (by repeat (first | (with_reducible first | exact HB.out | apply below_alloc | apply pw_below_drewN | apply below_drew1) | exact HB.out)) hb)
                clear HB
                have HB := n0_
                clear n0_
                (try clear hb)
                (try clear hb2)
                (try clear hk)
                (try clear hi)
                refine hK.out _ _ ⟨((HB.out.cell (World.block_lt_of_cell? _ _ hw185_0)).trans hw185_0), ((HB.out.cell (World.block_lt_of_cell? _ _ hw186_0)).trans hw186_0)⟩ (fun hHeld => ?_)
                clear hK K
                refine norm_ (a' := ?_) ?_ ?_
                rotate_left
                · show Act.put _ (some 25) _ = _
                  simp only [Act.put, List.setIfInBounds_toArray, List.set_cons_zero, List.set_cons_succ, i64_w, i32_w]
                  rfl
                refine pure_ (i := 9) (N := some 26) (v := ?_) (a' := ?_) #[true, true, true, true, true, true, true, true, true, true] rfl rfl (any_of HT_.out (by kernel_rfl)) (fun _ _ _ h => h) (Or.inl ⟨by rfl, ?_⟩) ?_ ?_
                rotate_left
                · intro w'
                  go_simp
                  with_reducible rfl
                rotate_left
                · simp only [Act.put, List.setIfInBounds_toArray, List.set_cons_zero, List.set_cons_succ, i64_w, i32_w]
                  rfl
                refine done_ (done_of HT_.out (by kernel_rfl)) ?_
                try go_wp2
                go_roundg k1
                case measure => have := HK1.out; omega
                case rel => exact ⟨(wrap64 (x5_1 + 1)), (by first | rfl | (simp; done) | (simp [*]; done)), H', ⟨by have := HK1.out; omega⟩, ⟨by repeat (first | (with_reducible first | exact HB.out | apply below_alloc | apply pw_below_drewN | apply below_drew1) | exact HB.out)⟩⟩
              · replace c8 := Bool.eq_false_iff.mpr c8
                subst c8
                have H1 : (some false) = some r := by rw [if_neg (show ¬ (false = true) by decide)] at H; exact H
                clear H
                have H := H1
                clear H1
                obtain rfl := Option.some.inj H
                try go_wp2
                have n0_ := Aside0.mk (below_drew1 HB.out)
                clear HB
                have HB := n0_
                clear n0_
                have p185 : 0 ≤ (x5_1 : Int) := of_decide_eq_true (by first | (with_reducible assumption) | assumption)
                have q185 : x5_1 < (l0.length : Int) := of_decide_eq_true (by first | (with_reducible assumption) | assumption)
                obtain ⟨ad185, A185_0, c185_0, e185, hx185_0, hl185_0, hi185_0⟩ := at_L5 HR0.out x5_1 p185 q185
                have hw185_0 := hx185_0
                cases e185
                replace hx185_0 := (HB.out.cell (World.block_lt_of_cell? _ _ hx185_0)).trans hx185_0
                have HR185_0 := Aside0.mk hi185_0
                have HC185_0 := Aside0.mk hl185_0
                clear hi185_0 hl185_0
                replace p185 := eq_true p185
                replace q185 := eq_true q185
                have p186 : 0 ≤ (x5_1 : Int) := of_decide_eq_true (by first | (with_reducible assumption) | assumption)
                have q186 : x5_1 < (l1.length : Int) := of_decide_eq_true (by first | (with_reducible assumption) | assumption)
                obtain ⟨ad186, A186_0, c186_0, e186, hx186_0, hl186_0, hi186_0⟩ := at_L5 HR1.out x5_1 p186 q186
                have hw186_0 := hx186_0
                cases e186
                replace hx186_0 := (HB.out.cell (World.block_lt_of_cell? _ _ hx186_0)).trans hx186_0
                have HR186_0 := Aside0.mk hi186_0
                have HC186_0 := Aside0.mk hl186_0
                clear hi186_0 hl186_0
                replace p186 := eq_true p186
                replace q186 := eq_true q186
                refine start_ (n := 10) (S := fun w' => w'.cell? (ad185.add (x5_1).toNat) = some (.slice A185_0 (rd_L5 l0 x5_1).length c185_0) ∧ w'.cell? (ad186.add (x5_1).toNat) = some (.slice A186_0 (rd_L5 l1 x5_1).length c186_0)) (ds := []) #[false, false, false, false, false, false, false, false, false, false] (by kernel_rfl) rfl rfl ⟨((HB.out.cell (World.block_lt_of_cell? _ _ hw185_0)).trans hw185_0), ((HB.out.cell (World.block_lt_of_cell? _ _ hw186_0)).trans hw186_0)⟩ (fun hHeld => ?_); refine with_tabW laws_eqRectSS.tab6 laws_eqRectSS.bits6 (fun HT_ HW_ => ?_)
                generalize wr.drew = w11 at HB HR185_0 HR186_0 hx185_0 hx186_0 hHeld ⊢
                refine pure_ (i := 0) (N := some 17) (v := ?_) (a' := ?_) #[true, false, false, false, false, false, false, false, false, false] rfl rfl (any_of HT_.out (by kernel_rfl)) (fun _ _ _ h => h) (Or.inl ⟨by rfl, ?_⟩) ?_ ?_
                rotate_left
                · intro w'
                  go_simp
                  with_reducible rfl
                rotate_left
                · simp only [Act.put, List.setIfInBounds_toArray, List.set_cons_zero, List.set_cons_succ, i64_w, i32_w]
                  rfl
                refine pure_ (i := 1) (N := some 18) (v := ?_) (a' := ?_) #[true, true, false, false, false, false, false, false, false, false] rfl rfl (any_of HT_.out (by kernel_rfl)) (fun _ _ _ h => h) (Or.inl ⟨by rfl, ?_⟩) ?_ ?_
                rotate_left
                · intro w'
                  go_simp
                  with_reducible rfl
                rotate_left
                · simp only [Act.put, List.setIfInBounds_toArray, List.set_cons_zero, List.set_cons_succ, i64_w, i32_w]
                  rfl
                refine pure_ (i := 2) (N := some 19) (v := ?_) (a' := ?_) #[true, true, true, false, false, false, false, false, false, false] rfl rfl (any_of HT_.out (by kernel_rfl)) (fun _ _ _ h => h) (Or.inl ⟨by rfl, ?_⟩) ?_ ?_
                rotate_left
                · intro w'
                  go_simp
                  with_reducible rfl
                rotate_left
                · simp only [Act.put, List.setIfInBounds_toArray, List.set_cons_zero, List.set_cons_succ, i64_w, i32_w]
                  rfl
                refine pure_ (i := 4) (N := some 21) (v := ?_) (a' := ?_) #[true, true, true, false, true, false, false, false, false, false] rfl rfl (any_of HT_.out (by kernel_rfl)) (fun _ _ _ h => h) (Or.inl ⟨by rfl, ?_⟩) ?_ ?_
                rotate_left
                · intro w'
                  go_simp
                  with_reducible rfl
                rotate_left
                · simp only [Act.put, List.setIfInBounds_toArray, List.set_cons_zero, List.set_cons_succ, i64_w, i32_w]
                  rfl
                refine pure_ (i := 5) (N := some 22) (v := ?_) (a' := ?_) #[true, true, true, false, true, true, false, false, false, false] rfl rfl (any_of HT_.out (by kernel_rfl)) (fun _ _ _ h => h) (Or.inl ⟨by rfl, ?_⟩) ?_ ?_
                rotate_left
                · intro w'
                  go_simp
                  with_reducible rfl
                rotate_left
                · simp only [Act.put, List.setIfInBounds_toArray, List.set_cons_zero, List.set_cons_succ, i64_w, i32_w]
                  rfl
                refine pure_ (i := 6) (N := some 23) (v := ?_) (a' := ?_) #[true, true, true, false, true, true, true, false, false, false] rfl rfl (any_of HT_.out (by kernel_rfl)) (fun _ _ _ h => h) (Or.inl ⟨by rfl, ?_⟩) ?_ ?_
                rotate_left
                · intro w'
                  go_simp
                  with_reducible rfl
                rotate_left
                · simp only [Act.put, List.setIfInBounds_toArray, List.set_cons_zero, List.set_cons_succ, i64_w, i32_w]
                  rfl
                refine take_ (i := 3) (N := some 20) (v := ?_) (a' := ?_) #[true, true, true, true, true, true, true, false, false, false] rfl rfl (take_ofW HT_.out HW_.out (by kernel_rfl)) (fun _ _ _ h => h) (Or.inl ⟨by rfl, ?_⟩) hHeld ?_ ?_
                rotate_left
                · rintro w' ⟨s0, s1⟩
                  go_simp
                  with_reducible rfl
                rotate_left
                · simp only [Act.put, List.setIfInBounds_toArray, List.set_cons_zero, List.set_cons_succ, i64_w, i32_w]
                  rfl
                refine take_ (i := 7) (N := some 24) (v := ?_) (a' := ?_) #[true, true, true, true, true, true, true, true, false, false] rfl rfl (take_ofW HT_.out HW_.out (by kernel_rfl)) (fun _ _ _ h => h) (Or.inl ⟨by rfl, ?_⟩) hHeld ?_ ?_
                rotate_left
                · rintro w' ⟨s0, s1⟩
                  go_simp
                  with_reducible rfl
                rotate_left
                · simp only [Act.put, List.setIfInBounds_toArray, List.set_cons_zero, List.set_cons_succ, i64_w, i32_w]
                  rfl
                refine one_ (i := 8) (N := some 25) #[true, true, true, true, true, true, true, true, true, false] rfl rfl (one_of HT_.out (by kernel_rfl)) (by decide) (fun K hK => ?_)
                refine goes_ Try.func24 (by kernel_rfl) rfl #[.slice A185_0 (rd_L5 l0 x5_1).length c185_0, .slice A186_0 (rd_L5 l1 x5_1).length c186_0] (by rfl) rfl rfl (by (try simp only [List.map_toArray, List.map_cons, List.map_nil]); first | done | rfl | (simp only [List.length_drop, List.length_take]; rfl)) ?_
                with_reducible refine (laws_eqRectS.calls k1 _ _ (rd_L5 l0 x5_1) _ _ (rd_L5 l1 x5_1) false _ ?side1 ?side2 ?side3 ?side4 A7.out).mono ?_
                (case side1 => repeat (first | exact (Kd.C_below HR185_0.out HB.out) | (with_reducible refine Kd.C_alloc ?_ _) | (with_reducible refine Kd.C_drewN ?_ _) | (with_reducible refine Kd.C_drew ?_)))
                (case side2 => exact HC185_0.out)
                (case side3 => repeat (first | exact (Kd.C_below HR186_0.out HB.out) | (with_reducible refine Kd.C_alloc ?_ _) | (with_reducible refine Kd.C_drewN ?_ _) | (with_reducible refine Kd.C_drew ?_)))
                (case side4 => exact HC186_0.out)
                rintro e w12 ⟨rfl, hb⟩
                refine ⟨_, rfl, ?_⟩
                have n0_ := Aside0.mk (below_step (by repeat (first | (with_reducible first | exact HB.out | apply below_alloc | apply pw_below_drewN | apply below_drew1) | exact HB.out)) hb)
                clear HB
                have HB := n0_
                clear n0_
                (try clear hb)
                (try clear hb2)
                (try clear hk)
                (try clear hi)
                refine hK.out _ _ ⟨((HB.out.cell (World.block_lt_of_cell? _ _ hw185_0)).trans hw185_0), ((HB.out.cell (World.block_lt_of_cell? _ _ hw186_0)).trans hw186_0)⟩ (fun hHeld => ?_)
                clear hK K
                refine norm_ (a' := ?_) ?_ ?_
                rotate_left
                · show Act.put _ (some 25) _ = _
                  simp only [Act.put, List.setIfInBounds_toArray, List.set_cons_zero, List.set_cons_succ, i64_w, i32_w]
                  rfl
                refine pure_ (i := 9) (N := some 26) (v := ?_) (a' := ?_) #[true, true, true, true, true, true, true, true, true, true] rfl rfl (any_of HT_.out (by kernel_rfl)) (fun _ _ _ h => h) (Or.inl ⟨by rfl, ?_⟩) ?_ ?_
                rotate_left
                · intro w'
                  go_simp
                  with_reducible rfl
                rotate_left
                · simp only [Act.put, List.setIfInBounds_toArray, List.set_cons_zero, List.set_cons_succ, i64_w, i32_w]
                  rfl
                refine done_ (done_of HT_.out (by kernel_rfl)) ?_
                try go_wp2
                go_ret
                exact ⟨by first | rfl | (simp [errW_none, errW_some] <;> rfl) | (simp [*, errW_none, errW_some] <;> rfl), by repeat (first | (with_reducible first | exact HB.out | apply below_alloc | apply pw_below_drewN | apply below_drew1) | exact HB.out)⟩
            · rw [if_neg c6] at H
              exact absurd H (by simp)
          · rw [if_neg c5] at H
            exact absurd H (by simp)
        · rw [if_neg c4] at H
          have c4b0 : decide (x5_1 < (l0.length : Int)) = false := decide_eq_false c4
          clear c4
          obtain rfl := Option.some.inj H
          go_wp2
          go_ret
          exact ⟨by first | rfl | (simp [errW_none, errW_some] <;> rfl) | (simp [*, errW_none, errW_some] <;> rfl), by repeat (first | (with_reducible first | exact HB.out | apply below_alloc | apply pw_below_drewN | apply below_drew1) | exact HB.out)⟩
  · rw [if_neg c3] at H
    have c3b0 : ((l0.length : Int) == (l1.length : Int)) = false := beq_eq_false_iff_ne.mpr c3
    have c3b1 : ((l0.length : Int) != (l1.length : Int)) = true := bne_iff_ne.mpr c3
    have c3b2 : (l0.length == l1.length) = false := by first | simpa using c3 | (simp at c3 ⊢; omega)
    obtain rfl := Option.some.inj H
    go_enter Try.func19, Try.ntmps19
    go_wp2
    go_ret
    exact ⟨by first | rfl | (simp [errW_none, errW_some] <;> rfl) | (simp [*, errW_none, errW_some] <;> rfl), by repeat (first | (with_reducible first | exact HB.out | apply below_alloc | apply pw_below_drewN | apply below_drew1) | exact HB.out)⟩

end Go.Proofs.Ytncjjplpenjghaa.P

/-! ### Box -/
/- Small laws for walks by hand: a block whose cells are known. -/
set_option linter.unusedVariables false
set_option linter.unusedSimpArgs false
namespace Go.Proofs.Ytncjjplpenjghaa.H
open Go.RowKit Go.Proofs.YtncjjplpenjghaaW.PrintWords Go.Proofs.YtncjjplpenjghaaW.PrintLast

section
variable {P : Program} {ops : Array Oper} {o : Oper} {rest : List Oper} {a : Act} {Q : Exit → Act → World → Prop} {W : World}
theorem wpList_build_nil (hg : o.guard = none) (t : TypeId) (ho : o.op = .build t #[]) (cells : Array Value) (hP : P.built t [] = some cells)
    (h : wpList P ops Q rest (a.put o.dst (.agg cells)) W) : wpList P ops Q (o :: rest) a W := by
  refine wpList_build hg t #[] ho ?_ ?_
  · simp only [List.map_toArray, List.map_nil, hP, Option.isSome_some]
  · simpa only [List.map_toArray, List.map_nil, hP, Option.getD_some] using h
end


/-! a block whose cells are known -/
def Box (w : World) (b : Nat) (cs : Array Value) (t : Nat) : Prop := w.heap[b]? = some (.cells cs t (0, 0))
section
variable {w w' : World} {b t : Nat} {cs : Array Value}
theorem Box.cell (h : Box w b cs t) (i : Nat) (v : Value) (hv : cs[i]? = some v) : w.cell? ⟨b, i, none⟩ = some v := by
  unfold Box at h
  simp only [World.cell?, h, Option.isSome_none, Bool.false_eq_true, if_false]
  exact hv
theorem Box.frozen (h : Box w b cs t) (i : Nat) : w.frozen? ⟨b, i, none⟩ = false := by
  unfold Box at h
  simp [World.frozen?, h]
theorem Box.lt (h : Box w b cs t) : b < w.heap.size := by
  unfold Box at h
  rcases Nat.lt_or_ge b w.heap.size with h1 | h1
  · exact h1
  · rw [Array.getElem?_eq_none h1] at h; cases h
theorem Box.below (h : Box w b cs t) (hb : Below w.heap.size w w') : Box w' b cs t := by
  have := h.lt
  unfold Box at *
  rw [hb.block b this]
  exact h
theorem Box.alloc (h : Box w b cs t) (o : Obj) : Box (w.alloc o) b cs t := h.below ((Below.refl _ _).alloc (Nat.le_refl _) _)
theorem Box.new (w : World) (cs : Array Value) (t : Nat) : Box (w.alloc (.cells cs t (0, 0))) w.heap.size cs t := blk_new w _
theorem Box.far (h : Box w b cs t) {p : Addr} (hp : p.block ≠ b) (v : Value) : Box (w.setCell p v) b cs t := by
  unfold Box at *
  rw [Below.heap_setCell w p v b (fun e => hp e.symm)]
  exact h
theorem Box.set (h : Box w b cs t) (i : Nat) (v : Value) (cs' : Array Value) (e : cs.setIfInBounds i v = cs') : Box (w.setCell ⟨b, i, none⟩ v) b cs' t := blk_put h i v e
theorem Box.drewN (h : Box w b cs t) (n : Nat) : Box (w.drewN n) b cs t := h
theorem Box.drew (h : Box w b cs t) : Box w.drew b cs t := h
end
/-- A byte of a slice that is read. -/
theorem byteCell {w : World} {A : Option Addr} {l : List Int} (h : Kd.C (Kd.int .u8) w A l.length l) (i : Nat) (hi : i < l.length) :
    ∃ ad, A = some ad ∧ w.cell? (ad.add i) = some (.int .u8 l[i]) := by
  obtain ⟨ad, c, e, hl, hK, hc⟩ := Kd.C_get h (0 : Int) (i : Int) (by omega) (by omega)
  have hK : c = [.int .u8 (l.getD (i : Int).toNat 0)] := hK
  subst hK
  refine ⟨ad, e, ?_⟩
  have := hc 0 _ rfl
  rw [Int.toNat_natCast] at this
  have e2 : l.getD i 0 = l[i] := by simp [List.getD_eq_getElem?_getD, hi]
  rw [e2] at this
  simpa [Kd.int, Kd.scalar] using this
end Go.Proofs.Ytncjjplpenjghaa.H

/-! ### Hand -/
/- Small laws for walks by hand: a grid of 80 by 80 bools in a block of its own. -/
set_option linter.unusedVariables false
set_option linter.unusedSimpArgs false
namespace Go.Proofs.Ytncjjplpenjghaa.H
open Go.RowKit Go.Proofs.YtncjjplpenjghaaW.PrintWords Go.Proofs.YtncjjplpenjghaaW.PrintLast

def gridN (n : Nat) (g : Nat → Bool) : Array Value := Array.ofFn (n := n) fun i => .bool (g i)
theorem gridN_size (n : Nat) (g : Nat → Bool) : (gridN n g).size = n := by simp [gridN]
theorem gridN_get (n : Nat) (g : Nat → Bool) (j : Nat) (h : j < (gridN n g).size) : (gridN n g)[j] = .bool (g j) := by simp [gridN]
theorem gridN_ext (n : Nat) (g : Nat → Bool) (A : Array Value) (hs : A.size = n) (h : ∀ j (hj : j < A.size), A[j] = .bool (g j)) : A = gridN n g := by
  apply Array.ext
  · rw [hs, gridN_size]
  · intro i h1 h2
    rw [h i h1, gridN_get]
def gridArr (g : Nat → Bool) : Array Value := gridN 6400 g
/-- Block b is the grid g: 80 rows of 80. -/
def Grid (w : World) (b : Nat) (g : Nat → Bool) : Prop := w.heap[b]? = some (.cells (gridArr g) 103 (0, 0))
def gridZ : Array Value := Array.replicate 6400 (.bool false)
theorem built_grid : Try.prog.built 103 [] = some gridZ := by kernel_rfl
theorem gridZ_is : gridZ = gridArr (fun _ => false) := by
  refine gridN_ext 6400 _ _ ?_ ?_
  · exact Array.size_replicate
  · intro j hj
    exact Array.getElem_replicate ..
theorem Grid.zero {w : World} {b : Nat} (h : w.heap[b]? = some (.cells gridZ 103 (0, 0))) : Grid w b (fun _ => false) := by
  unfold Grid
  rw [← gridZ_is]
  exact h
theorem Grid.cell {w : World} {b : Nat} {g : Nat → Bool} (h : Grid w b g) (i : Nat) (hi : i < 6400) : w.cell? ⟨b, i, none⟩ = some (.bool (g i)) := by
  unfold Grid at h
  simp only [World.cell?, h, Option.isSome_none, Bool.false_eq_true, if_false]
  unfold gridArr
  rw [Array.getElem?_eq_getElem (by rw [gridN_size]; exact hi), gridN_get]
theorem Grid.frozen {w : World} {b : Nat} {g : Nat → Bool} (h : Grid w b g) (i : Nat) : w.frozen? ⟨b, i, none⟩ = false := by
  unfold Grid at h
  simp [World.frozen?, h]
theorem Grid.congr {w : World} {b : Nat} {g g' : Nat → Bool} (h : Grid w b g) (hg : ∀ i, i < 6400 → g' i = g i) : Grid w b g' := by
  have e : gridArr g = gridArr g' := by
    refine gridN_ext 6400 g' _ (gridN_size _ _) ?_
    intro i h1
    unfold gridArr at *
    rw [gridN_size] at h1
    rw [gridN_get, hg i h1]
  unfold Grid at *
  rw [← e]
  exact h
theorem Grid.set {w : World} {b : Nat} {g g' : Nat → Bool} (h : Grid w b g) {i : Nat} {v : Bool} (hi : i < 6400) (hg : ∀ j, j < 6400 → g' j = if j = i then v else g j) : Grid (w.setCell ⟨b, i, none⟩ (.bool v)) b g' := by
  unfold Grid at *
  have hb : b < w.heap.size := by
    rcases Nat.lt_or_ge b w.heap.size with h1 | h1
    · exact h1
    · rw [Array.getElem?_eq_none h1] at h; cases h
  have e : (gridArr g).setIfInBounds i (.bool v) = gridArr g' := by
    refine gridN_ext 6400 g' _ ?_ ?_
    · rw [Array.size_setIfInBounds]; exact gridN_size _ _
    · intro j h1
      have h3 : j < 6400 := by
        have e3 : ((gridArr g).setIfInBounds i (.bool v)).size = 6400 := by rw [Array.size_setIfInBounds]; exact gridN_size _ _
        omega
      have h4 : j < (gridArr g).size := by rw [Array.size_setIfInBounds] at h1; exact h1
      rw [hg j h3]
      by_cases e : j = i
      · rw [if_pos e]
        rw [Array.getElem_setIfInBounds h4, if_pos e.symm]
      · rw [if_neg e, Array.getElem_setIfInBounds h4, if_neg (fun x => e x.symm)]
        exact gridN_get ..
  unfold World.setCell
  simp only [Array.getElem?_modify, if_true, h, Option.map_some]
  simp only [Option.isSome_none, Bool.false_eq_true, if_false, e]
theorem Grid.lt {w : World} {b : Nat} {g : Nat → Bool} (h : Grid w b g) : b < w.heap.size := by
  unfold Grid at h
  rcases Nat.lt_or_ge b w.heap.size with h1 | h1
  · exact h1
  · rw [Array.getElem?_eq_none h1] at h; cases h
theorem Grid.below {w w' : World} {b : Nat} {g : Nat → Bool} (h : Grid w b g) (hb : Below w.heap.size w w') : Grid w' b g := by
  have := h.lt
  unfold Grid at *
  rw [hb.block b this]
  exact h
theorem Grid.alloc {w : World} {b : Nat} {g : Nat → Bool} (h : Grid w b g) (o : Obj) : Grid (w.alloc o) b g :=
  h.below ((Below.refl _ _).alloc (Nat.le_refl _) _)
theorem Grid.far {w : World} {b : Nat} {g : Nat → Bool} (h : Grid w b g) {p : Addr} (hp : p.block ≠ b) (v : Value) : Grid (w.setCell p v) b g := by
  unfold Grid at *
  rw [Below.heap_setCell w p v b (fun e => hp e.symm)]
  exact h
theorem Grid.drewN {w : World} {b : Nat} {g : Nat → Bool} (h : Grid w b g) (n : Nat) : Grid (w.drewN n) b g := h
theorem Grid.drew {w : World} {b : Nat} {g : Nat → Bool} (h : Grid w b g) : Grid w.drew b g := h

/-- The answer is a pointer to a new grid. -/
def NewGrid (w : World) (g : Nat → Bool) (e : Ending) (w' : World) : Prop := ∃ b, e = .returned (.pointer (some ⟨b, 0, none⟩)) ∧ w.heap.size ≤ b ∧ Below w.heap.size w w' ∧ Grid w' b g
end Go.Proofs.Ytncjjplpenjghaa.H

/-! ### RowEq -/
/- Two rows of bools compared as Go compares arrays; a row of a grid read whole. -/
set_option linter.unusedVariables false
set_option linter.unusedSimpArgs false
namespace Go.Proofs.Ytncjjplpenjghaa.H
open Go Go.RowKit Go.Proofs.YtncjjplpenjghaaW.PrintWords Go.Proofs.YtncjjplpenjghaaW.PrintLast
theorem run_eqLoop {P : Program} (d te n : Nat) (xs ys : Array Value) (f g : Nat → Bool) (he : P.underlying te = some .bool)
    (hx : ∀ (i : Nat) w, i < n → (part te xs i).run P w = .ok (.bool (f i)) w) (hy : ∀ (i : Nat) w, i < n → (part te ys i).run P w = .ok (.bool (g i)) w) (w : World) :
    ∀ (L : List Nat), (∀ i ∈ L, i < n) → Sem.run P (forIn L ((none, ()) : Option Bool × Unit) fun i __s => do
            let a ← part te xs i
            let b ← part te ys i
            let r ← Op.equalIn (d + 1) te a b
            if (!r) = true then pure (ForInStep.done (some false, ())) else pure (ForInStep.yield (none, ()))) w = .ok (if (L.all fun i => f i == g i) = true then (none, ()) else (some false, ())) w
  | [], _ => by simp
  | i :: L, h => by
    have hi := h i (by simp)
    simp only [List.forIn_cons, Sem.run_bind, hx i w hi, Result.andThen_ok, hy i w hi, run_equalIn_bool' w d te (f i) (g i) he]
    cases hfg : f i == g i
    · simp [hfg]
    · have ih := run_eqLoop d te n xs ys f g he hx hy w L (fun j hj => h j (by simp [hj]))
      simp only [Bool.not_true, Bool.false_eq_true, if_false, Sem.run_pure, Result.andThen_ok, List.all_cons, hfg, Bool.true_and]
      exact ih
theorem run_equalIn_bools {P : Program} (d : Nat) (t te n : Nat) (xs ys : Array Value) (f g : Nat → Bool) (ht : P.underlying t = some (.array n te)) (he : P.underlying te = some .bool) (hs : ∀ w, (sizeOf te).run P w = .ok 1 w)
    (hx : ∀ (i : Nat) w, i < n → (part te xs i).run P w = .ok (.bool (f i)) w) (hy : ∀ (i : Nat) w, i < n → (part te ys i).run P w = .ok (.bool (g i)) w) (w : World) :
    (Op.equalIn (d + 2) t (.agg xs) (.agg ys)).run P w = .ok ((List.range n).all fun i => f i == g i) w := by
  unfold Op.equalIn
  simp only [Sem.run_bind, run_underlying ht, Result.andThen_ok, hs, Nat.mul_one]
  rw [Std.Legacy.Range.forIn_eq_forIn_range']
  simp only [Std.Legacy.Range.size]
  have h := run_eqLoop d te n xs ys f g he hx hy w (List.range' 0 ((n - 0 + 1 - 1) / 1)) (fun i hi => by have := (List.mem_range'_1.1 hi).2; simp at this; omega)
  rw [h]
  simp only [Result.andThen_ok]
  have e : (n - 0 + 1 - 1) / 1 = n := by simp
  rw [e, List.range_eq_range']
  cases hc : (List.range' 0 n).all fun i => f i == g i
  · simp
  · simp
/-- Row y of a grid, whole. -/
def rowL (g : Nat → Bool) (y : Nat) : List Value := (List.range 80).map fun x => .bool (g (y * 80 + x))
def rowA (g : Nat → Bool) (y : Nat) : Array Value := (rowL g y).toArray
theorem rowL_len (g : Nat → Bool) (y : Nat) : (rowL g y).length = 80 := by simp [rowL]
theorem rowL_get (g : Nat → Bool) (y x : Nat) (h : x < 80) : (rowL g y)[x]? = some (.bool (g (y * 80 + x))) := by simp [rowL, h]
theorem rowA_get (g : Nat → Bool) (y x : Nat) (h : x < 80) : (rowA g y)[x]? = some (.bool (g (y * 80 + x))) := by
  unfold rowA
  rw [List.getElem?_toArray]
  exact rowL_get g y x h
theorem info_row : (Try.prog.info? 101).map (·.size) = some 80 := by kernel_rfl
theorem size_bool (w : World) : (sizeOf 4).run Try.prog w = .ok 1 w := by kernel_rfl
/-- Reading row y of a grid. -/
theorem load_row {w : World} {b : Nat} {g : Nat → Bool} (h : Grid w b g) (y : Nat) (hy : y < 80) : (Instr.loadAt 101 (.pointer (some ⟨b, y * 80, none⟩))).run Try.prog w = .ok (.agg (rowA g y)) w := by
  refine run_loadAt_mid w b (y * 80) 101 (rowL g y) _ (fun j v hv => ?_) Try.underlying101 rfl (by rw [rowL_len]; exact info_row)
  have hj : j < 80 := by have := (List.getElem?_eq_some_iff.1 hv).1; rw [rowL_len] at this; exact this
  rw [rowL_get g y j hj] at hv
  injection hv with hv
  subst hv
  exact h.cell _ (by omega)
theorem part_bool (cs : Array Value) (i : Nat) (b : Bool) (h : cs[i]? = some (.bool b)) (w : World) : (part 4 cs i).run Try.prog w = .ok (.bool b) w := by
  unfold part isAgg
  simp only [Sem.run_bind, run_underlying Try.underlying4, Result.andThen_ok, Sem.run_pure]
  simp [h]
theorem equal_rows (g g' : Nat → Bool) (y y' : Nat) (w : World) : (Op.equalIn 10000 101 (.agg (rowA g y)) (.agg (rowA g' y'))).run Try.prog w = .ok ((List.range 80).all fun x => g (y * 80 + x) == g' (y' * 80 + x)) w := by
  rw [show (10000 : Nat) = 9998 + 2 from rfl, run_equalIn_bools (P := Try.prog) 9998 101 4 80 (rowA g y) (rowA g' y') (fun x => g (y * 80 + x)) (fun x => g' (y' * 80 + x)) Try.underlying101 Try.underlying4 size_bool
    (fun i w hi => part_bool _ _ _ (rowA_get g y i hi) w) (fun i w hi => part_bool _ _ _ (rowA_get g' y' i hi) w) w]
/-- Two rows of grids compared. -/
theorem eql_rows (g g' : Nat → Bool) (y y' : Nat) (w : World) : (binOp .eql 101 (.agg (rowA g y)) (.agg (rowA g' y'))).run Try.prog w = .ok (.bool ((List.range 80).all fun x => g (y * 80 + x) == g' (y' * 80 + x))) w := by
  rw [run_eql_struct, equal_rows]
  rfl
end Go.Proofs.Ytncjjplpenjghaa.H

/-! ### GridM -/
/- Sets of unit cells and their regions, plain: runs of a row, bands of equal rows, the region's rectangles. -/
set_option linter.unusedVariables false
set_option linter.unusedSimpArgs false
namespace Go.Proofs.Ytncjjplpenjghaa.G
open Go.Proofs.Ytncjjplpenjghaa.P
abbrev Rc := S75
instance : DecidableEq Rc := fun a b => decidable_of_iff (a.f0 = b.f0 ∧ a.f1 = b.f1 ∧ a.f2 = b.f2 ∧ a.f3 = b.f3) (by cases a; cases b; simp)
def okR (r : Rc) : Bool := decide (-40 ≤ r.f0 ∧ r.f0 < r.f2 ∧ r.f2 ≤ 40 ∧ -40 ≤ r.f1 ∧ r.f1 < r.f3 ∧ r.f3 ≤ 40)
theorem okR_b {r : Rc} (h : okR r = true) : -40 ≤ r.f0 ∧ r.f0 < r.f2 ∧ r.f2 ≤ 40 ∧ -40 ≤ r.f1 ∧ r.f1 < r.f3 ∧ r.f3 ≤ 40 := of_decide_eq_true h
/-- The unit cell number i is in the rectangle. -/
def inR (r : Rc) (i : Nat) : Bool := decide (r.f0 + 40 ≤ (i % 80 : Nat) ∧ ((i % 80 : Nat) : Int) < r.f2 + 40 ∧ r.f1 + 40 ≤ (i / 80 : Nat) ∧ ((i / 80 : Nat) : Int) < r.f3 + 40)
def cov (l : List Rc) (i : Nat) : Bool := l.any fun r => inR r i
theorem cov_nil (i : Nat) : cov [] i = false := rfl
theorem cov_cons (r : Rc) (l : List Rc) (i : Nat) : cov (r :: l) i = (inR r i || cov l i) := rfl
theorem cov_append (l m : List Rc) (i : Nat) : cov (l ++ m) i = (cov l i || cov m i) := by simp [cov]
theorem cov_iff {l : List Rc} {i : Nat} : cov l i = true ↔ ∃ r ∈ l, inR r i = true := by simp [cov]
/-! runs -/
def scan (r : Nat → Bool) : Nat → Nat → Option Nat → List (Nat × Nat)
  | 0, _, none => []
  | 0, x, some s => [(s, x)]
  | d + 1, x, none => scan r d (x + 1) (if r x = true then some x else none)
  | d + 1, x, some s => if r x = true then scan r d (x + 1) (some s) else (s, x) :: scan r d (x + 1) none
def runs (r : Nat → Bool) : List (Nat × Nat) := scan r 80 0 none
theorem scan_congr {r r' : Nat → Bool} : ∀ (d x : Nat) (o : Option Nat), (∀ j, x ≤ j → j < x + d → r j = r' j) → scan r d x o = scan r' d x o
  | 0, x, none, _ => rfl
  | 0, x, some s, _ => rfl
  | d + 1, x, none, h => by
    simp only [scan]
    rw [h x (by omega) (by omega)]
    exact scan_congr d (x + 1) _ (fun j h1 h2 => h j (by omega) (by omega))
  | d + 1, x, some s, h => by
    simp only [scan]
    rw [h x (by omega) (by omega), scan_congr d (x + 1) (some s) (fun j h1 h2 => h j (by omega) (by omega)), scan_congr d (x + 1) none (fun j h1 h2 => h j (by omega) (by omega))]
theorem runs_congr {r r' : Nat → Bool} (h : ∀ j, j < 80 → r j = r' j) : runs r = runs r' := scan_congr 80 0 none (fun j _ h2 => h j (by omega))
/-- What is told of each run; where the open one began. -/
theorem scan_ok (r : Nat → Bool) : ∀ (d x : Nat) (o : Option Nat), (∀ s, o = some s → s < x) → ∀ p ∈ scan r d x o, p.1 < p.2 ∧ p.2 ≤ x + d ∧ o.getD x ≤ p.1
  | 0, x, none, _, p, hp => by cases hp
  | 0, x, some s, ho, p, hp => by
    simp only [scan, List.mem_singleton] at hp
    subst hp
    have := ho s rfl
    exact ⟨this, Nat.le_refl _, Nat.le_refl _⟩
  | d + 1, x, none, ho, p, hp => by
    simp only [scan] at hp
    by_cases hr : r x = true
    · rw [if_pos hr] at hp
      obtain ⟨a, b, c⟩ := scan_ok r d (x + 1) (some x) (fun s h => by injection h with h; omega) p hp
      exact ⟨a, by omega, c⟩
    · rw [if_neg hr] at hp
      obtain ⟨a, b, c⟩ := scan_ok r d (x + 1) none (fun s h => by cases h) p hp
      exact ⟨a, by omega, by simp only [Option.getD_none] at *; omega⟩
  | d + 1, x, some s, ho, p, hp => by
    have hs := ho s rfl
    simp only [scan] at hp
    by_cases hr : r x = true
    · rw [if_pos hr] at hp
      obtain ⟨a, b, c⟩ := scan_ok r d (x + 1) (some s) (fun s' h => by injection h with h; omega) p hp
      exact ⟨a, by omega, c⟩
    · rw [if_neg hr] at hp
      rcases List.mem_cons.1 hp with rfl | hp
      · exact ⟨hs, by show x ≤ _; omega, Nat.le_refl _⟩
      · obtain ⟨a, b, c⟩ := scan_ok r d (x + 1) none (fun s h => by cases h) p hp
        exact ⟨a, by omega, by simp only [Option.getD_none, Option.getD_some] at *; omega⟩
theorem scan_len (r : Nat → Bool) : ∀ (d x : Nat) (o : Option Nat), 2 * (scan r d x o).length ≤ d + (if o.isSome then 2 else 1)
  | 0, x, none => by simp [scan]
  | 0, x, some s => by simp [scan]
  | d + 1, x, none => by
    simp only [scan]
    by_cases hr : r x = true
    · rw [if_pos hr]; have := scan_len r d (x + 1) (some x); simp at this ⊢; omega
    · rw [if_neg hr]; have := scan_len r d (x + 1) none; simp at this ⊢; omega
  | d + 1, x, some s => by
    simp only [scan]
    by_cases hr : r x = true
    · rw [if_pos hr]; have := scan_len r d (x + 1) (some s); simp at this ⊢; omega
    · rw [if_neg hr]; have := scan_len r d (x + 1) none; simp at this ⊢; omega
theorem runs_len (r : Nat → Bool) : (runs r).length ≤ 40 := by have := scan_len r 80 0 none; simp at this; unfold runs; omega
def lens (l : List (Nat × Nat)) : Nat := (l.map fun p => p.2 - p.1).sum
theorem scan_sum (r : Nat → Bool) : ∀ (d x : Nat) (o : Option Nat), (∀ s, o = some s → s ≤ x) → lens (scan r d x o) + o.getD x ≤ x + d
  | 0, x, none, _ => by simp [scan, lens]
  | 0, x, some s, h => by have := h s rfl; simp [scan, lens]; omega
  | d + 1, x, none, _ => by
    simp only [scan]
    by_cases hr : r x = true
    · rw [if_pos hr]; have := scan_sum r d (x + 1) (some x) (fun s h => by injection h with h; omega); simp at this ⊢; omega
    · rw [if_neg hr]; have := scan_sum r d (x + 1) none (fun s h => by cases h); simp at this ⊢; omega
  | d + 1, x, some s, h => by
    have hs := h s rfl
    simp only [scan]
    by_cases hr : r x = true
    · rw [if_pos hr]; have := scan_sum r d (x + 1) (some s) (fun s' h => by injection h with h; omega); simp at this ⊢; omega
    · rw [if_neg hr]
      have := scan_sum r d (x + 1) none (fun s h => by cases h)
      simp only [lens, List.map_cons, List.sum_cons, Option.getD_none, Option.getD_some] at this ⊢
      omega
theorem runs_sum (r : Nat → Bool) : lens (runs r) ≤ 80 := by have := scan_sum r 80 0 none (fun s h => by cases h); simp at this; exact this
/-- Which columns the runs have. -/
theorem scan_mem (r : Nat → Bool) (j : Nat) : ∀ (d x : Nat) (o : Option Nat), (∀ s, o = some s → s ≤ x) → ((∃ p ∈ scan r d x o, p.1 ≤ j ∧ j < p.2) ↔ ((∃ s, o = some s ∧ s ≤ j ∧ j < x) ∨ (x ≤ j ∧ j < x + d ∧ r j = true)))
  | 0, x, none, _ => by simp [scan]; omega
  | 0, x, some s, h => by simp [scan]; omega
  | d + 1, x, none, _ => by
    simp only [scan]
    by_cases hr : r x = true
    · rw [if_pos hr, scan_mem r j d (x + 1) (some x) (fun s h => by injection h with h; omega)]
      simp only [Option.some.injEq, exists_eq_left', reduceCtorEq, false_and, exists_false, false_or]
      constructor
      · rintro (h | ⟨h1, h2, h3⟩)
        · have : j = x := by omega
          subst this; exact ⟨by omega, by omega, hr⟩
        · exact ⟨by omega, by omega, h3⟩
      · rintro ⟨h1, h2, h3⟩
        by_cases hj : j = x
        · exact .inl (by omega)
        · exact .inr ⟨by omega, by omega, h3⟩
    · rw [if_neg hr, scan_mem r j d (x + 1) none (fun s h => by cases h)]
      simp only [reduceCtorEq, false_and, exists_false, false_or]
      constructor
      · rintro ⟨h1, h2, h3⟩; exact ⟨by omega, by omega, h3⟩
      · rintro ⟨h1, h2, h3⟩
        have : j ≠ x := fun e => hr (e ▸ h3)
        exact ⟨by omega, by omega, h3⟩
  | d + 1, x, some s, h => by
    have hs := h s rfl
    simp only [scan]
    by_cases hr : r x = true
    · rw [if_pos hr, scan_mem r j d (x + 1) (some s) (fun s' h => by injection h with h; omega)]
      simp only [Option.some.injEq, exists_eq_left']
      constructor
      · rintro (h | ⟨h1, h2, h3⟩)
        · by_cases hj : j = x
          · subst hj; exact .inr ⟨by omega, by omega, hr⟩
          · exact .inl (by omega)
        · exact .inr ⟨by omega, by omega, h3⟩
      · rintro (h | ⟨h1, h2, h3⟩)
        · exact .inl (by omega)
        · by_cases hj : j = x
          · exact .inl (by omega)
          · exact .inr ⟨by omega, by omega, h3⟩
    · rw [if_neg hr]
      simp only [List.mem_cons, Option.some.injEq, exists_eq_left', exists_eq_or_imp]
      rw [scan_mem r j d (x + 1) none (fun s h => by cases h)]
      simp only [reduceCtorEq, false_and, exists_false, false_or]
      constructor
      · rintro (h | ⟨h1, h2, h3⟩)
        · exact .inl h
        · exact .inr ⟨by omega, by omega, h3⟩
      · rintro (h | ⟨h1, h2, h3⟩)
        · exact .inl h
        · have : j ≠ x := fun e => hr (e ▸ h3)
          exact .inr ⟨by omega, by omega, h3⟩
theorem runs_mem (r : Nat → Bool) (j : Nat) : (∃ p ∈ runs r, p.1 ≤ j ∧ j < p.2) ↔ (j < 80 ∧ r j = true) := by
  unfold runs
  rw [scan_mem r j 80 0 none (fun s h => by cases h)]
  simp
theorem runs_inj {r r' : Nat → Bool} (h : runs r = runs r') (j : Nat) (hj : j < 80) : r j = r' j := by
  rw [Bool.eq_iff_iff]
  have a := runs_mem r j
  have b := runs_mem r' j
  rw [h] at a
  constructor
  · intro h1; exact (b.1 (a.2 ⟨hj, h1⟩)).2
  · intro h1; exact (a.1 (b.2 ⟨hj, h1⟩)).2
/-! bands -/
def row (g : Nat → Bool) (y x : Nat) : Bool := g (y * 80 + x)
def rowEq (g : Nat → Bool) (y e : Nat) : Bool := (List.range 80).all fun x => g (e * 80 + x) == g (y * 80 + x)
theorem rowEq_iff {g : Nat → Bool} {y e : Nat} : rowEq g y e = true ↔ ∀ x, x < 80 → g (e * 80 + x) = g (y * 80 + x) := by simp [rowEq]
def bandEnd (g : Nat → Bool) (y : Nat) : Nat → Nat → Nat
  | 0, e => e
  | d + 1, e => if e < 80 ∧ rowEq g y e = true then bandEnd g y d (e + 1) else e
theorem bandEnd_ok (g : Nat → Bool) (y : Nat) : ∀ (d e : Nat), e ≤ 80 → 80 ≤ d + e → e ≤ bandEnd g y d e ∧ bandEnd g y d e ≤ 80 ∧ (∀ k, e ≤ k → k < bandEnd g y d e → rowEq g y k = true) ∧ (bandEnd g y d e = 80 ∨ rowEq g y (bandEnd g y d e) = false)
  | 0, e, h1, h2 => by
    have : e = 80 := by omega
    subst this
    exact ⟨Nat.le_refl _, Nat.le_refl _, fun k a b => by simp only [bandEnd] at b; omega, .inl rfl⟩
  | d + 1, e, h1, h2 => by
    simp only [bandEnd]
    by_cases h : e < 80 ∧ rowEq g y e = true
    · rw [if_pos h]
      obtain ⟨a, b, c, f⟩ := bandEnd_ok g y d (e + 1) (by omega) (by omega)
      refine ⟨by omega, b, fun k k1 k2 => ?_, f⟩
      by_cases hk : k = e
      · rw [hk]; exact h.2
      · exact c k (by omega) k2
    · rw [if_neg h]
      refine ⟨Nat.le_refl _, h1, fun k a b => by omega, ?_⟩
      by_cases he : e = 80
      · exact .inl he
      · right
        cases hr : rowEq g y e with
        | false => rfl
        | true => exact absurd ⟨by omega, hr⟩ h
theorem bandEnd_fuel (g : Nat → Bool) (y : Nat) : ∀ (d d' e : Nat), e ≤ 80 → 80 ≤ d + e → 80 ≤ d' + e → bandEnd g y d e = bandEnd g y d' e
  | 0, 0, e, _, _, _ => rfl
  | 0, d' + 1, e, h, h1, _ => by
    have : e = 80 := by omega
    subst this
    simp [bandEnd]
  | d + 1, 0, e, h, _, h2 => by
    have : e = 80 := by omega
    subst this
    simp [bandEnd]
  | d + 1, d' + 1, e, h, h1, h2 => by
    simp only [bandEnd]
    by_cases hc : e < 80 ∧ rowEq g y e = true
    · rw [if_pos hc, if_pos hc]
      exact bandEnd_fuel g y d d' (e + 1) (by omega) (by omega) (by omega)
    · rw [if_neg hc, if_neg hc]
def bEnd (g : Nat → Bool) (y : Nat) : Nat := bandEnd g y 80 (y + 1)
theorem bEnd_ok (g : Nat → Bool) (y : Nat) (h : y < 80) : y < bEnd g y ∧ bEnd g y ≤ 80 ∧ (∀ k, y ≤ k → k < bEnd g y → rowEq g y k = true) ∧ (bEnd g y = 80 ∨ rowEq g y (bEnd g y) = false) := by
  obtain ⟨a, b, c, d⟩ := bandEnd_ok g y 80 (y + 1) (by omega) (by omega)
  refine ⟨a, b, fun k k1 k2 => ?_, d⟩
  by_cases hk : k = y
  · rw [hk, rowEq_iff]; intro x _; rfl
  · exact c k (by omega) k2
def rectsOf (y e : Nat) (ps : List (Nat × Nat)) : List Rc := ps.map fun p => ⟨(p.1 : Int) - 40, (y : Int) - 40, (p.2 : Int) - 40, (e : Int) - 40⟩
def canonFrom (g : Nat → Bool) : Nat → Nat → List Rc
  | 0, _ => []
  | d + 1, y => if y < 80 then rectsOf y (bEnd g y) (runs (row g y)) ++ canonFrom g d (bEnd g y) else []
/-- The region of a set. -/
def canon (g : Nat → Bool) : List Rc := canonFrom g 80 0
theorem canonFrom_fuel (g : Nat → Bool) : ∀ (d d' y : Nat), 80 ≤ d + y → 80 ≤ d' + y → canonFrom g d y = canonFrom g d' y
  | 0, 0, y, _, _ => rfl
  | 0, d' + 1, y, h1, _ => by simp only [canonFrom]; rw [if_neg (by omega)]
  | d + 1, 0, y, _, h2 => by simp only [canonFrom]; rw [if_neg (by omega)]
  | d + 1, d' + 1, y, h1, h2 => by
    simp only [canonFrom]
    by_cases hy : y < 80
    · rw [if_pos hy, if_pos hy]
      have := (bEnd_ok g y hy).1
      rw [canonFrom_fuel g d d' (bEnd g y) (by omega) (by omega)]
    · rw [if_neg hy, if_neg hy]
theorem bandEnd_congr {g g' : Nat → Bool} (h : ∀ i, i < 6400 → g i = g' i) (y : Nat) (hy : y < 80) : ∀ d e, bandEnd g y d e = bandEnd g' y d e
  | 0, e => rfl
  | d + 1, e => by
    simp only [bandEnd]
    have : (e < 80 ∧ rowEq g y e = true) ↔ (e < 80 ∧ rowEq g' y e = true) := by
      refine and_congr_right (fun he => ?_)
      rw [rowEq_iff, rowEq_iff]
      refine forall_congr' (fun x => imp_congr_right (fun hx => ?_))
      rw [h _ (by omega), h _ (by omega)]
    rw [bandEnd_congr h y hy d (e + 1)]
    by_cases hc : e < 80 ∧ rowEq g y e = true
    · rw [if_pos hc, if_pos (this.1 hc)]
    · rw [if_neg hc, if_neg (fun x => hc (this.2 x))]
theorem canonFrom_congr {g g' : Nat → Bool} (h : ∀ i, i < 6400 → g i = g' i) : ∀ d y, canonFrom g d y = canonFrom g' d y
  | 0, y => rfl
  | d + 1, y => by
    simp only [canonFrom]
    by_cases hy : y < 80
    · rw [if_pos hy, if_pos hy]
      have h1 : bEnd g y = bEnd g' y := bandEnd_congr h y hy 80 (y + 1)
      have h2 : runs (row g y) = runs (row g' y) := runs_congr (fun j hj => h _ (by omega))
      rw [h1, h2, canonFrom_congr h d]
    · rw [if_neg hy, if_neg hy]
theorem canon_congr {g g' : Nat → Bool} (h : ∀ i, i < 6400 → g i = g' i) : canon g = canon g' := canonFrom_congr h 80 0
theorem rects_ok {y e : Nat} (h1 : y < e) (h2 : e ≤ 80) {g : Nat → Bool} : ∀ r ∈ rectsOf y e (runs g), okR r = true := by
  intro r hr
  obtain ⟨p, hp, rfl⟩ := List.mem_map.1 hr
  obtain ⟨a, b, c⟩ := scan_ok g 80 0 none (fun s h => by cases h) p hp
  unfold okR
  rw [decide_eq_true_eq]
  dsimp only
  omega
theorem canonFrom_ok (g : Nat → Bool) : ∀ d y, ∀ r ∈ canonFrom g d y, okR r = true
  | 0, y, r, hr => by cases hr
  | d + 1, y, r, hr => by
    simp only [canonFrom] at hr
    by_cases hy : y < 80
    · rw [if_pos hy] at hr
      rcases List.mem_append.1 hr with h | h
      · exact rects_ok (bEnd_ok g y hy).1 (bEnd_ok g y hy).2.1 r h
      · exact canonFrom_ok g d _ r h
    · rw [if_neg hy] at hr; cases hr
theorem canon_ok (g : Nat → Bool) : ∀ r ∈ canon g, okR r = true := canonFrom_ok g 80 0
theorem canonFrom_len (g : Nat → Bool) : ∀ d y, (canonFrom g d y).length ≤ 40 * d
  | 0, y => by simp [canonFrom]
  | d + 1, y => by
    simp only [canonFrom]
    by_cases hy : y < 80
    · rw [if_pos hy, List.length_append, rectsOf, List.length_map]
      have := canonFrom_len g d (bEnd g y)
      have := runs_len (row g y)
      omega
    · rw [if_neg hy]; simp
theorem canon_len (g : Nat → Bool) : (canon g).length ≤ 3200 := canonFrom_len g 80 0
def area (r : Rc) : Int := (r.f2 - r.f0) * (r.f3 - r.f1)
def areas (l : List Rc) : Int := (l.map area).sum
theorem areas_append (l m : List Rc) : areas (l ++ m) = areas l + areas m := by simp [areas]
theorem area_pos {r : Rc} (h : okR r = true) : 0 ≤ area r ∧ area r ≤ 6400 := by
  have := okR_b h
  unfold area
  have h1 : 0 ≤ (r.f2 - r.f0) * (r.f3 - r.f1) := Int.mul_nonneg (by omega) (by omega)
  have h2 : (r.f2 - r.f0) * (r.f3 - r.f1) ≤ 80 * 80 := Int.mul_le_mul (by omega) (by omega) (by omega) (by omega)
  omega
theorem rects_area (y e : Nat) (h : y ≤ e) : ∀ (l : List (Nat × Nat)), (∀ p ∈ l, p.1 ≤ p.2) → areas (rectsOf y e l) = (lens l : Int) * ((e : Int) - y)
  | [], _ => by simp [areas, rectsOf, lens]
  | p :: l, hp => by
    have h1 := rects_area y e h l (fun q hq => hp q (by simp [hq]))
    have h2 := hp p (by simp)
    have e1 : areas (rectsOf y e (p :: l)) = ((p.2 : Int) - 40 - (p.1 - 40)) * ((e : Int) - 40 - (y - 40)) + areas (rectsOf y e l) := by
      simp only [rectsOf, List.map_cons, areas, List.sum_cons, area]
    have e2 : (lens (p :: l) : Int) = ((p.2 : Int) - p.1) + lens l := by
      simp only [lens, List.map_cons, List.sum_cons]
      omega
    rw [e1, h1, e2, Int.add_mul]
    congr 1
    rw [show (p.2 : Int) - 40 - (p.1 - 40) = p.2 - p.1 from by omega, show (e : Int) - 40 - (y - 40) = e - y from by omega]
theorem canonFrom_area (g : Nat → Bool) : ∀ d y, y ≤ 80 → areas (canonFrom g d y) ≤ 80 * (80 - (y : Int))
  | 0, y, h => by simp [canonFrom, areas]; omega
  | d + 1, y, h => by
    simp only [canonFrom]
    by_cases hy : y < 80
    · rw [if_pos hy, areas_append]
      obtain ⟨a, b, _, _⟩ := bEnd_ok g y hy
      have h1 := canonFrom_area g d (bEnd g y) b
      rw [rects_area y (bEnd g y) (by omega) _ (fun p hp => by have := (scan_ok (row g y) 80 0 none (fun s h => by cases h) p hp).1; omega)]
      have h2 := runs_sum (row g y)
      have h3 : (lens (runs (row g y)) : Int) * ((bEnd g y : Int) - y) ≤ 80 * ((bEnd g y : Int) - y) := Int.mul_le_mul_of_nonneg_right (by omega) (by omega)
      omega
    · rw [if_neg hy]; simp [areas]; omega
theorem canon_area (g : Nat → Bool) : areas (canon g) ≤ 6400 := by have := canonFrom_area g 80 0 (by omega); simpa [canon] using this
theorem cov_rects (y e : Nat) (r : Nat → Bool) (i : Nat) : cov (rectsOf y e (runs r)) i = true ↔ (y ≤ i / 80 ∧ i / 80 < e ∧ r (i % 80) = true) := by
  rw [cov_iff]
  have hm := runs_mem r (i % 80)
  constructor
  · rintro ⟨q, hq, hi⟩
    obtain ⟨p, hp, rfl⟩ := List.mem_map.1 hq
    unfold inR at hi
    rw [decide_eq_true_eq] at hi
    dsimp only at hi
    exact ⟨by omega, by omega, (hm.1 ⟨p, hp, by omega, by omega⟩).2⟩
  · rintro ⟨h1, h2, h3⟩
    obtain ⟨p, hp, p1, p2⟩ := hm.2 ⟨by omega, h3⟩
    refine ⟨_, List.mem_map.2 ⟨p, hp, rfl⟩, ?_⟩
    unfold inR
    rw [decide_eq_true_eq]
    dsimp only
    omega
theorem cov_canonFrom (g : Nat → Bool) (i : Nat) (hi : i < 6400) : ∀ d y, 80 ≤ d + y → (cov (canonFrom g d y) i = true ↔ (y ≤ i / 80 ∧ g i = true))
  | 0, y, h => by simp [canonFrom, cov]; omega
  | d + 1, y, h => by
    simp only [canonFrom]
    by_cases hy : y < 80
    · rw [if_pos hy, cov_append, Bool.or_eq_true, cov_rects]
      obtain ⟨a, b, c, _⟩ := bEnd_ok g y hy
      rw [cov_canonFrom g i hi d (bEnd g y) (by omega)]
      constructor
      · rintro (⟨h1, h2, h3⟩ | ⟨h1, h2⟩)
        · refine ⟨h1, ?_⟩
          have := rowEq_iff.1 (c (i / 80) h1 h2) (i % 80) (by omega)
          rw [show i / 80 * 80 + i % 80 = i from by omega] at this
          rw [this]
          exact h3
        · exact ⟨by omega, h2⟩
      · rintro ⟨h1, h2⟩
        by_cases he : i / 80 < bEnd g y
        · left
          refine ⟨h1, he, ?_⟩
          have := rowEq_iff.1 (c (i / 80) h1 he) (i % 80) (by omega)
          rw [show i / 80 * 80 + i % 80 = i from by omega] at this
          show g (y * 80 + i % 80) = true
          rw [← this]
          exact h2
        · exact .inr ⟨by omega, h2⟩
    · rw [if_neg hy]
      simp [cov]
      omega
theorem cov_canon (g : Nat → Bool) (i : Nat) (hi : i < 6400) : cov (canon g) i = g i := by
  rw [Bool.eq_iff_iff]
  have := cov_canonFrom g i hi 80 0 (by omega)
  simpa [canon] using this
/-- A region: valid rectangles, just those of the cells that they cover. -/
def isReg (l : List Rc) : Bool := decide (l.length ≤ 3200) && l.all okR && decide (canon (cov l) = l)
theorem canon_isReg (g : Nat → Bool) : isReg (canon g) = true := by
  unfold isReg
  rw [decide_eq_true (canon_len g), List.all_eq_true.2 (canon_ok g), Bool.true_and, Bool.true_and, decide_eq_true_eq]
  exact canon_congr (fun i hi => cov_canon g i hi)
theorem isReg_b {l : List Rc} (h : isReg l = true) : l.length ≤ 3200 ∧ (∀ r ∈ l, okR r = true) ∧ canon (cov l) = l := by
  unfold isReg at h
  rw [Bool.and_eq_true, Bool.and_eq_true, decide_eq_true_eq, decide_eq_true_eq, List.all_eq_true] at h
  exact ⟨h.1.1, h.1.2, h.2⟩
end Go.Proofs.Ytncjjplpenjghaa.G

/-! ### Boxes -/
/- Several blocks whose cells are known, the newest first; and steps of a walk by hand over them: a struct's box made, written whole, read whole. -/
set_option linter.unusedVariables false
set_option linter.unusedSimpArgs false
namespace Go.Proofs.Ytncjjplpenjghaa.H
open Go.RowKit Go.Proofs.YtncjjplpenjghaaW.PrintWords Go.Proofs.YtncjjplpenjghaaW.PrintLast

/-- The blocks, newest first. -/
def Bxs (w : World) : List (Nat × Array Value × Nat) → Prop
  | [] => True
  | x :: l => Box w x.1 x.2.1 x.2.2 ∧ (∀ y ∈ l, y.1 ≠ x.1) ∧ Bxs w l
section
variable {w w' : World} {l : List (Nat × Array Value × Nat)}
theorem Bxs.lt : ∀ {l : List (Nat × Array Value × Nat)}, Bxs w l → ∀ y ∈ l, y.1 < w.heap.size
  | [], _, y, hy => by cases hy
  | x :: l, h, y, hy => by
    rcases List.mem_cons.1 hy with rfl | hy
    · exact h.1.lt
    · exact Bxs.lt h.2.2 y hy
theorem Bxs.at : ∀ {l : List (Nat × Array Value × Nat)}, Bxs w l → ∀ {g : Nat} {cs : Array Value} {t : Nat}, (g, cs, t) ∈ l → Box w g cs t
  | [], _, _, _, _, hy => by cases hy
  | x :: l, h, _, _, _, hy => by
    rcases List.mem_cons.1 hy with rfl | hy
    · exact h.1
    · exact Bxs.at h.2.2 hy
theorem Bxs.below (hb : Below w.heap.size w w') : ∀ {l : List (Nat × Array Value × Nat)}, Bxs w l → Bxs w' l
  | [], _ => trivial
  | _ :: _, h => ⟨h.1.below hb, h.2.1, Bxs.below hb h.2.2⟩
theorem Bxs.keep {g : Nat} (hk : KeepBut w w' g none) : ∀ {l : List (Nat × Array Value × Nat)}, Bxs w l → (∀ y ∈ l, y.1 ≠ g) → Bxs w' l
  | [], _, _ => trivial
  | x :: l, h, hg => ⟨hk.blk h.1 (hg x (by simp)) (by simp), h.2.1, Bxs.keep hk h.2.2 (fun y hy => hg y (by simp [hy]))⟩
theorem Bxs.push {g t : Nat} {cs : Array Value} (h : Bxs w l) (hg : w.heap.size ≤ g) (hb : Below w.heap.size w w') (hx : Box w' g cs t) : Bxs w' ((g, cs, t) :: l) :=
  ⟨hx, fun y hy => by have := h.lt y hy; show y.1 ≠ g; omega, h.below hb⟩
theorem Bxs.skip {g t : Nat} {cs : Array Value} (h : Bxs w ((g, cs, t) :: l)) : Bxs w l := h.2.2
theorem Bxs.drew (h : Bxs w l) : Bxs w.drew l := Bxs.below (w' := w.drew) (Below.refl w.heap.size w).drew h
/-- The newest block, written. -/
theorem Bxs.set0 {g t : Nat} {cs cs' : Array Value} (h : Bxs w ((g, cs, t) :: l)) (hx : Box w' g cs' t) (hk : KeepBut w w' g none) : Bxs w' ((g, cs', t) :: l) :=
  ⟨hx, h.2.1, Bxs.keep hk h.2.2 h.2.1⟩
/-- The second newest block, written. -/
theorem Bxs.set1 {x : Nat × Array Value × Nat} {g t : Nat} {cs cs' : Array Value} (h : Bxs w (x :: (g, cs, t) :: l)) (hx : Box w' g cs' t) (hk : KeepBut w w' g none) : Bxs w' (x :: (g, cs', t) :: l) := by
  obtain ⟨h0, h1, h2⟩ := h
  have hne : x.1 ≠ g := fun e => h1 (g, cs, t) (by simp) e.symm
  exact ⟨hk.blk h0 hne (by simp), fun y hy => by
    rcases List.mem_cons.1 hy with rfl | hy
    · exact hne.symm
    · exact h1 y (by simp [hy]), Bxs.set0 h2 hx hk⟩
end

section
variable {P : Program} {ops : Array Oper} {o : Oper} {rest : List Oper} {a : Act} {Q : Exit → Act → World → Prop} {W : World}
theorem keep_setRow (W : World) (g : Nat) (cs : Array Value) : KeepBut W (W.setRow g cs) g none :=
  ⟨by simp, fun i _ hi _ => setRow_other W g i cs hi⟩
theorem Below.setRow' {n g : Nat} {w0 w w1 : World} (h : Below n w0 w) (hg : n ≤ g) (hb : ∀ n, n ≤ g → Below n w w1) : Below n w0 w1 := h.trans (hb n hg)
/-- A box is written whole. -/
theorem box_store (hgd : o.guard = none) (ty : TypeId) (x y : Operand) (ho : o.op = .store ty x y) (hd : o.dst = none)
    (g : Nat) (cells : Array Value) (hx : a.eval x = .pointer (some ⟨g, 0, none⟩)) (hy : a.eval y = .agg cells)
    {t : Nat} {old : Array Value} (hg : Box W g old t) (hi : (P.info? ty).map (·.size) = some cells.size)
    (hold : old.size = cells.size) (h1 : cells.all (·.oneCell') = true)
    (h : ∀ w1, Box w1 g cells t → KeepBut W w1 g none → (∀ n, n ≤ g → Below n W w1) → wpList P ops Q rest a w1) : wpList P ops Q (o :: rest) a W :=
  wpList_store_row hgd ty x y ho g cells hx hy t old hg hi hold h1
    (by rw [hd]; exact h _ (setRow_heap W g old cells t (0, 0) hg) (keep_setRow W g cells) (fun n hn => ⟨rfl, rfl, rfl, by simp, fun i hi => setRow_other W g i cells (by omega)⟩))
/-- A box is read whole. -/
theorem box_load (hgd : o.guard = none) (ty : TypeId) (x : Operand) (ho : o.op = .load ty x)
    (g : Nat) (hx : a.eval x = .pointer (some ⟨g, 0, none⟩)) {t : Nat} {cs : Array Value} (hg : Box W g cs t) (d : TypeDesc)
    (hu : P.underlying ty = some d) (hd : (match d with | .struct _ | .array _ _ => true | _ => false) = true) (hi : (P.info? ty).map (·.size) = some cs.size)
    (h : wpList P ops Q rest (a.put o.dst (.agg cs)) W) : wpList P ops Q (o :: rest) a W :=
  wpList_load_row hgd ty x ho g hx t cs (0, 0) d hg hu hd hi h
end
end Go.Proofs.Ytncjjplpenjghaa.H

/-! ### Reg -/
/- A region that draws its order, walked once in the order of its text: what each operation yields holds in every world that meets S (S: for example, 'nothing that stood has changed'). -/
set_option linter.unusedVariables false
set_option linter.unusedSimpArgs false
namespace Go.Proofs.Ytncjjplpenjghaa.H
open Go.RowKit Go.Proofs.YtncjjplpenjghaaW.PrintWords Go.Proofs.YtncjjplpenjghaaW.PrintLast
/-- The bits of what each operation waits for. -/
def bitsOf (T : List (List Nat × List Nat)) : List Nat := T.foldl (fun B r => B ++ [r.1.foldl (fun m n => m ||| (1 <<< n) ||| B.getD n 0) 0]) []
/-- What an operation looks at was filled by what it waits for; no two fill one slot; none looks at its own. -/
def lookOk (ops : Array Oper) (B : List Nat) : Bool :=
  (List.range ops.size).all fun i => match ops[i]? with
    | some o => (List.range ops.size).all fun j => match ops[j]? with
      | some oj => match oj.dst with
        | some d => (!(o.looksAt ops).contains d || (decide (j < i) && (B.getD i 0).testBit j)) && (j == i || !(o.dst == some d))
        | none => true
      | none => true
    | none => true
def regOk (ops : Array Oper) : Bool := (rtab .any ops).1 && waitsOk (rtab .any ops).2 (bitsOf (rtab .any ops).2) && baseOk (rtab .any ops).2 (List.range (rtab .any ops).2.length) && decide ((rtab .any ops).2.length = ops.size) && lookOk ops (bitsOf (rtab .any ops).2)
section
variable {P : Program} {ops : Array Oper} {Q : Exit → Act → World → Prop} {S : World → Prop}
/-- What an operation does in every world that meets S. -/
def Does (P : Program) (S : World → Prop) (a : Act) (o : Oper) (v : Value) : Prop :=
  (∀ w, S w → (execOp a.eval o).run P w = .ok (.value v) w) ∨
  (∃ f args, ∀ w, S w → (execOp a.eval o).run P w = .ok (.enter f args) w ∧ Calls P f args w fun e w' => e = .returned v ∧ S w')
def wpG (P : Program) (ops : Array Oper) (Q : Exit → Act → World → Prop) (S : World → Prop) : List Oper → Act → Prop
  | [], a => ∀ w, S w → Q .normal a w
  | o :: rest, a => (Region.wanted o (yielded ops a.tmps) = false ∧ wpG P ops Q S rest (a.put o.dst undef)) ∨ (Region.wanted o (yielded ops a.tmps) = true ∧ ∃ v, Does P S a o v ∧ wpG P ops Q S rest (a.put o.dst v))
def putL : Act → List Oper → List Value → Act
  | a, o :: l, v :: vs => putL (a.put o.dst v) l vs
  | a, _, _ => a
def StepG (P : Program) (ops : Array Oper) (S : World → Prop) (a : Act) (o : Oper) (v : Value) : Prop :=
  (Region.wanted o (yielded ops a.tmps) = false ∧ v = undef) ∨ (Region.wanted o (yielded ops a.tmps) = true ∧ Does P S a o v)
theorem wpG_vals : ∀ (l : List Oper) (a : Act), wpG P ops Q S l a → ∃ vs : List Value, vs.length = l.length ∧ (∀ (i : Nat) o v, l[i]? = some o → vs[i]? = some v → StepG P ops S (putL a (l.take i) vs) o v) ∧ ∀ w, S w → Q .normal (putL a l vs) w
  | [], a, h => ⟨[], rfl, fun i o v h => by simp at h, h⟩
  | o :: rest, a, h => by
    have key : ∃ v, StepG P ops S a o v ∧ wpG P ops Q S rest (a.put o.dst v) := by
      rcases h with ⟨h1, h2⟩ | ⟨h1, v, h2, h3⟩
      · exact ⟨undef, .inl ⟨h1, rfl⟩, h2⟩
      · exact ⟨v, .inr ⟨h1, h2⟩, h3⟩
    obtain ⟨v, h1, h2⟩ := key
    obtain ⟨vs, hl, hs, hq⟩ := wpG_vals rest _ h2
    refine ⟨v :: vs, by simp [hl], fun i o' v' ho hv => ?_, hq⟩
    cases i with
    | zero =>
      simp only [List.getElem?_cons_zero, Option.some.injEq] at ho hv
      subst ho hv
      exact h1
    | succ i => exact hs i o' v' (by simpa using ho) (by simpa using hv)
theorem putL_snoc : ∀ (l : List Oper) (vs : List Value) (a : Act) (i : Nat) (o : Oper) (v : Value), l[i]? = some o → vs[i]? = some v → putL a (l.take (i + 1)) vs = (putL a (l.take i) vs).put o.dst v
  | [], _, _, _, _, _, h, _ => by simp at h
  | o :: l, [], _, _, _, _, _, h => by simp at h
  | o :: l, v :: vs, a, 0, o', v', h, h' => by
    simp only [List.getElem?_cons_zero, Option.some.injEq] at h h'
    subst h h'
    cases l <;> rfl
  | o :: l, v :: vs, a, i + 1, o', v', h, h' => putL_snoc l vs (a.put o.dst v) i o' v' (by simpa using h) (by simpa using h')
/-- The entries of the slots that the region fills. -/
def ents (ops : Array Oper) (vs : List Value) : List (Nat × Tmp × Value) := (List.range ops.size).filterMap fun i => ((ops[i]?).bind fun o => o.dst).map fun t => (i, t, vs.getD i undef)
theorem mem_ents {vs : List Value} {e : Nat × Tmp × Value} (h : e ∈ ents ops vs) : ∃ o, ops[e.1]? = some o ∧ o.dst = some e.2.1 ∧ e.2.2 = vs.getD e.1 undef := by
  obtain ⟨i, hi, he⟩ := List.mem_filterMap.1 h
  obtain ⟨t, ht, rfl⟩ := Option.map_eq_some_iff.1 he
  obtain ⟨o, ho, hd⟩ := Option.bind_eq_some_iff.1 ht
  exact ⟨o, ho, hd, rfl⟩
theorem putSel_congr {t : Tmp} {b b' : Nat → Bool} : ∀ {L : List (Nat × Tmp × Value)} {a a' : Act}, (∀ e ∈ L, e.2.1 = t → b e.1 = b' e.1) → a.tmps[t]? = a'.tmps[t]? → a.tmps.size = a'.tmps.size → (putSel a b L).tmps[t]? = (putSel a' b' L).tmps[t]?
  | [], _, _, _, h, _ => h
  | e :: r, a, a', h, ht, hz => by
    unfold putSel
    by_cases he : e.2.1 = t
    · rw [← h e (by simp) he]
      cases b e.1
      · exact putSel_congr (fun x hx => h x (by simp [hx])) ht hz
      · simp only [if_true]
        refine putSel_congr (fun x hx => h x (by simp [hx])) ?_ (by simp [Act.put, hz])
        subst he
        simp [Act.put, Array.getElem?_setIfInBounds, hz]
    · refine putSel_congr (fun x hx => h x (by simp [hx])) ?_ ?_
      · split <;> split <;> simp [Act.put, Array.getElem?_setIfInBounds_ne he, ht]
      · split <;> split <;> simp [Act.put, hz]
theorem putL_sel (vs : List Value) (a : Act) (hd : ∀ (i : Nat) (o : Oper) (j : Nat) (o' : Oper), ops[i]? = some o → ops[j]? = some o' → i ≠ j → ∀ t, o.dst = some t → o'.dst ≠ some t) (hl : vs.length = ops.size) :
    ∀ i, i ≤ ops.size → putL a (ops.toList.take i) vs = putSel a (fun j => decide (j < i)) (ents ops vs)
  | 0, _ => by
    have : ∀ (L : List (Nat × Tmp × Value)) (a : Act), putSel a (fun j => decide (j < 0)) L = a := by
      intro L
      induction L with
      | nil => intro a; rfl
      | cons e r ih => intro a; unfold putSel; simpa using ih a
    rw [this]
    cases vs <;> rfl
  | i + 1, hi => by
    obtain ⟨o, ho⟩ : ∃ o, ops[i]? = some o := ⟨ops[i], Array.getElem?_eq_getElem (by omega)⟩
    obtain ⟨v, hv⟩ : ∃ v, vs[i]? = some v := ⟨vs[i]'(by omega), List.getElem?_eq_getElem (by omega)⟩
    rw [putL_snoc _ _ _ i o v (by simpa using ho) hv, putL_sel vs a hd hl i (by omega)]
    have hup : (fun j => decide (j < i + 1)) = up (fun j => decide (j < i)) i := by
      funext j
      unfold up
      by_cases h : j = i
      · subst h; simp
      · rw [if_neg h]; congr 1; apply propext; omega
    rw [hup]
    cases hdst : o.dst with
    | none =>
      refine putSel_none ?_
      rw [List.all_eq_true]
      intro e he
      obtain ⟨o', ho', hd', _⟩ := mem_ents he
      have : e.1 ≠ i := fun h => by rw [h, ho] at ho'; injection ho' with h2; rw [← h2, hdst] at hd'; cases hd'
      simp [this]
    | some t =>
      have hspl : ents ops vs = ((List.range i).filterMap fun i => ((ops[i]?).bind fun o => o.dst).map fun t => (i, t, vs.getD i undef)) ++ (i, t, v) :: ((List.range' (i + 1) (ops.size - (i + 1))).filterMap fun i => ((ops[i]?).bind fun o => o.dst).map fun t => (i, t, vs.getD i undef)) := by
        have h1 : List.range ops.size = List.range i ++ i :: List.range' (i + 1) (ops.size - (i + 1)) := by
          rw [List.range_eq_range', List.range_eq_range']
          have h3 : List.range' 0 ops.size = List.range' 0 i ++ List.range' i (ops.size - i) := by
            have := List.range'_append_1 (s := 0) (m := i) (n := ops.size - i)
            rw [Nat.zero_add, show i + (ops.size - i) = ops.size from by omega] at this
            exact this.symm
          rw [h3, show ops.size - i = (ops.size - (i + 1)) + 1 from by omega, List.range'_succ]
        have h2 : vs.getD i undef = v := by simp [List.getD_eq_getElem?_getD, hv]
        unfold ents
        rw [h1, List.filterMap_append, List.filterMap_cons]
        simp only [ho, Option.bind_some, hdst, Option.map_some, h2]
      rw [hspl]
      refine putSel_up (by simp) ?_
      rw [List.all_eq_true]
      intro e he
      have hmem : e ∈ ents ops vs ∧ e.1 ≠ i := by
        rw [hspl]
        rcases List.mem_append.1 he with h | h
        · refine ⟨List.mem_append_left _ h, ?_⟩
          obtain ⟨j, hj, hj2⟩ := List.mem_filterMap.1 h
          obtain ⟨t', _, rfl⟩ := Option.map_eq_some_iff.1 hj2
          have := List.mem_range.1 hj
          show j ≠ i
          omega
        · refine ⟨List.mem_append_right _ (List.mem_cons_of_mem _ h), ?_⟩
          obtain ⟨j, hj, hj2⟩ := List.mem_filterMap.1 h
          obtain ⟨t', _, rfl⟩ := Option.map_eq_some_iff.1 hj2
          have := List.mem_range'_1.1 hj
          show j ≠ i
          omega
      obtain ⟨o', ho', hd', _⟩ := mem_ents hmem.1
      have h3 : e.2.1 ≠ t := fun h => hd i o e.1 o' ho ho' (fun x => hmem.2 x.symm) t hdst (by rw [hd', h])
      simp [hmem.2, h3]
theorem lookOk_dst {B : List Nat} (h : lookOk ops B = true) (i : Nat) (o : Oper) (j : Nat) (oj : Oper) (hi : ops[i]? = some o) (hj : ops[j]? = some oj) (t : Tmp) (ht : oj.dst = some t) :
    (t ∈ o.looksAt ops → j < i ∧ (B.getD i 0).testBit j = true) ∧ (j = i ∨ o.dst ≠ some t) := by
  have h1 := List.all_eq_true.1 h i (List.mem_range.2 (Array.getElem?_eq_some_iff.1 hi).1)
  rw [hi] at h1
  have h2 := List.all_eq_true.1 h1 j (List.mem_range.2 (Array.getElem?_eq_some_iff.1 hj).1)
  rw [hj] at h2
  simp only [ht, Bool.and_eq_true, Bool.or_eq_true, Bool.not_eq_true', decide_eq_true_eq, beq_iff_eq, beq_eq_false_iff_ne] at h2
  refine ⟨fun hm => ?_, h2.2⟩
  rcases h2.1 with h3 | h3
  · rw [List.contains_iff_mem.2 hm] at h3
    cases h3
  · exact h3
theorem look_same {a a' : Act} {o : Oper} (hs : ∀ cs b, o.op ≠ .select cs b) (h : ∀ t ∈ o.looksAt ops, a.tmps[t]? = a'.tmps[t]?) : execOp a.eval o = execOp a'.eval o ∧ Region.wanted o (yielded ops a.tmps) = Region.wanted o (yielded ops a'.tmps) := by
  constructor
  · refine execOp_congr o hs (fun x hx => ?_)
    cases x with
    | tmp t =>
      have := h t (List.mem_append_left _ (List.mem_filterMap.2 ⟨.tmp t, by simpa using hx, rfl⟩))
      simp [Act.eval, Array.getD_eq_getD_getElem?, this]
    | _ => rfl
  · unfold Region.wanted
    cases hg : o.guard with
    | none => rfl
    | some gw =>
      obtain ⟨g, want⟩ := gw
      have hy : yielded ops a.tmps g = yielded ops a'.tmps g := by
        unfold yielded
        cases ht : (ops[g]?).bind (·.dst) with
        | none => rfl
        | some t =>
          have := h t (List.mem_append_right _ (by simp [hg, ht]))
          simp [this]
      simp only [hy]
/-- THE REGION, WHATEVER ORDER IS DRAWN, by one walk in the order of its text. -/
theorem region_seq {id : Nat} {a : Act} {W : World} (S : World → Prop) (hm : P.follows .mixedOrders = true) (hok : regOk ops = true) (hS : S W.drew) (h : wpG P ops Q S ops.toList a) : (Code.region id ops true).wp P Q a W := by
  simp only [regOk, Bool.and_eq_true, decide_eq_true_eq] at hok
  obtain ⟨⟨⟨⟨h1, h2⟩, h3⟩, h4⟩, h5⟩ := hok
  have hsel : Region.noSelect ops = true := h1
  obtain ⟨vs, hl, hstep, hq⟩ := wpG_vals _ _ h
  have hl : vs.length = ops.size := hl.trans Array.length_toList
  have hd : ∀ (i : Nat) (o : Oper) (j : Nat) (o' : Oper), ops[i]? = some o → ops[j]? = some o' → i ≠ j → ∀ t, o.dst = some t → o'.dst ≠ some t := by
    intro i o j o' hi hj hne t ht ht'
    rcases (lookOk_dst h5 i o j o' hi hj t ht').2 with h | h
    · exact hne h.symm
    · exact h ht
  refine wp_region_last (S := fun _ => True) (ds := []) hm ?_
  refine inv_ (T := rtab .any ops) (B := bitsOf (rtab .any ops).2) (List.range (rtab .any ops).2.length) (fun b a' w' => S w' ∧ a' = putSel a b (ents ops vs)) rfl h2 h3 ?_ ⟨hS, ?_⟩ ?_ ?_
  · rw [h4]
    simp only [List.length_range, beq_self_eq_true, Bool.and_true]
    rw [beq_iff_eq]
    apply List.ext_getElem?
    intro j
    by_cases hj : j < ops.size
    · simp only [lof, List.getElem?_map, List.getElem?_range hj, Option.map_some]
      rw [List.contains_iff_mem.2 (List.mem_range.2 hj)]
      simp [hj]
    · rw [List.getElem?_eq_none (by simp [lof]; omega), List.getElem?_eq_none (by simp; omega)]
  · have : ∀ (L : List (Nat × Tmp × Value)) (a : Act), a = putSel a (fun _ => false) L := by
      intro L
      induction L with
      | nil => intro a; rfl
      | cons e r ih => intro a; unfold putSel; simpa using ih a
    exact this _ _
  · intro i hi b a' w' hI hb hon hoff
    obtain ⟨hSw, rfl⟩ := hI
    have hin : i < ops.size := by have := List.mem_range.1 hi; omega
    obtain ⟨o, ho⟩ : ∃ o, ops[i]? = some o := ⟨ops[i], Array.getElem?_eq_getElem hin⟩
    obtain ⟨v, hv⟩ : ∃ v, vs[i]? = some v := ⟨vs[i]'(by omega), List.getElem?_eq_getElem (by omega)⟩
    refine ⟨o, ho, fun K hK => ?_⟩
    have hst := hstep i o v (by simpa using ho) hv
    rw [putL_sel vs a hd hl i (by omega)] at hst
    have hso := Region.noSelect_spec hsel i o
    have hsame := look_same (ops := ops) (o := o) (a := putSel a b (ents ops vs)) (a' := putSel a (fun j => decide (j < i)) (ents ops vs)) (fun cs b => hso cs b ho) (fun t ht => by
      refine putSel_congr (fun e he het => ?_) rfl rfl
      obtain ⟨oj, hoj, hdj, _⟩ := mem_ents he
      obtain ⟨k1, k2⟩ := (lookOk_dst h5 i o e.1 oj ho hoj t (by rw [hdj, het])).1 ht
      rw [hon e.1 (by rw [Bool.and_eq_true]; exact ⟨List.contains_iff_mem.2 (List.mem_range.2 (by rw [h4]; exact (Array.getElem?_eq_some_iff.1 hoj).1)), k2⟩)]
      exact (decide_eq_true k1).symm)
    have hput : ∀ w'', S w'' → K ((putSel a b (ents ops vs)).put o.dst v) w'' := by
      intro w'' hS''
      refine hK _ _ ⟨hS'', ?_⟩
      cases hdst : o.dst with
      | none =>
        refine putSel_none ?_
        rw [List.all_eq_true]
        intro e he
        obtain ⟨o', ho', hd', _⟩ := mem_ents he
        have : e.1 ≠ i := fun h => by rw [h, ho] at ho'; injection ho' with h2; rw [← h2, hdst] at hd'; cases hd'
        simp [this]
      | some t =>
        have hvd : vs.getD i undef = v := by simp [List.getD_eq_getElem?_getD, hv]
        have hme : (i, t, v) ∈ ents ops vs := List.mem_filterMap.2 ⟨i, List.mem_range.2 hin, by simp [ho, hdst, hv]⟩
        obtain ⟨L1, L2, hLL⟩ := List.append_of_mem hme
        rw [hLL]
        refine putSel_up hb ?_
        rw [List.all_eq_true]
        intro e he
        have hnd : (ents ops vs).Pairwise (fun x y => x.1 < y.1) := by
          unfold ents
          refine List.Pairwise.filterMap _ ?_ (List.pairwise_lt_range)
          intro x y hxy e1 he1 e2 he2
          obtain ⟨_, _, rfl⟩ := Option.map_eq_some_iff.1 he1
          obtain ⟨_, _, rfl⟩ := Option.map_eq_some_iff.1 he2
          exact hxy
        rw [hLL] at hnd
        have hne : e.1 ≠ i := by
          rw [List.pairwise_append] at hnd
          rcases List.mem_append.1 he with h | h
          · have := hnd.2.2 e h (i, t, v) (by simp); show e.1 ≠ i; have h2 : e.1 < i := this; omega
          · have := (List.pairwise_cons.1 hnd.2.1).1 e h; show e.1 ≠ i; have h2 : i < e.1 := this; omega
        obtain ⟨o', ho', hd', _⟩ := mem_ents (vs := vs) (e := e) (by rw [hLL]; rcases List.mem_append.1 he with h | h <;> simp [h])
        have h3 : e.2.1 ≠ t := fun h => hd i o e.1 o' ho ho' (fun x => hne x.symm) t hdst (by rw [hd', h])
        simp [hne, h3]
    rw [hsame.2]
    rcases hst with ⟨s1, s2⟩ | ⟨s1, s2⟩
    · rw [if_neg (by rw [s1]; decide), ← s2]
      exact hput w' hSw
    · rw [if_pos s1]
      unfold Oper.wp
      rcases s2 with s2 | ⟨f, args, s2⟩
      · rw [hsame.1, s2 w' hSw]
        exact hput w' hSw
      · rw [hsame.1, (s2 w' hSw).1, Oper.upon_enter]
        refine (s2 w' hSw).2.mono fun e w'' hh => ?_
        obtain ⟨rfl, hS''⟩ := hh
        exact hput w'' hS''
  · intro b a' w' hall hI
    obtain ⟨hSw, rfl⟩ := hI
    have := hq w' hSw
    have h6 : putL a ops.toList vs = putSel a b (ents ops vs) := by
      have h7 := putL_sel vs a hd hl ops.size (Nat.le_refl _)
      rw [List.take_of_length_le (by simp)] at h7
      rw [h7]
      have : ∀ (L : List (Nat × Tmp × Value)) (a : Act), (∀ e ∈ L, e.1 < ops.size ∧ b e.1 = true) → putSel a (fun j => decide (j < ops.size)) L = putSel a b L := by
        intro L
        induction L with
        | nil => intro a _; rfl
        | cons e r ih =>
          intro a hL
          unfold putSel
          have := hL e (by simp)
          rw [if_pos (by simpa using this.1), if_pos this.2]
          exact ih _ (fun x hx => hL x (by simp [hx]))
      refine this _ _ (fun e he => ?_)
      obtain ⟨oj, hoj, _, _⟩ := mem_ents he
      have hlt := (Array.getElem?_eq_some_iff.1 hoj).1
      exact ⟨hlt, hall e.1 (List.contains_iff_mem.2 (List.mem_range.2 (by omega)))⟩
    rw [h6] at this
    exact this
/-! the steps -/
variable {o : Oper} {rest : List Oper} {a a' : Act} {v : Value}
theorem gs_off (hw : Region.wanted o (yielded ops a.tmps) = false) (ha : a.put o.dst undef = a') (h : wpG P ops Q S rest a') : wpG P ops Q S (o :: rest) a := .inl ⟨hw, by rw [ha]; exact h⟩
theorem gs_val (hw : Region.wanted o (yielded ops a.tmps) = true) (hv : ∀ w, S w → (execOp a.eval o).run P w = .ok (.value v) w) (ha : a.put o.dst v = a') (h : wpG P ops Q S rest a') : wpG P ops Q S (o :: rest) a := .inr ⟨hw, v, .inl hv, by rw [ha]; exact h⟩
theorem gs_call {f : FuncId} {fn : Func} {opds : Array Operand} {ts : Array TypeId} (hf : P.funcs[f]? = some fn) (hname : (fn.name == "runtime.NumGoroutine") = false) (hb : fn.body.isSome = true) (args : Array Value)
    (hw : Region.wanted o (yielded ops a.tmps) = true) (hop : o.op = .call { callee := .value (.func f), args := opds, argTypes := ts }) (hargs : opds.map a.eval = args)
    (hc : ∀ w, S w → Calls P f args w fun e w' => e = .returned v ∧ S w') (ha : a.put o.dst v = a') (h : wpG P ops Q S rest a') : wpG P ops Q S (o :: rest) a :=
  .inr ⟨hw, v, .inr ⟨f, args, fun w hS => ⟨by
    have he := enters_ hf hname hb args w
    unfold execOp
    simp [hop, resolve, Deferred.ofValue, invoke, Act.eval, hargs, he], hc w hS⟩⟩, by rw [ha]; exact h⟩
/-- A load, by what 'loadAt' gives. -/
theorem gs_load {ty : TypeId} {x : Operand} (ad : Addr) (hw : Region.wanted o (yielded ops a.tmps) = true) (ho : o.op = .load ty x) (hx : a.eval x = .pointer (some ad)) (hl : ∀ w, S w → (Instr.loadAt ty (.pointer (some ad))).run P w = .ok v w) (ha : a.put o.dst v = a') (h : wpG P ops Q S rest a') : wpG P ops Q S (o :: rest) a :=
  gs_val hw (fun w hS => by
    unfold execOp
    simp only [ho, hx, Sem.run_bind, hl w hS, Result.andThen_ok, Sem.run_pure]) ha h
theorem gs_end (h : ∀ w, S w → Q .normal a w) : wpG P ops Q S [] a := h
end
end Go.Proofs.Ytncjjplpenjghaa.H

/-! ### Keep -/
/- Facts on cells that stay in a world that has only grown: for the regions that draw their order (go_region_held3). -/
set_option linter.unusedVariables false
namespace Go.Proofs.Ytncjjplpenjghaa.H
open Go.RowKit Go.Proofs.YtncjjplpenjghaaW.PrintWords Go.Proofs.YtncjjplpenjghaaW.PrintLast
theorem cell_on {w1 w2 : World} (hb : Below w1.heap.size w1 w2) {a : Addr} {v : Value} (h : w1.cell? a = some v) : w2.cell? a = some v := by rw [hb.cell (World.block_lt_of_cell? _ _ h)]; exact h
theorem keep0 {w1 w2 W : World} (h : Below W.heap.size W w1) (hb : Below w1.heap.size w1 w2) : Below W.heap.size W w2 := h.trans (hb.mono h.size)
theorem keep1 {w1 w2 W : World} {a0 : Addr} {v0 : Value} (h : w1.cell? a0 = some v0 ∧ Below W.heap.size W w1) (hb : Below w1.heap.size w1 w2) : w2.cell? a0 = some v0 ∧ Below W.heap.size W w2 := by
  obtain ⟨c0, hB⟩ := h
  exact ⟨cell_on hb c0, hB.trans (hb.mono hB.size)⟩
theorem keep2 {w1 w2 W : World} {a0 : Addr} {v0 : Value} {a1 : Addr} {v1 : Value} (h : w1.cell? a0 = some v0 ∧ w1.cell? a1 = some v1 ∧ Below W.heap.size W w1) (hb : Below w1.heap.size w1 w2) : w2.cell? a0 = some v0 ∧ w2.cell? a1 = some v1 ∧ Below W.heap.size W w2 := by
  obtain ⟨c0, c1, hB⟩ := h
  exact ⟨cell_on hb c0, cell_on hb c1, hB.trans (hb.mono hB.size)⟩
theorem keep3 {w1 w2 W : World} {a0 : Addr} {v0 : Value} {a1 : Addr} {v1 : Value} {a2 : Addr} {v2 : Value} (h : w1.cell? a0 = some v0 ∧ w1.cell? a1 = some v1 ∧ w1.cell? a2 = some v2 ∧ Below W.heap.size W w1) (hb : Below w1.heap.size w1 w2) : w2.cell? a0 = some v0 ∧ w2.cell? a1 = some v1 ∧ w2.cell? a2 = some v2 ∧ Below W.heap.size W w2 := by
  obtain ⟨c0, c1, c2, hB⟩ := h
  exact ⟨cell_on hb c0, cell_on hb c1, cell_on hb c2, hB.trans (hb.mono hB.size)⟩
theorem keep4 {w1 w2 W : World} {a0 : Addr} {v0 : Value} {a1 : Addr} {v1 : Value} {a2 : Addr} {v2 : Value} {a3 : Addr} {v3 : Value} (h : w1.cell? a0 = some v0 ∧ w1.cell? a1 = some v1 ∧ w1.cell? a2 = some v2 ∧ w1.cell? a3 = some v3 ∧ Below W.heap.size W w1) (hb : Below w1.heap.size w1 w2) : w2.cell? a0 = some v0 ∧ w2.cell? a1 = some v1 ∧ w2.cell? a2 = some v2 ∧ w2.cell? a3 = some v3 ∧ Below W.heap.size W w2 := by
  obtain ⟨c0, c1, c2, c3, hB⟩ := h
  exact ⟨cell_on hb c0, cell_on hb c1, cell_on hb c2, cell_on hb c3, hB.trans (hb.mono hB.size)⟩
theorem keep5 {w1 w2 W : World} {a0 : Addr} {v0 : Value} {a1 : Addr} {v1 : Value} {a2 : Addr} {v2 : Value} {a3 : Addr} {v3 : Value} {a4 : Addr} {v4 : Value} (h : w1.cell? a0 = some v0 ∧ w1.cell? a1 = some v1 ∧ w1.cell? a2 = some v2 ∧ w1.cell? a3 = some v3 ∧ w1.cell? a4 = some v4 ∧ Below W.heap.size W w1) (hb : Below w1.heap.size w1 w2) : w2.cell? a0 = some v0 ∧ w2.cell? a1 = some v1 ∧ w2.cell? a2 = some v2 ∧ w2.cell? a3 = some v3 ∧ w2.cell? a4 = some v4 ∧ Below W.heap.size W w2 := by
  obtain ⟨c0, c1, c2, c3, c4, hB⟩ := h
  exact ⟨cell_on hb c0, cell_on hb c1, cell_on hb c2, cell_on hb c3, cell_on hb c4, hB.trans (hb.mono hB.size)⟩
theorem keep6 {w1 w2 W : World} {a0 : Addr} {v0 : Value} {a1 : Addr} {v1 : Value} {a2 : Addr} {v2 : Value} {a3 : Addr} {v3 : Value} {a4 : Addr} {v4 : Value} {a5 : Addr} {v5 : Value} (h : w1.cell? a0 = some v0 ∧ w1.cell? a1 = some v1 ∧ w1.cell? a2 = some v2 ∧ w1.cell? a3 = some v3 ∧ w1.cell? a4 = some v4 ∧ w1.cell? a5 = some v5 ∧ Below W.heap.size W w1) (hb : Below w1.heap.size w1 w2) : w2.cell? a0 = some v0 ∧ w2.cell? a1 = some v1 ∧ w2.cell? a2 = some v2 ∧ w2.cell? a3 = some v3 ∧ w2.cell? a4 = some v4 ∧ w2.cell? a5 = some v5 ∧ Below W.heap.size W w2 := by
  obtain ⟨c0, c1, c2, c3, c4, c5, hB⟩ := h
  exact ⟨cell_on hb c0, cell_on hb c1, cell_on hb c2, cell_on hb c3, cell_on hb c4, cell_on hb c5, hB.trans (hb.mono hB.size)⟩
theorem keep7 {w1 w2 W : World} {a0 : Addr} {v0 : Value} {a1 : Addr} {v1 : Value} {a2 : Addr} {v2 : Value} {a3 : Addr} {v3 : Value} {a4 : Addr} {v4 : Value} {a5 : Addr} {v5 : Value} {a6 : Addr} {v6 : Value} (h : w1.cell? a0 = some v0 ∧ w1.cell? a1 = some v1 ∧ w1.cell? a2 = some v2 ∧ w1.cell? a3 = some v3 ∧ w1.cell? a4 = some v4 ∧ w1.cell? a5 = some v5 ∧ w1.cell? a6 = some v6 ∧ Below W.heap.size W w1) (hb : Below w1.heap.size w1 w2) : w2.cell? a0 = some v0 ∧ w2.cell? a1 = some v1 ∧ w2.cell? a2 = some v2 ∧ w2.cell? a3 = some v3 ∧ w2.cell? a4 = some v4 ∧ w2.cell? a5 = some v5 ∧ w2.cell? a6 = some v6 ∧ Below W.heap.size W w2 := by
  obtain ⟨c0, c1, c2, c3, c4, c5, c6, hB⟩ := h
  exact ⟨cell_on hb c0, cell_on hb c1, cell_on hb c2, cell_on hb c3, cell_on hb c4, cell_on hb c5, cell_on hb c6, hB.trans (hb.mono hB.size)⟩
theorem keep8 {w1 w2 W : World} {a0 : Addr} {v0 : Value} {a1 : Addr} {v1 : Value} {a2 : Addr} {v2 : Value} {a3 : Addr} {v3 : Value} {a4 : Addr} {v4 : Value} {a5 : Addr} {v5 : Value} {a6 : Addr} {v6 : Value} {a7 : Addr} {v7 : Value} (h : w1.cell? a0 = some v0 ∧ w1.cell? a1 = some v1 ∧ w1.cell? a2 = some v2 ∧ w1.cell? a3 = some v3 ∧ w1.cell? a4 = some v4 ∧ w1.cell? a5 = some v5 ∧ w1.cell? a6 = some v6 ∧ w1.cell? a7 = some v7 ∧ Below W.heap.size W w1) (hb : Below w1.heap.size w1 w2) : w2.cell? a0 = some v0 ∧ w2.cell? a1 = some v1 ∧ w2.cell? a2 = some v2 ∧ w2.cell? a3 = some v3 ∧ w2.cell? a4 = some v4 ∧ w2.cell? a5 = some v5 ∧ w2.cell? a6 = some v6 ∧ w2.cell? a7 = some v7 ∧ Below W.heap.size W w2 := by
  obtain ⟨c0, c1, c2, c3, c4, c5, c6, c7, hB⟩ := h
  exact ⟨cell_on hb c0, cell_on hb c1, cell_on hb c2, cell_on hb c3, cell_on hb c4, cell_on hb c5, cell_on hb c6, cell_on hb c7, hB.trans (hb.mono hB.size)⟩
theorem keep9 {w1 w2 W : World} {a0 : Addr} {v0 : Value} {a1 : Addr} {v1 : Value} {a2 : Addr} {v2 : Value} {a3 : Addr} {v3 : Value} {a4 : Addr} {v4 : Value} {a5 : Addr} {v5 : Value} {a6 : Addr} {v6 : Value} {a7 : Addr} {v7 : Value} {a8 : Addr} {v8 : Value} (h : w1.cell? a0 = some v0 ∧ w1.cell? a1 = some v1 ∧ w1.cell? a2 = some v2 ∧ w1.cell? a3 = some v3 ∧ w1.cell? a4 = some v4 ∧ w1.cell? a5 = some v5 ∧ w1.cell? a6 = some v6 ∧ w1.cell? a7 = some v7 ∧ w1.cell? a8 = some v8 ∧ Below W.heap.size W w1) (hb : Below w1.heap.size w1 w2) : w2.cell? a0 = some v0 ∧ w2.cell? a1 = some v1 ∧ w2.cell? a2 = some v2 ∧ w2.cell? a3 = some v3 ∧ w2.cell? a4 = some v4 ∧ w2.cell? a5 = some v5 ∧ w2.cell? a6 = some v6 ∧ w2.cell? a7 = some v7 ∧ w2.cell? a8 = some v8 ∧ Below W.heap.size W w2 := by
  obtain ⟨c0, c1, c2, c3, c4, c5, c6, c7, c8, hB⟩ := h
  exact ⟨cell_on hb c0, cell_on hb c1, cell_on hb c2, cell_on hb c3, cell_on hb c4, cell_on hb c5, cell_on hb c6, cell_on hb c7, cell_on hb c8, hB.trans (hb.mono hB.size)⟩
theorem keep10 {w1 w2 W : World} {a0 : Addr} {v0 : Value} {a1 : Addr} {v1 : Value} {a2 : Addr} {v2 : Value} {a3 : Addr} {v3 : Value} {a4 : Addr} {v4 : Value} {a5 : Addr} {v5 : Value} {a6 : Addr} {v6 : Value} {a7 : Addr} {v7 : Value} {a8 : Addr} {v8 : Value} {a9 : Addr} {v9 : Value} (h : w1.cell? a0 = some v0 ∧ w1.cell? a1 = some v1 ∧ w1.cell? a2 = some v2 ∧ w1.cell? a3 = some v3 ∧ w1.cell? a4 = some v4 ∧ w1.cell? a5 = some v5 ∧ w1.cell? a6 = some v6 ∧ w1.cell? a7 = some v7 ∧ w1.cell? a8 = some v8 ∧ w1.cell? a9 = some v9 ∧ Below W.heap.size W w1) (hb : Below w1.heap.size w1 w2) : w2.cell? a0 = some v0 ∧ w2.cell? a1 = some v1 ∧ w2.cell? a2 = some v2 ∧ w2.cell? a3 = some v3 ∧ w2.cell? a4 = some v4 ∧ w2.cell? a5 = some v5 ∧ w2.cell? a6 = some v6 ∧ w2.cell? a7 = some v7 ∧ w2.cell? a8 = some v8 ∧ w2.cell? a9 = some v9 ∧ Below W.heap.size W w2 := by
  obtain ⟨c0, c1, c2, c3, c4, c5, c6, c7, c8, c9, hB⟩ := h
  exact ⟨cell_on hb c0, cell_on hb c1, cell_on hb c2, cell_on hb c3, cell_on hb c4, cell_on hb c5, cell_on hb c6, cell_on hb c7, cell_on hb c8, cell_on hb c9, hB.trans (hb.mono hB.size)⟩
theorem keep11 {w1 w2 W : World} {a0 : Addr} {v0 : Value} {a1 : Addr} {v1 : Value} {a2 : Addr} {v2 : Value} {a3 : Addr} {v3 : Value} {a4 : Addr} {v4 : Value} {a5 : Addr} {v5 : Value} {a6 : Addr} {v6 : Value} {a7 : Addr} {v7 : Value} {a8 : Addr} {v8 : Value} {a9 : Addr} {v9 : Value} {a10 : Addr} {v10 : Value} (h : w1.cell? a0 = some v0 ∧ w1.cell? a1 = some v1 ∧ w1.cell? a2 = some v2 ∧ w1.cell? a3 = some v3 ∧ w1.cell? a4 = some v4 ∧ w1.cell? a5 = some v5 ∧ w1.cell? a6 = some v6 ∧ w1.cell? a7 = some v7 ∧ w1.cell? a8 = some v8 ∧ w1.cell? a9 = some v9 ∧ w1.cell? a10 = some v10 ∧ Below W.heap.size W w1) (hb : Below w1.heap.size w1 w2) : w2.cell? a0 = some v0 ∧ w2.cell? a1 = some v1 ∧ w2.cell? a2 = some v2 ∧ w2.cell? a3 = some v3 ∧ w2.cell? a4 = some v4 ∧ w2.cell? a5 = some v5 ∧ w2.cell? a6 = some v6 ∧ w2.cell? a7 = some v7 ∧ w2.cell? a8 = some v8 ∧ w2.cell? a9 = some v9 ∧ w2.cell? a10 = some v10 ∧ Below W.heap.size W w2 := by
  obtain ⟨c0, c1, c2, c3, c4, c5, c6, c7, c8, c9, c10, hB⟩ := h
  exact ⟨cell_on hb c0, cell_on hb c1, cell_on hb c2, cell_on hb c3, cell_on hb c4, cell_on hb c5, cell_on hb c6, cell_on hb c7, cell_on hb c8, cell_on hb c9, cell_on hb c10, hB.trans (hb.mono hB.size)⟩
theorem keep12 {w1 w2 W : World} {a0 : Addr} {v0 : Value} {a1 : Addr} {v1 : Value} {a2 : Addr} {v2 : Value} {a3 : Addr} {v3 : Value} {a4 : Addr} {v4 : Value} {a5 : Addr} {v5 : Value} {a6 : Addr} {v6 : Value} {a7 : Addr} {v7 : Value} {a8 : Addr} {v8 : Value} {a9 : Addr} {v9 : Value} {a10 : Addr} {v10 : Value} {a11 : Addr} {v11 : Value} (h : w1.cell? a0 = some v0 ∧ w1.cell? a1 = some v1 ∧ w1.cell? a2 = some v2 ∧ w1.cell? a3 = some v3 ∧ w1.cell? a4 = some v4 ∧ w1.cell? a5 = some v5 ∧ w1.cell? a6 = some v6 ∧ w1.cell? a7 = some v7 ∧ w1.cell? a8 = some v8 ∧ w1.cell? a9 = some v9 ∧ w1.cell? a10 = some v10 ∧ w1.cell? a11 = some v11 ∧ Below W.heap.size W w1) (hb : Below w1.heap.size w1 w2) : w2.cell? a0 = some v0 ∧ w2.cell? a1 = some v1 ∧ w2.cell? a2 = some v2 ∧ w2.cell? a3 = some v3 ∧ w2.cell? a4 = some v4 ∧ w2.cell? a5 = some v5 ∧ w2.cell? a6 = some v6 ∧ w2.cell? a7 = some v7 ∧ w2.cell? a8 = some v8 ∧ w2.cell? a9 = some v9 ∧ w2.cell? a10 = some v10 ∧ w2.cell? a11 = some v11 ∧ Below W.heap.size W w2 := by
  obtain ⟨c0, c1, c2, c3, c4, c5, c6, c7, c8, c9, c10, c11, hB⟩ := h
  exact ⟨cell_on hb c0, cell_on hb c1, cell_on hb c2, cell_on hb c3, cell_on hb c4, cell_on hb c5, cell_on hb c6, cell_on hb c7, cell_on hb c8, cell_on hb c9, cell_on hb c10, cell_on hb c11, hB.trans (hb.mono hB.size)⟩
end Go.Proofs.Ytncjjplpenjghaa.H

/-! ### Region -/
/- region: the rectangles of a grid's cells, walked by hand. -/
set_option linter.unusedVariables false
set_option linter.unusedSimpArgs false
namespace Go.Proofs.Ytncjjplpenjghaa.G
theorem scan_run {r : Nat → Bool} {x x' : Nat} (hx : x < x') (hx' : x' ≤ 80) (hr : ∀ j, x ≤ j → j < x' → r j = true) (he : x' = 80 ∨ r x' = false) : scan r (80 - x) x none = (x, x') :: scan r (80 - (x' + 1)) (x' + 1) none := by
  have h1 : scan r (80 - x) x none = scan r (80 - (x + 1)) (x + 1) (some x) := by
    rw [show 80 - x = (80 - (x + 1)) + 1 from by omega]
    simp only [scan]
    rw [if_pos (hr x (Nat.le_refl _) hx)]
  have h2 : ∀ d m, m + d = x' → x < m → scan r (80 - m) m (some x) = scan r (80 - x') x' (some x) := by
    intro d
    induction d with
    | zero => intro m hm _; rw [show m = x' from by omega]
    | succ d ih =>
      intro m hm hlt
      rw [show 80 - m = (80 - (m + 1)) + 1 from by omega]
      simp only [scan]
      rw [if_pos (hr m (by omega) (by omega))]
      exact ih (m + 1) (by omega) (by omega)
  rw [h1, h2 (x' - (x + 1)) (x + 1) (by omega) (by omega)]
  rcases he with rfl | he
  · rfl
  · rcases Nat.lt_or_ge x' 80 with hlt | hge
    · rw [show 80 - x' = (80 - (x' + 1)) + 1 from by omega]
      simp only [scan]
      rw [if_neg (by rw [he]; decide)]
    · have : x' = 80 := by omega
      subst this
      rfl
theorem scan_skip {r : Nat → Bool} {x : Nat} (hx : x < 80) (hr : r x = false) : scan r (80 - x) x none = scan r (80 - (x + 1)) (x + 1) none := by
  rw [show 80 - x = (80 - (x + 1)) + 1 from by omega]
  simp only [scan]
  rw [if_neg (by rw [hr]; decide)]
end Go.Proofs.Ytncjjplpenjghaa.G
namespace Go.Proofs.Ytncjjplpenjghaa.H
open Go Go.RowKit Go.Proofs.Ytncjjplpenjghaa.P Go.Proofs.YtncjjplpenjghaaW.PrintWords Go.Proofs.YtncjjplpenjghaaW.PrintLast Go.Proofs.Ytncjjplpenjghaa.G
abbrev kR : Kd Rc := k75
abbrev RR (w0 w : World) (v : Value) (l : List Rc) : Prop := Kd.R kR 75 w w0.heap.size (fun _ => True) v l
/-- The outer loop: the bands before y are through. -/
def RO (w : World) (g : Nat → Bool) (v3 v4 : Value) (w' : World) : Prop := ∃ (y : Nat) (acc : List Rc), y ≤ 80 ∧ v4 = .int .i64 y ∧ acc ++ canonFrom g 80 y = canon g ∧ Below w.heap.size w w' ∧ RR w w' v3 acc
def RE (w : World) (g : Nat → Bool) (y : Nat) (v3 : Value) (acc : List Rc) (v5 : Value) (w' : World) : Prop := ∃ e : Nat, y < e ∧ e ≤ 80 ∧ v5 = .int .i64 e ∧ bandEnd g y 80 e = bEnd g y ∧ Below w.heap.size w w' ∧ RR w w' v3 acc
def RX (w : World) (g : Nat → Bool) (y e : Nat) (all : List Rc) (v3 v6 : Value) (w' : World) : Prop := ∃ (x : Nat) (acc : List Rc), x ≤ 81 ∧ v6 = .int .i64 x ∧ acc ++ rectsOf y e (scan (row g y) (80 - x) x none) = all ∧ Below w.heap.size w w' ∧ RR w w' v3 acc
def RI (w : World) (g : Nat → Bool) (y x : Nat) (v3 : Value) (acc : List Rc) (v6 : Value) (w' : World) : Prop := ∃ x' : Nat, x ≤ x' ∧ x' ≤ 80 ∧ v6 = .int .i64 x' ∧ (∀ j, x ≤ j → j < x' → row g y j = true) ∧ Below w.heap.size w w' ∧ RR w w' v3 acc
theorem Grid.on {w w' : World} {b : Nat} {g : Nat → Bool} (h : Grid w b g) {n : Nat} (hn : n = w.heap.size) (hb : Below n w w') : Grid w' b g := h.below (hn ▸ hb)
theorem eql_rows' {g : Nat → Bool} {y e : Nat} {c : Bool} (h : rowEq g y e = c) (w : World) : (Op.equalIn 10000 101 (.agg (rowA g e)) (.agg (rowA g y))).run Try.prog w = .ok c w := by
  rw [equal_rows]
  exact congrArg (fun c => Result.ok c w) h
theorem RR.drew {w0 w : World} {v : Value} {l : List Rc} (h : RR w0 w v l) (hb : ∀ w', Below w.heap.size w w' → RR w0 w' v l) : RR w0 w.drew v l := hb _ (Below.refl _ _).drew
set_option maxRecDepth 100000 in
set_option maxHeartbeats 1000000 in
theorem region_calls (b : Nat) (g : Nat → Bool) (w : World) (hb : Grid w b g) :
    Calls Try.prog 68 #[.pointer (some ⟨b, 0, none⟩)] w fun e w' => ∃ v, e = .returned v ∧ Kd.R k75 75 w' w.heap.size (fun _ => True) v (canon g) ∧ Below w.heap.size w w' := by
  have HG := Lib.hid hb
  clear hb
  have B := Lib.hid (Below.refl w.heap.size w)
  go_enter Try.func68, Try.ntmps68
  go_wp2_with (first
    | ((with_reducible refine gate_dst (N := 8) rfl ?_); refine Kd.R_lit k75 (w0 := w) w.heap.size 75 rfl (N := 8) rfl (xs := ([] : List Rc)) (inner := []) (ok := fun _ => True) (okp := fun _ => False) ?hr (Reps.none _ _) (fun _ hk => hk.elim) trivial B.out B.out.size (by simp) ?_; (case hr => first | (go_simp; done) | (go_simp; rfl)); intro v8 w1 ho hb hg hn; have O1 := Lib.hid ho; replace B := Lib.hid hb; clear ho hb hg hn))
  go_loopw [3, 4] (fun v3 v4 w' => RO w g v3 v4 w') (fun _ v4 _ => 80 - (intOf v4).toNat)
  case atStart => exact ⟨0, [], by omega, rfl, rfl, B.out, O1.out⟩
  case round =>
    clear B O1
    obtain ⟨y, acc, hy, rfl, hall, hB, hO⟩ := hrel
    obtain ⟨A3, c3, e3⟩ := Kd.R_slice hO
    subst e3
    obtain ⟨wo, rfl⟩ : ∃ wo : World, wo = wr := ⟨_, rfl⟩
    have B := Lib.hid hB
    have O1 := Lib.hid hO
    have HALL := Lib.hid hall
    clear hB hO hall
    by_cases hlt : y < 80
    · have hyi : (y : Int) < 80 := by omega
      go_wp2_with fail
      go_loopw [5] (fun v5 w' => RE w g y (.slice A3 acc.length c3) acc v5 w') (fun v5 _ => 80 - (intOf v5).toNat)
      case atStart => exact ⟨y + 1, by omega, by omega, by go_num, rfl, B.out, O1.out⟩
      case round =>
        clear B O1
        obtain ⟨e, he1, he2, rfl, hbe, hB, hO⟩ := hrel
        obtain ⟨we, rfl⟩ : ∃ we : World, we = wr := ⟨_, rfl⟩
        have B := Lib.hid hB
        have O1 := Lib.hid hO
        have HBE := Lib.hid hbe
        clear hB hO hbe
        have hel : (e : Int) ≤ 80 := by omega
        by_cases hA : e < 80 ∧ rowEq g y e = true
        · obtain ⟨he, hre⟩ := hA
          have hei : (e : Int) < 80 := by omega
          have HNX := Lib.hid (show bandEnd g y 80 (e + 1) = bEnd g y by
            rw [← HBE.out, bandEnd_fuel g y 80 81 e (by omega) (by omega) (by omega)]
            conv => rhs; unfold bandEnd
            rw [if_pos ⟨he, hre⟩])
          go_wp2_with fail
          refine region_seq (fun w' => Below we.heap.size we w') rfl (by kernel_rfl) ((Below.refl _ _).drew) ?_
          repeat (first
            | (refine gs_off (a' := ?_) (by rfl) ?_ ?_; rotate_left 1; (simp only [Act.put, List.setIfInBounds_toArray, List.set_cons_zero, List.set_cons_succ]; rfl))
            | (refine gs_load (v := .agg (rowA g e)) (a' := ?_) (ty := 101) ⟨b, e * 80, none⟩ (by rfl) rfl (by rfl) (fun w' hw' => load_row (HG.out.below (B.out.trans (hw'.mono B.out.size))) e (by omega)) ?_ ?_; rotate_left 1; (simp only [Act.put, List.setIfInBounds_toArray, List.set_cons_zero, List.set_cons_succ]; rfl))
            | (refine gs_load (v := .agg (rowA g y)) (a' := ?_) (ty := 101) ⟨b, y * 80, none⟩ (by rfl) rfl (by rfl) (fun w' hw' => load_row (HG.out.below (B.out.trans (hw'.mono B.out.size))) y (by omega)) ?_ ?_; rotate_left 1; (simp only [Act.put, List.setIfInBounds_toArray, List.set_cons_zero, List.set_cons_succ]; rfl))
            | (refine gs_val (v := ?_) (a' := ?_) (by rfl) ?_ ?_ ?_; rotate_left 2; (intro w' hw'; (have k_2 := eql_rows' hre w'); first | (go_simp; done) | (go_simp; with_reducible rfl)); (simp only [Act.put, List.setIfInBounds_toArray, List.set_cons_zero, List.set_cons_succ]; rfl)))
          refine gs_end (fun w1 hB1 => ?_)
          go_wp2_with fail
          exact ⟨⟨e + 1, by omega, by omega, by go_num, HNX.out, B.out.trans (hB1.mono B.out.size), Kd.R_below O1.out hB1⟩, by simp [intOf]; omega⟩
        · have HNX := Lib.hid (show e = bEnd g y by
            rw [← HBE.out, bandEnd_fuel g y 80 81 e (by omega) (by omega) (by omega)]
            unfold bandEnd
            rw [if_neg hA])
          have HAL2 := Lib.hid (show (acc ++ rectsOf y e (runs (row g y))) ++ canonFrom g 80 e = canon g by
            rw [← HALL.out]
            conv => rhs; unfold canonFrom
            rw [if_pos hlt, ← HNX.out, canonFrom_fuel g 79 80 e (by have := he1; omega) (by omega), List.append_assoc])
          have HLEN := Lib.hid (show (acc ++ rectsOf y e (runs (row g y))).length ≤ 3200 by
            have hlen : ((acc ++ rectsOf y e (runs (row g y))) ++ canonFrom g 80 e).length ≤ 3200 := by rw [HAL2.out]; exact canon_len g
            rw [List.length_append] at hlen
            omega)
          by_cases he : e < 80
          have hre : rowEq g y e = false := by
            cases h : rowEq g y e with
            | false => rfl
            | true => exact absurd ⟨he, h⟩ hA
          have hei : (e : Int) < 80 := by omega
          go_wp2_with fail
          refine region_seq (fun w' => Below we.heap.size we w') rfl (by kernel_rfl) ((Below.refl _ _).drew) ?_
          repeat (first
            | (refine gs_off (a' := ?_) (by rfl) ?_ ?_; rotate_left 1; (simp only [Act.put, List.setIfInBounds_toArray, List.set_cons_zero, List.set_cons_succ]; rfl))
            | (refine gs_load (v := .agg (rowA g e)) (a' := ?_) (ty := 101) ⟨b, e * 80, none⟩ (by rfl) rfl (by rfl) (fun w' hw' => load_row (HG.out.below (B.out.trans (hw'.mono B.out.size))) e (by omega)) ?_ ?_; rotate_left 1; (simp only [Act.put, List.setIfInBounds_toArray, List.set_cons_zero, List.set_cons_succ]; rfl))
            | (refine gs_load (v := .agg (rowA g y)) (a' := ?_) (ty := 101) ⟨b, y * 80, none⟩ (by rfl) rfl (by rfl) (fun w' hw' => load_row (HG.out.below (B.out.trans (hw'.mono B.out.size))) y (by omega)) ?_ ?_; rotate_left 1; (simp only [Act.put, List.setIfInBounds_toArray, List.set_cons_zero, List.set_cons_succ]; rfl))
            | (refine gs_val (v := ?_) (a' := ?_) (by rfl) ?_ ?_ ?_; rotate_left 2; (intro w' hw'; (have k_2 := eql_rows' hre w'); first | (go_simp; done) | (go_simp; with_reducible rfl)); (simp only [Act.put, List.setIfInBounds_toArray, List.set_cons_zero, List.set_cons_succ]; rfl)))
          refine gs_end (fun w1 hB1 => ?_)
          rotate_left
          have hei : decide ((e : Int) < 80) = false := by rw [decide_eq_false_iff_not]; omega
          go_wp2_with fail
          refine region_seq (fun w' => Below we.heap.size we w') rfl (by kernel_rfl) ((Below.refl _ _).drew) ?_
          repeat (first
            | (refine gs_off (a' := ?_) (by rfl) ?_ ?_; rotate_left 1; (simp only [Act.put, List.setIfInBounds_toArray, List.set_cons_zero, List.set_cons_succ]; rfl))
            | (refine gs_val (v := ?_) (a' := ?_) (by rfl) ?_ ?_ ?_; rotate_left 2; (intro w' hw';  first | (go_simp; done) | (go_simp; with_reducible rfl)); (simp only [Act.put, List.setIfInBounds_toArray, List.set_cons_zero, List.set_cons_succ]; rfl)))
          refine gs_end (fun w1 hB1 => ?_)
          all_goals
            clear hei
            go_wp2_with fail
            generalize hall2 : acc ++ rectsOf y e (runs (row g y)) = all2 at *
            go_loopw [3, 6] (fun v3 v6 w' => RX w g y e all2 v3 v6 w') (fun _ v6 _ => 81 - (intOf v6).toNat)
            case atStart => exact ⟨0, acc, by omega, rfl, hall2, B.out.trans (hB1.mono B.out.size), Kd.R_below O1.out hB1⟩
            case round =>
              clear hB1 B O1
              have HA2 := Lib.hid hall2
              clear hall2
              obtain ⟨x, acc2, hx, rfl, hall, hB, hO⟩ := hrel
              obtain ⟨A5, c5, e5⟩ := Kd.R_slice hO
              subst e5
              obtain ⟨wx, rfl⟩ : ∃ wx : World, wx = wr := ⟨_, rfl⟩
              have B := Lib.hid hB
              have O1 := Lib.hid hO
              have HS := Lib.hid hall
              clear hB hO hall
              by_cases hx80 : x < 80
              · have hxi : (x : Int) < 80 := by omega
                have c0 := (HG.out.below B.out).cell (y * 80 + x) (by omega)
                cases hgx : g (y * 80 + x) with
                | false =>
                  rw [hgx] at c0
                  have HS2 := Lib.hid (show acc2 ++ rectsOf y e (scan (row g y) (80 - (x + 1)) (x + 1) none) = all2 by rw [← scan_skip hx80 hgx]; exact HS.out)
                  clear hgx
                  go_wp2_with fail
                  exact ⟨⟨x + 1, acc2, by omega, by go_num, HS2.out, B.out, O1.out⟩, by simp [intOf]; omega⟩
                | true =>
                  rw [hgx] at c0
                  have HGX := Lib.hid hgx
                  clear hgx
                  go_wp2_with fail
                  go_loopw [6] (fun v6 w' => RI w g y x (.slice A5 acc2.length c5) acc2 v6 w') (fun v6 _ => 80 - (intOf v6).toNat)
                  case atStart => exact ⟨x, Nat.le_refl _, by omega, rfl, fun j h1 h2 => absurd h1 (by omega), B.out, O1.out⟩
                  case round =>
                    clear B O1 c0
                    obtain ⟨x', hx1, hx2, rfl, hrow, hB, hO⟩ := hrel
                    have B := Lib.hid hB
                    have O1 := Lib.hid hO
                    have HR := Lib.hid hrow
                    clear hB hO hrow
                    have hx2i : (x' : Int) ≤ 80 := by omega
                    have HL2 := Lib.hid (show acc2.length ≤ 3200 by
                      have h1 := HS.out
                      have h2 := HLEN.out
                      rw [← h1, List.length_append] at h2
                      omega)
                    by_cases hx3 : x' < 80
                    · have hx3i : (x' : Int) < 80 := by omega
                      have c1 := (HG.out.below B.out).cell (y * 80 + x') (by omega)
                      cases hg1 : g (y * 80 + x') with
                      | true =>
                        rw [hg1] at c1
                        have HR2 := Lib.hid (show ∀ j, x ≤ j → j < x' + 1 → row g y j = true from fun j h1 h2 => by
                          by_cases hj : j = x'
                          · rw [hj]; exact hg1
                          · exact HR.out j h1 (by omega))
                        clear hg1
                        go_wp2_with fail
                        exact ⟨⟨x' + 1, by omega, by omega, by go_num, HR2.out, B.out, O1.out⟩, by simp [intOf]; omega⟩
                      | false =>
                        rw [hg1] at c1
                        have HNE := Lib.hid (show x < x' by
                          rcases Nat.lt_or_ge x x' with h | h
                          · exact h
                          · have hxx : x = x' := by omega
                            have h5 := HGX.out
                            rw [hxx, hg1] at h5
                            cases h5)
                        have HS2 := Lib.hid (show (acc2 ++ [⟨(x : Int) - 40, (y : Int) - 40, (x' : Int) - 40, (e : Int) - 40⟩]) ++ rectsOf y e (scan (row g y) (80 - (x' + 1)) (x' + 1) none) = all2 by
                          have := HS.out
                          rw [scan_run (x' := x') (HNE.out) hx2 HR.out (.inr hg1)] at this
                          rw [← this, List.append_assoc]
                          rfl)
                        clear hg1
                        go_wp2_with (at_builtin; refine Kd.R_append k75 (w0 := w) w.heap.size rfl (.tmp 56) (.tmp 66) 31 75 (.agg #[.int .i64 0, .int .i64 0, .int .i64 0, .int .i64 0]) 32 rfl Try.underlying31 info75 rfl (by decide) (by omega) _ acc2 (⟨(x : Int) - 40, (y : Int) - 40, (x' : Int) - 40, (e : Int) - 40⟩ : Rc) [.int .i64 ((x : Int) - 40), .int .i64 ((y : Int) - 40), .int .i64 ((x' : Int) - 40), .int .i64 ((e : Int) - 40)] (fun _ => True) (fun _ => False) rfl rfl (k75_mkM _ _ _ _) (fun _ hk => hk.elim) (fun _ _ => trivial) O1.out B.out B.out.size (by have := HL2.out; omega) ?_; intro v1 w2 ho hb hg hat; replace O1 := Lib.hid ho; replace B := Lib.hid hb; clear ho hb hg hat)
                        exact ⟨⟨x' + 1, acc2 ++ [⟨(x : Int) - 40, (y : Int) - 40, (x' : Int) - 40, (e : Int) - 40⟩], by omega, by go_num, HS2.out, B.out, O1.out⟩, by simp [intOf]; omega⟩
                    · have hx3i : decide ((x' : Int) < 80) = false := by rw [decide_eq_false_iff_not]; omega
                      have HS2 := Lib.hid (show (acc2 ++ [⟨(x : Int) - 40, (y : Int) - 40, (x' : Int) - 40, (e : Int) - 40⟩]) ++ rectsOf y e (scan (row g y) (80 - (x' + 1)) (x' + 1) none) = all2 by
                        have := HS.out
                        rw [scan_run (x' := x') (by omega) hx2 HR.out (.inl (by omega))] at this
                        rw [← this, List.append_assoc]
                        rfl)
                      go_wp2_with (at_builtin; refine Kd.R_append k75 (w0 := w) w.heap.size rfl (.tmp 56) (.tmp 66) 31 75 (.agg #[.int .i64 0, .int .i64 0, .int .i64 0, .int .i64 0]) 32 rfl Try.underlying31 info75 rfl (by decide) (by omega) _ acc2 (⟨(x : Int) - 40, (y : Int) - 40, (x' : Int) - 40, (e : Int) - 40⟩ : Rc) [.int .i64 ((x : Int) - 40), .int .i64 ((y : Int) - 40), .int .i64 ((x' : Int) - 40), .int .i64 ((e : Int) - 40)] (fun _ => True) (fun _ => False) rfl rfl (k75_mkM _ _ _ _) (fun _ hk => hk.elim) (fun _ _ => trivial) O1.out B.out B.out.size (by have := HL2.out; omega) ?_; intro v1 w2 ho hb hg hat; replace O1 := Lib.hid ho; replace B := Lib.hid hb; clear ho hb hg hat)
                      exact ⟨⟨x' + 1, acc2 ++ [⟨(x : Int) - 40, (y : Int) - 40, (x' : Int) - 40, (e : Int) - 40⟩], by omega, by go_num, HS2.out, B.out, O1.out⟩, by simp [intOf]; omega⟩
              · have hx80i : ¬ (x : Int) < 80 := by omega
                have HEND := Lib.hid (show acc2 = all2 by
                  have := HS.out
                  rw [show 80 - x = 0 from by omega] at this
                  simpa [scan, rectsOf] using this)
                go_wp2_with fail
                exact ⟨⟨e, all2, by omega, rfl, HAL2.out, B.out, by rw [← HEND.out]; exact O1.out⟩, by simp [intOf]; omega⟩
    · have hy80 : y = 80 := by omega
      subst hy80
      have HE := Lib.hid (show acc = canon g by have := HALL.out; simpa [canonFrom] using this)
      clear hlt
      go_wp2_with fail
      go_ret
      exact ⟨_, rfl, by rw [← HE.out]; exact O1.out, B.out⟩
end Go.Proofs.Ytncjjplpenjghaa.H

/-! ### Put -/
/- put, cellsOf: the unit cells of rectangles in a grid. -/
set_option linter.unusedVariables false
set_option linter.unusedSimpArgs false
namespace Go.Proofs.Ytncjjplpenjghaa.H
open Go.RowKit Go.Proofs.Ytncjjplpenjghaa.P Go.Proofs.YtncjjplpenjghaaW.PrintWords Go.Proofs.YtncjjplpenjghaaW.PrintLast Go.Proofs.YtncjjplpenjghaaW.PrintMore Go.Proofs.Ytncjjplpenjghaa.G
theorem max2_max (k k' : IntKind) (x y : Int) : Builtin.max2 (.int k x) (.int k' y) = pure (.int k (max x y)) := by
  rw [max2_int]
  congr 2
  split <;> omega
theorem min2_min (k k' : IntKind) (x y : Int) : Builtin.min2 (.int k x) (.int k' y) = pure (.int k (min x y)) := by
  rw [min2_int]
  congr 2
  split <;> omega
attribute [local go_sem] max2_max min2_min max_two min_two
/-- Of what stood, block b alone may have changed. -/
structure Only (b : Nat) (w w' : World) : Prop where
  os : w'.os = w.os
  tape : w'.tape = w.tape
  output : w'.output = w.output
  size : w.heap.size ≤ w'.heap.size
  block : ∀ i, i < w.heap.size → i ≠ b → w'.heap[i]? = w.heap[i]?
theorem Only.refl (b : Nat) (w : World) : Only b w w := ⟨rfl, rfl, rfl, Nat.le_refl _, fun _ _ _ => rfl⟩
theorem Only.of_below {b : Nat} {w w' : World} (h : Below w.heap.size w w') : Only b w w' := ⟨h.os, h.tape, h.output, h.size, fun i hi _ => h.block i hi⟩
theorem Only.trans {b : Nat} {w w1 w2 : World} (h : Only b w w1) (k : Only b w1 w2) : Only b w w2 :=
  ⟨k.os.trans h.os, k.tape.trans h.tape, k.output.trans h.output, Nat.le_trans h.size k.size, fun i hi hne => (k.block i (Nat.lt_of_lt_of_le hi h.size) hne).trans (h.block i hi hne)⟩
theorem Only.setCell {b : Nat} {w w1 : World} (h : Only b w w1) (i : Nat) (v : Value) : Only b w (w1.setCell ⟨b, i, none⟩ v) :=
  ⟨h.os, h.tape, h.output, by simp [World.setCell]; exact h.size, fun j hj hne => (Below.heap_setCell w1 _ v j hne).trans (h.block j hj hne)⟩
theorem Only.drew {b : Nat} {w w1 : World} (h : Only b w w1) : Only b w w1.drew := ⟨h.os, h.tape, h.output, h.size, h.block⟩
theorem Only.below {b n : Nat} {w w' : World} (h : Only b w w') (hn : n ≤ b) (hz : n ≤ w.heap.size) : Below n w w' := ⟨h.os, h.tape, h.output, h.size, fun i hi => h.block i (by omega) (by omega)⟩
theorem Only.box {b g t : Nat} {cs : Array Value} {w w' : World} (h : Only b w w') (hx : Box w g cs t) (hne : g ≠ b) : Box w' g cs t := (h.block g hx.lt hne).trans hx
theorem Only.grid {b b' : Nat} {g : Nat → Bool} {w w' : World} (h : Only b w w') (hx : Grid w b' g) (hne : b' ≠ b) : Grid w' b' g := (h.block b' hx.lt hne).trans hx
theorem gz {g : Nat → Bool} {b : Nat} {w : World} (h : Grid w b g) (i : Nat) : w.frozen? ⟨b, i, none⟩ = false := h.frozen i
def PutR (w : World) (b : Nat) (r : Rc) (f : Nat → Bool) (w' : World) : Prop := Grid w' b f ∧ Box w' w.heap.size #[.int .i64 r.f0, .int .i64 r.f1, .int .i64 r.f2, .int .i64 r.f3] 75 ∧ Only b w w'
theorem inR_b {r : Rc} {i : Nat} : inR r i = true ↔ (r.f0 + 40 ≤ (i % 80 : Nat) ∧ ((i % 80 : Nat) : Int) < r.f2 + 40 ∧ r.f1 + 40 ≤ (i / 80 : Nat) ∧ ((i / 80 : Nat) : Int) < r.f3 + 40) := by unfold inR; exact decide_eq_true_iff
/-- Rows before y are in. -/
def putTo (g : Nat → Bool) (r : Rc) (y : Int) (i : Nat) : Bool := g i || (inR r i && decide (((i / 80 : Nat) : Int) < y + 40))
/-- And of row y the columns before x. -/
def putAt (g : Nat → Bool) (r : Rc) (y x : Int) (i : Nat) : Bool := g i || (inR r i && decide (((i / 80 : Nat) : Int) < y + 40 ∨ (((i / 80 : Nat) : Int) = y + 40 ∧ ((i % 80 : Nat) : Int) < x + 40)))
theorem putTo_start (g : Nat → Bool) (r : Rc) (i : Nat) : putTo g r (max r.f1 (-40)) i = g i := by
  unfold putTo
  have : (inR r i && decide (((i / 80 : Nat) : Int) < max r.f1 (-40) + 40)) = false := by
    rw [Bool.eq_false_iff, ne_eq, Bool.and_eq_true, inR_b, decide_eq_true_eq]
    omega
  rw [this, Bool.or_false]
theorem putTo_end (g : Nat → Bool) (r : Rc) (y : Int) (hy : min r.f3 40 ≤ y) (i : Nat) (hi : i < 6400) : putTo g r y i = (g i || inR r i) := by
  unfold putTo
  congr 1
  rw [Bool.eq_iff_iff, Bool.and_eq_true, decide_eq_true_eq]
  constructor
  · exact fun h => h.1
  · intro h
    refine ⟨h, ?_⟩
    rw [inR_b] at h
    omega
theorem putAt_start (g : Nat → Bool) (r : Rc) (y : Int) (i : Nat) : putAt g r y (max r.f0 (-40)) i = putTo g r y i := by
  unfold putAt putTo
  congr 1
  rw [Bool.eq_iff_iff, Bool.and_eq_true, Bool.and_eq_true, decide_eq_true_eq, decide_eq_true_eq, inR_b]
  omega
theorem putAt_end (g : Nat → Bool) (r : Rc) (y x : Int) (hx : min r.f2 40 ≤ x) (i : Nat) : putAt g r y x i = putTo g r (y + 1) i := by
  unfold putAt putTo
  congr 1
  rw [Bool.eq_iff_iff, Bool.and_eq_true, Bool.and_eq_true, decide_eq_true_eq, decide_eq_true_eq, inR_b]
  omega
theorem putAt_step (g : Nat → Bool) (r : Rc) (y x : Int) (hy0 : max r.f1 (-40) ≤ y) (hy1 : y < min r.f3 40) (hx0 : max r.f0 (-40) ≤ x) (hx1 : x < min r.f2 40) (i : Nat) : putAt g r y (x + 1) i = if i = (y + 40).toNat * 80 + (x + 40).toNat then true else putAt g r y x i := by
  unfold putAt
  by_cases h : i = (y + 40).toNat * 80 + (x + 40).toNat
  · rw [if_pos h]
    have : (inR r i && decide (((i / 80 : Nat) : Int) < y + 40 ∨ (((i / 80 : Nat) : Int) = y + 40 ∧ ((i % 80 : Nat) : Int) < x + 1 + 40))) = true := by
      rw [Bool.and_eq_true, decide_eq_true_eq, inR_b]
      omega
    rw [this, Bool.or_true]
  · rw [if_neg h]
    congr 1
    rw [Bool.eq_iff_iff, Bool.and_eq_true, Bool.and_eq_true, decide_eq_true_eq, decide_eq_true_eq, inR_b]
    omega
def PY (w : World) (b : Nat) (g : Nat → Bool) (r : Rc) (v : Value) (w' : World) : Prop := ∃ y : Int, max r.f1 (-40) ≤ y ∧ (y ≤ min r.f3 40 ∨ y = max r.f1 (-40)) ∧ v = .int .i64 y ∧ PutR w b r (putTo g r y) w'
def PX (w : World) (b : Nat) (g : Nat → Bool) (r : Rc) (y : Int) (v : Value) (w' : World) : Prop := ∃ x : Int, max r.f0 (-40) ≤ x ∧ (x ≤ min r.f2 40 ∨ x = max r.f0 (-40)) ∧ v = .int .i64 x ∧ PutR w b r (putAt g r y x) w'
set_option maxHeartbeats 400000 in
theorem put_calls (b : Nat) (g : Nat → Bool) (r : Rc) (w : World) (hb : Grid w b g) :
    Calls Try.prog 111 #[.pointer (some ⟨b, 0, none⟩), .agg #[.int .i64 r.f0, .int .i64 r.f1, .int .i64 r.f2, .int .i64 r.f3]] w fun e w' => e = .returned (.tuple #[]) ∧ Grid w' b (fun i => g i || inR r i) ∧ Only b w w' := by
  have HB := Lib.hid hb
  have hlt := hb.lt
  clear hb
  go_enter Try.func111, Try.ntmps111
  go_wp2_with fail
  go_loopw [4] (fun v w' => PY w b g r v w') (fun v _ => (min r.f3 40 - intOf v).toNat)
  case atStart => exact ⟨_, Int.le_refl _, .inr rfl, rfl, (HB.out.alloc _).congr (fun i _ => putTo_start g r i), Box.new _ _ _, Only.of_below ((Below.refl _ _).alloc (Nat.le_refl _) _)⟩
  case round =>
    obtain ⟨y, hy0, hy1, rfl, hg, hx, ho⟩ := hrel
    obtain ⟨wo, rfl⟩ : ∃ wo : World, wo = wr := ⟨_, rfl⟩
    have G1 := Lib.hid hg
    have O1 := Lib.hid ho
    have X1 := Lib.hid hx
    have c0 := hx.cell 0 _ rfl
    have c2 := hx.cell 2 _ rfl
    have c3 := hx.cell 3 _ rfl
    clear hg ho hx
    by_cases hy : y < min r.f3 40
    · go_wp2_with fail
      go_loopw [5] (fun v w' => PX w b g r y v w') (fun v _ => (min r.f2 40 - intOf v).toNat)
      case atStart => exact ⟨_, Int.le_refl _, .inr rfl, rfl, G1.out.congr (fun i _ => putAt_start g r y i), X1.out, O1.out⟩
      case round =>
        clear c0 c2 c3
        obtain ⟨x, hx0, hx1, rfl, hg, hx, ho⟩ := hrel
        have G2 := Lib.hid hg
        have O2 := Lib.hid ho
        have X2 := Lib.hid hx
        have c2 := hx.cell 2 _ rfl
        clear hg ho hx G1 O1 X1
        by_cases hxx : x < min r.f2 40
        · have hc := G2.out.cell ((y + 40).toNat * 80 + (x + 40).toNat) (by omega)
          have hf := gz G2.out ((y + 40).toNat * 80 + (x + 40).toNat)
          have hy2 : -40 ≤ y := by omega
          have hy3 : y < 40 := by omega
          have hx2 : -40 ≤ x := by omega
          have hx3 : x < 40 := by omega
          go_wp2_with fail
          refine ⟨⟨x + 1, by omega, by omega, rfl, G2.out.set (by omega) (fun i _ => putAt_step g r y x (by omega) (by omega) (by omega) (by omega) i), X2.out.far (show b ≠ w.heap.size from by omega) _, O2.out.setCell _ _⟩, by simp [intOf]; omega⟩
        · go_wp2_with fail
          refine ⟨⟨y + 1, by omega, by omega, rfl, G2.out.congr (fun i _ => (putAt_end g r y x (by omega) i).symm), X2.out, O2.out⟩, by simp [intOf]; omega⟩
    · go_wp2_with fail
      go_end0
      exact ⟨rfl, G1.out.congr (fun i hi => (putTo_end g r y (by omega) i hi).symm), O1.out⟩
theorem cov_take (l : List Rc) (k : Nat) (h : k < l.length) (i : Nat) : cov (l.take (k + 1)) i = (cov (l.take k) i || inR l[k] i) := by
  rw [List.take_succ_eq_append_getElem h, cov_append]
  simp [cov]
def CR (w : World) (l : List Rc) (gb : Nat) (v : Value) (w' : World) : Prop := ∃ k : Nat, k ≤ l.length ∧ v = .int .i64 k ∧ Below w.heap.size w w' ∧ Grid w' gb (cov (l.take k))
set_option maxHeartbeats 400000 in
theorem cellsOf_calls (A0 : Option Addr) (c0 : Nat) (l0 : List Rc) (w : World) (hr0 : Kd.C k75 w A0 l0.length l0) (hle : l0.length ≤ 1048576) :
    Calls Try.prog 76 #[.slice A0 l0.length c0] w (NewGrid w (cov l0)) := by
  have HR := Lib.hid hr0
  clear hr0
  go_enter Try.func76, Try.ntmps76
  go_wp2_with (first | ((with_reducible refine gate_dst (N := 6) rfl ?_); refine wpList_build_nil rfl 103 rfl gridZ built_grid ?_) | ((with_reducible refine gate_dst (N := 7) rfl ?_); refine box_event rfl (N := 7) rfl (cs := gridZ) (t := 103) ?hr ?_; (case hr => first | (go_simp; done) | (go_simp; rfl)); intro gb hg w1 hbox hb))
  subst hg
  go_loopw [10] (fun v w' => CR w l0 w.heap.size v w') (fun v _ => l0.length - (intOf v).toNat)
  case atStart => exact ⟨0, Nat.zero_le _, rfl, hb, (Grid.zero hbox).congr (fun _ _ => rfl)⟩
  case round =>
    clear hbox hb
    obtain ⟨k, hk, rfl, hB, hG⟩ := hrel
    have B := Lib.hid hB
    have G1 := Lib.hid hG
    clear hB hG
    by_cases hlt : k < l0.length
    · obtain ⟨ad, rfl, h0, h1, h2, h3⟩ := at_T75 (Kd.C_below HR.out B.out) (k : Int) (by omega) (by omega)
      have hrd : rd_T75 l0 (k : Int) = l0[k] := by simp [rd_T75, List.getD_eq_getElem?_getD, hlt]
      rw [hrd, Int.toNat_natCast] at h0 h1 h2 h3
      have HT := Lib.hid (fun i => cov_take l0 k hlt i)
      generalize l0[k] = r at *
      clear hrd
      go_wp2_with (go_at_call 111; (with_reducible refine (put_calls w.heap.size (cov (l0.take k)) r _ (G1.out.alloc _)).mono ?_); rintro e w1 ⟨rfl, hg, ho⟩; have G2 := Lib.hid hg; have O2 := Lib.hid ho; clear hg ho)
      refine ⟨⟨k + 1, by omega, rfl, ?_, G2.out.congr (fun i _ => HT.out i)⟩, by simp [intOf]; omega⟩
      have h5 := B.out.size
      exact (B.out.alloc h5 _).trans (O2.out.below (Nat.le_refl _) (by simp; omega))
    · have hkk : k = l0.length := by omega
      subst hkk
      rw [List.take_length] at G1
      clear hlt
      go_wp2_with fail
      go_ret
      exact ⟨_, rfl, Nat.le_refl _, B.out, G1.out⟩
end Go.Proofs.Ytncjjplpenjghaa.H

/-! ### Gen -/
/- Loops of the printed functions, once for all types: elementwise tests, copies, sizes, marks. -/
set_option linter.unusedVariables false
namespace Go.Proofs.Ytncjjplpenjghaa.H
open Go.RowKit Go.Proofs.YtncjjplpenjghaaW.PrintWords
theorem Ev.const {α : Type} {c : Option α} {a : α} (h : c = some a) : Ev (fun _ => c) a := ⟨0, fun _ _ => h⟩
theorem wrap_up (i : Nat) (h : i ≤ 1000000000000) : wrap64 ((i : Int) + 1) = ((i + 1 : Nat) : Int) := by
  unfold wrap64
  omega
section
variable {α β τ : Type} (rdf : List α → Int → α) (hrd : ∀ (l : List α) (i : Nat) (h : i < l.length), rdf l (i : Int) = l[i])
include hrd
/-- Two lists compared element by element. -/
theorem gen_eq2 (E : Nat → α → α → Option Bool) (p : α → α → Bool) (L : Nat → List α → List α → Int → Option Bool)
    (hL : ∀ k x y i, L (k + 1) x y i = if i < (x.length : Int) then (if 0 ≤ i then (if i < (y.length : Int) then ((E k (rdf x i) (rdf y i)).bind fun t => (if t = true then (L k x y (wrap64 (i + 1))) else (some false))) else none) else none) else (some true))
    (x y : List α) (hl : x.length ≤ 1000000000000) (hxy : x.length = y.length) (hE : ∀ (i : Nat) (h : i < x.length) (h' : i < y.length), Ev (fun k => E k x[i] y[i]) (p x[i] y[i])) :
    ∀ (d i : Nat), i + d = x.length → Ev (fun k => L k x y i) (((x.drop i).zip (y.drop i)).all fun q => p q.1 q.2)
  | 0, i, h => by
    refine Ev.step (f := fun _ => some true) (fun k => ?_) ?_
    · rw [hL, if_neg (by omega)]
    · rw [List.drop_eq_nil_of_le (by omega)]
      exact Ev.now true
  | d + 1, i, h => by
    have h1 : i < x.length := by omega
    have h2 : i < y.length := by omega
    rw [List.drop_eq_getElem_cons h1, List.drop_eq_getElem_cons h2]
    refine Ev.step (f := fun k => ((E k x[i] y[i]).bind fun t => (if t = true then (L k x y (((i + 1 : Nat) : Int))) else (some false)))) (fun k => ?_) ?_
    · rw [hL, if_pos (by omega), if_pos (by omega), if_pos (by omega), hrd x i h1, hrd y i h2, wrap_up i (by omega)]
    · refine Ev.bind (hE i h1 h2) ?_
      simp only [List.zip_cons_cons, List.all_cons]
      cases hp : p x[i] y[i]
      · exact Ev.now false
      · simpa using gen_eq2 E p L hL x y hl hxy hE d (i + 1) (by omega)
/-- A list is equal to itself. -/
theorem gen_eq (E : Nat → α → α → Option Bool) (L : Nat → List α → List α → Int → Option Bool)
    (hL : ∀ k x y i, L (k + 1) x y i = if i < (x.length : Int) then (if 0 ≤ i then (if i < (y.length : Int) then ((E k (rdf x i) (rdf y i)).bind fun t => (if t = true then (L k x y (wrap64 (i + 1))) else (some false))) else none) else none) else (some true))
    (x : List α) (hl : x.length ≤ 1000000000000) (hE : ∀ a ∈ x, Ev (fun k => E k a a) true) : Ev (fun k => L k x x 0) true := by
  have h := gen_eq2 rdf hrd E (fun _ _ => true) L hL x x hl rfl (fun i h _ => hE _ (List.getElem_mem h)) x.length 0 (by omega)
  have e : (((x.drop 0).zip (x.drop 0)).all fun q => (fun _ _ => true : α → α → Bool) q.1 q.2) = true := by simp
  rw [e] at h
  exact h
omit hrd in
theorem set_rep (x : List β) (z : β) (i n : Nat) (v : β) (hi : x.length = i) : (x ++ List.replicate (n + 1) z).set i v = (x ++ [v]) ++ List.replicate n z := by
  subst hi
  rw [List.set_append_right _ _ (Nat.le_refl _), Nat.sub_self, List.replicate_succ, List.set_cons_zero]
  simp
/-- A list copied into a new one, element by element. -/
theorem gen_to (T : Nat → α → Option τ) (t : α → τ) (c : τ → β) (L : Nat → List α → List β → Int → Option (List β))
    (hL : ∀ k x y i, L (k + 1) x y i = if i < (x.length : Int) then (if 0 ≤ i then ((T k (rdf x i)).bind fun b => (if i < (y.length : Int) then (L k x (y.set i.toNat (c b)) (wrap64 (i + 1))) else none)) else none) else (some y))
    (x : List α) (z : β) (hl : x.length ≤ 1000000000000) (hT : ∀ a ∈ x, Ev (fun k => T k a) (t a)) :
    ∀ (d i : Nat), i + d = x.length → Ev (fun k => L k x ((x.take i).map (fun a => c (t a)) ++ List.replicate d z) i) (x.map fun a => c (t a))
  | 0, i, h => by
    have hi : i = x.length := by omega
    subst hi
    refine Ev.step (f := fun _ => some (x.map fun a => c (t a))) (fun k => ?_) (Ev.now _)
    rw [hL, if_neg (by omega), List.take_length]
    simp
  | d + 1, i, h => by
    have h1 : i < x.length := by omega
    refine Ev.step (f := fun k => ((T k x[i]).bind fun b => (L k x (((x.take i).map (fun a => c (t a)) ++ List.replicate (d + 1) z).set i (c b)) (((i + 1 : Nat) : Int))))) (fun k => ?_) ?_
    · rw [hL, if_pos (by omega), if_pos (by omega), hrd x i h1, wrap_up i (by omega), Int.toNat_natCast]
      congr 1
      funext b
      rw [if_pos (by simp; omega)]
    · refine Ev.bind (hT _ (List.getElem_mem h1)) ?_
      have := gen_to T t c L hL x z hl hT d (i + 1) (by omega)
      rw [set_rep _ _ _ _ _ (by rw [List.length_map, List.length_take]; omega)]
      rw [List.take_succ_eq_append_getElem h1, List.map_append] at this
      exact this
/-- The same for numbers (no call). -/
theorem gen_to1 (c : α → β) (L : Nat → List α → List β → Int → Option (List β))
    (hL : ∀ k x y i, L (k + 1) x y i = if i < (x.length : Int) then (if 0 ≤ i then (if i < (y.length : Int) then (L k x (y.set i.toNat (c (rdf x i))) (wrap64 (i + 1))) else none) else none) else (some y))
    (x : List α) (z : β) (hl : x.length ≤ 1000000000000) : Ev (fun k => L k x (List.replicate x.length z) 0) (x.map c) := by
  have h := gen_to rdf hrd (fun _ a => some a) id c L (fun k x y i => by rw [hL]; rfl) x z hl (fun a _ => Ev.now a) x.length 0 (by omega)
  exact h
end
/-- A slice's size taken off what is left. -/
theorem size_off (n : Nat) (a : Int) (ha : 0 ≤ a) (ha2 : a ≤ 1048576) (hn : n ≤ 9223372036854775807) : (wrap64 (a - (n : Int)) < 0 ∨ (wrap64 (a - (n : Int)) = a - n ∧ (n : Int) ≤ a)) := by
  unfold wrap64
  omega
end Go.Proofs.Ytncjjplpenjghaa.H
