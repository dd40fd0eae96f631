/- Walks and plain lemmas for the law FnExactPolygonRegion, part c. -/
import Derived.Test.YtncjjplpenjghaaMFnExactPolygonRegiona
import Derived.Test.YtncjjplpenjghaaMFnExactPolygonRegionb
import Derived.Test.YtncjjplpenjghaaProg
import Derived.Laws.Tables
import Derived.Lib.Hide
import Derived.BigRegion
import Derived.Laws.StructEq
import Derived.Deep.MidRow
import Derived.Test.YtncjjplpenjghaaWInv
import Derived.Test.YtncjjplpenjghaaWInvWords
import Derived.Test.YtncjjplpenjghaaWLast
import Derived.Deep.RegionHeld3
/-! ### Px40 -/
namespace Go.Proofs.Ytncjjplpenjghaa.P
open Go.RowKit Go.Proofs.YtncjjplpenjghaaW.PrintWords Go.Proofs.YtncjjplpenjghaaW.PrintLast Go.Proofs.YtncjjplpenjghaaW.PrintMore
attribute [local go_sem] max2_int min2_int max_two min_two max_three min_three max_four min_four   -- for this text's walks alone
set_option linter.unusedVariables false
set_option linter.unusedSimpArgs false

/-! ### impl_verticals: function 67 -/
def impl_verticals.l0 : Nat → List (S67) → List (S93) → List (S67) → Int → Int → Option ((List (S93)))
  | 0, _, _, _, _, _ => none
  | k + 1, x0, x3, x8, x9, x10 => if x10 < x9 then (if 0 ≤ x10 then (if x10 < (x8.length : Int) then (if (x0.length : Int) = 0 then (none) else (if 0 ≤ (Int.tmod (wrap64 (x10 + 1)) (x0.length : Int)) then (if (Int.tmod (wrap64 (x10 + 1)) (x0.length : Int)) < (x0.length : Int) then (if ((rd_T67 x8 x10).f0) = ((rd_T67 x0 (Int.tmod (wrap64 (x10 + 1)) (x0.length : Int))).f0) then (if x3.length < 4398046511104 then (impl_verticals.l0 k x0 (x3 ++ [(⟨(rd_T67 x8 x10).f0, (rd_T67 x8 x10).f1, (rd_T67 x0 (Int.tmod (wrap64 (x10 + 1)) (x0.length : Int))).f0, (rd_T67 x0 (Int.tmod (wrap64 (x10 + 1)) (x0.length : Int))).f1⟩ : S93)]) x8 x9 (wrap64 (x10 + 1))) else (none)) else (impl_verticals.l0 k x0 x3 x8 x9 (wrap64 (x10 + 1)))) else (none)) else (none))) else (none)) else (none)) else (some x3)
def impl_verticals.f (k : Nat) (l0 : List (S67)) : Option ((List (S93))) := impl_verticals.l0 k l0 (([] : List (S93))) l0 (l0.length : Int) 0
theorem impl_verticals.mono_l : ∀ k, (∀ y0 y1 y2 y3 y4, LeO (impl_verticals.l0 k y0 y1 y2 y3 y4) (impl_verticals.l0 (k + 1) y0 y1 y2 y3 y4))
  | 0 => fun _ _ _ _ _ r h => by simp [impl_verticals.l0] at h
  | k + 1 => by
    have ih0 := impl_verticals.mono_l k
    · intro y0 y1 y2 y3 y4
      unfold impl_verticals.l0
      repeat' first
      | (with_reducible exact ih0 _ _ _ _ _)
      | (with_reducible exact LeO.refl _)
      | (with_reducible exact LeO.none _)
      | (with_reducible refine LeO.ite ?_ ?_)
      | (with_reducible refine LeO.bind ?_ (fun _ => ?_))
      | exact ih0 _ _ _ _ _
      | exact LeO.none _
      | refine LeO.ite ?_ ?_
      | refine LeO.bind ?_ (fun _ => ?_)
theorem impl_verticals.mono : ∀ a0 k, LeO (impl_verticals.f k a0) (impl_verticals.f (k + 1) a0) := by
  intro a0 k
  have ih0 := impl_verticals.mono_l k
  unfold impl_verticals.f
  repeat' first
      | (with_reducible exact ih0 _ _ _ _ _)
      | (with_reducible exact LeO.refl _)
      | (with_reducible exact LeO.none _)
      | (with_reducible refine LeO.ite ?_ ?_)
      | (with_reducible refine LeO.bind ?_ (fun _ => ?_))
      | exact ih0 _ _ _ _ _
      | exact LeO.none _
      | refine LeO.ite ?_ ?_
      | refine LeO.bind ?_ (fun _ => ?_)
set_option maxHeartbeats 8000000 in
set_option maxRecDepth 100000 in
theorem impl_verticals.calls (k : Nat) (A0 : Option Addr) (c0 : Nat) (l0 : List (S67)) (r : List (S93)) (w : World) (hr0 : Kd.C k67 w A0 l0.length l0) (hc0 : l0.length ≤ c0) (h : impl_verticals.f k l0 = some r) :
    Calls Try.prog 67 #[.slice A0 l0.length c0] w fun e w' => ∃ v0_ : Value, e = .returned (v0_) ∧ Kd.R k93 93 w' w.heap.size (fun _ => True) v0_ r ∧ Below w.heap.size w w' := by
  have hu67 := Try.underlying67
  have hu93 := Try.underlying93
  have HR0 := Aside0.mk hr0
  have HC0 := Aside0.mk hc0
  clear hr0 hc0
  have HB := Aside0.mk (Below.refl w.heap.size w)
  have H : (impl_verticals.l0 k l0 (([] : List (S93))) l0 (l0.length : Int) 0) = some r := h
  clear h
  obtain ⟨y246, hy246⟩ : ∃ y_ : List (S93), y_ = (([] : List (S93))) := ⟨_, rfl⟩
  replace H : (impl_verticals.l0 k l0 y246 l0 (l0.length : Int) 0) = some r := by first | (rw [hy246]; with_reducible exact H) | (have H2_ := (Option.bind_some _ _).symm.trans H; rw [hy246]; with_reducible exact H2_) | (have H2_ := (Option.bind_some _ _).symm.trans H; with_reducible exact H2_) | with_reducible exact H | (rw [hy246]; exact H) | exact H
  have Ny246 := Aside0.mk hy246
  clear hy246
  have H' := Aside0.mk H
  clear H
  go_enter Try.func67, Try.ntmps67
  go_wp2_with (first | ((with_reducible refine gate_dst (N := 7) rfl ?_); refine Kd.R_lit k93 _ 93 ?hg (N := 7) ?hd (xs := ([] : List (S93))) (inner := []) (ok := fun _ => True) (okp := fun _ => True) ?hr ?hp (fun _ hk => hk) trivial (Below.refl _ _) (Nat.le_refl _) (by simp) ?_; (case hd => rfl); (case hg => rfl); (case hr => first | (go_simp; done) | (go_simp; rfl)); (case hp => exact (Reps.none _ _)); intro v247 w2 ho3 hb hg_ hnew_; clear hg_ hnew_; (first | rw [← Ny246.out] at ho3 | (simp only [Int.reduceToNat] at ho3; rw [← Ny246.out] at ho3)); have n0_ := Aside0.mk (Kd.R_lower ho3 (below_size (by repeat (first | (with_reducible first | exact HB.out | apply below_alloc | apply pw_below_drewN | apply below_drew1) | exact HB.out)))); have n1_ := Aside0.mk (below_step (by repeat (first | (with_reducible first | exact HB.out | apply below_alloc | apply pw_below_drewN | apply below_drew1) | exact HB.out)) hb); clear HB; have HO248 := n0_; have HB := n1_; clear n0_ n1_; clear hb ho3))
  go_loopg [3, 10] k (fun kq v3 v10 w' => ∃ (x3_1 : List (S93)) (x10_1 : Int), v10 = .int .i64 x10_1 ∧ Aside0 (impl_verticals.l0 kq l0 x3_1 l0 (l0.length : Int) x10_1 = some r) ∧ Aside0 (kq ≤ k) ∧ Aside0 (Kd.R k93 93 w' w.heap.size (fun _ => True) v3 x3_1) ∧ Aside0 (Below w.heap.size w w'))
  case atStart => exact ⟨(y246), (0), (by first | rfl | (simp; done) | (simp [*]; done)), H', ⟨Nat.le_refl _⟩, ⟨by (with_reducible repeat (first | apply Kd.R_alloc | apply Kd.R_drewN | apply Kd.R_drew)); exact HO248.out⟩, ⟨by repeat (first | (with_reducible first | exact HB.out | apply below_alloc | apply pw_below_drewN | apply below_drew1) | exact HB.out)⟩⟩
  case round =>
    clear H'
    try clear p2
    obtain ⟨x3_1, x10_1, rfl, HA, HK1, HO_3, HB⟩ := hrel
    cases gk with
    | zero => exact absurd HA.out (by simp [impl_verticals.l0])
    | succ k1 =>
      have H := HA.out
      clear HA
      simp only [impl_verticals.l0] at H
      by_cases c4 : x10_1 < (l0.length : Int)
      · rw [if_pos c4] at H
        have c4b0 : decide (x10_1 < (l0.length : Int)) = true := decide_eq_true c4
        clear c4
        by_cases c5 : 0 ≤ x10_1
        · rw [if_pos c5] at H
          have c5b0 : decide (0 ≤ x10_1) = true := decide_eq_true c5
          clear c5
          by_cases c6 : x10_1 < (l0.length : Int)
          · rw [if_pos c6] at H
            have c6b0 : decide (x10_1 < (l0.length : Int)) = true := decide_eq_true c6
            clear c6
            by_cases c7 : (l0.length : Int) = 0
            · rw [if_pos c7] at H
              exact absurd H (by simp)
            · rw [if_neg c7] at H
              have c7b0 : ((l0.length : Int) == 0) = false := beq_eq_false_iff_ne.mpr c7
              have c7b1 : ((l0.length : Int) != 0) = true := bne_iff_ne.mpr c7
              have c7b2 : ¬ (l0 = []) := fun h_ => c7 (by rw [h_]; rfl)
              obtain ⟨ji8, hji8⟩ : ∃ j_ : Int, (Int.tmod (wrap64 (x10_1 + 1)) (l0.length : Int)) = j_ := ⟨_, rfl⟩
              replace H : (if 0 ≤ (ji8) then (if (ji8) < (l0.length : Int) then (if ((rd_T67 l0 x10_1).f0) = ((rd_T67 l0 (ji8)).f0) then (if x3_1.length < 4398046511104 then (impl_verticals.l0 k1 l0 (x3_1 ++ [(⟨(rd_T67 l0 x10_1).f0, (rd_T67 l0 x10_1).f1, (rd_T67 l0 (ji8)).f0, (rd_T67 l0 (ji8)).f1⟩ : S93)]) l0 (l0.length : Int) (wrap64 (x10_1 + 1))) else (none)) else (impl_verticals.l0 k1 l0 x3_1 l0 (l0.length : Int) (wrap64 (x10_1 + 1)))) else (none)) else (none)) = some r := by first | (rw [hji8] at H; exact H) | (simp only [hji8] at H ⊢; exact H)
              by_cases c9 : 0 ≤ (ji8)
              · rw [if_pos c9] at H
                have c9b0 : decide (0 ≤ (ji8)) = true := decide_eq_true c9
                clear c9
                by_cases c10 : (ji8) < (l0.length : Int)
                · rw [if_pos c10] at H
                  have c10b0 : decide ((ji8) < (l0.length : Int)) = true := decide_eq_true c10
                  clear c10
                  by_cases c11 : ((rd_T67 l0 x10_1).f0) = ((rd_T67 l0 (ji8)).f0)
                  · rw [if_pos c11] at H
                    have c11b0 : (((rd_T67 l0 x10_1).f0) == ((rd_T67 l0 (ji8)).f0)) = true := beq_iff_eq.mpr c11
                    have c11b1 : (((rd_T67 l0 x10_1).f0) != ((rd_T67 l0 (ji8)).f0)) = false := bne_eq_false_iff_eq.mpr c11
                    clear c11
                    by_cases c12 : x3_1.length < 4398046511104
                    · rw [if_pos c12] at H
                      have LMc12 := Aside0.mk c12
                      clear c12
                      obtain ⟨y253, hy253⟩ : ∃ y_ : List (S93), y_ = (x3_1 ++ [(⟨(rd_T67 l0 x10_1).f0, (rd_T67 l0 x10_1).f1, (rd_T67 l0 (ji8)).f0, (rd_T67 l0 (ji8)).f1⟩ : S93)]) := ⟨_, rfl⟩
                      replace H : (impl_verticals.l0 k1 l0 y253 l0 (l0.length : Int) (wrap64 (x10_1 + 1))) = some r := by first | (rw [hy253]; with_reducible exact H) | (have H2_ := (Option.bind_some _ _).symm.trans H; rw [hy253]; with_reducible exact H2_) | (have H2_ := (Option.bind_some _ _).symm.trans H; with_reducible exact H2_) | with_reducible exact H | (rw [hy253]; exact H) | exact H
                      have Ny253 := Aside0.mk hy253
                      clear hy253
                      have H' := Aside0.mk H
                      clear H
                      have p249 : 0 ≤ (x10_1 : Int) := of_decide_eq_true (by first | (with_reducible assumption) | assumption)
                      have q249 : x10_1 < (l0.length : Int) := of_decide_eq_true (by first | (with_reducible assumption) | assumption)
                      obtain ⟨ad249, e249, hx249_0, hx249_1⟩ := at_T67 HR0.out x10_1 p249 q249
                      cases e249
                      replace hx249_0 := (HB.out.cell (World.block_lt_of_cell? _ _ hx249_0)).trans hx249_0
                      replace hx249_1 := (HB.out.cell (World.block_lt_of_cell? _ _ hx249_1)).trans hx249_1
                      replace p249 := eq_true p249
                      replace q249 := eq_true q249
                      go_wp2_with (first | ((with_reducible refine gate_dst (N := 5) rfl ?_); refine box_event ?hg (N := 5) ?hd (cs := #[.int .i64 0, .int .i64 0]) (t := 67) ?hr ?_; (case hd => rfl); (case hg => rfl); (case hr => first | (go_simp; done) | (go_simp; rfl)); intro gb250 hg w13 hbox hb; have n0_ := Aside0.mk (Kd.R_below (by (with_reducible repeat (first | apply Kd.R_alloc | apply Kd.R_drewN | apply Kd.R_drew)); exact HO_3.out) hb); have n1_ := Aside0.mk (below_step (by repeat (first | (with_reducible first | exact HB.out | apply below_alloc | apply pw_below_drewN | apply below_drew1) | exact HB.out)) hb); have n2_ := Aside0.mk (hbox); have n3_ := Aside0.mk ((by rw [hg]; exact (below_size (by repeat (first | (with_reducible first | exact HB.out | apply below_alloc | apply pw_below_drewN | apply below_drew1) | exact HB.out))) : w.heap.size ≤ gb250)); have n4_ := Aside0.mk ((by rw [hg]; exact (below_size (by repeat (first | (with_reducible first | exact HB.out | apply below_alloc | apply pw_below_drewN | apply below_drew1) | exact HB.out))) : w.heap.size ≤ gb250)); clear HO_3; clear HB; have HO_3 := n0_; have HB := n1_; have BK250 := n2_; have GW250 := n3_; have GE250 := n4_; clear n0_ n1_ n2_ n3_ n4_; clear hb hbox hg; have hcz14_0 : w13.cell? ⟨gb250, 0, none⟩ = some (.int .i64 0) := (blk_cell BK250.out 0).trans rfl; have hcz14_1 : w13.cell? ⟨gb250, 1, none⟩ = some (.int .i64 0) := (blk_cell BK250.out 1).trans rfl; have hfz14_0 := blk_frozen BK250.out 0; have hfz14_1 := blk_frozen BK250.out 1; have p251 : 0 ≤ ((ji8) : Int) := of_decide_eq_true (by first | (with_reducible assumption) | assumption); have q251 : (ji8) < (l0.length : Int) := of_decide_eq_true (by first | (with_reducible assumption) | assumption); obtain ⟨ad251, e251, hx251_0, hx251_1⟩ := at_T67 HR0.out (ji8) p251 q251; obtain rfl : ad249 = ad251 := (by injection e251); have hn251_0 : ad249.block ≠ gb250 := Nat.ne_of_lt (Nat.lt_of_lt_of_le (by have := World.block_lt_of_cell? _ _ hx251_0; first | rwa [add_block] at this | exact this) GW250.out); have hn251_1 : ad249.block ≠ gb250 := Nat.ne_of_lt (Nat.lt_of_lt_of_le (by have := World.block_lt_of_cell? _ _ hx251_0; first | rwa [add_block] at this | exact this) GW250.out); replace hx251_0 := (HB.out.cell (World.block_lt_of_cell? _ _ hx251_0)).trans hx251_0; replace hx251_1 := (HB.out.cell (World.block_lt_of_cell? _ _ hx251_1)).trans hx251_1; replace hx251_0 := (cell_far (p := ⟨gb250, 0, none⟩) (by first | (rw [add_block]; exact hn251_0) | (show (Addr.add _ _).block ≠ _; rw [add_block]; exact hn251_0) | exact hn251_0) (.int .i64 ((rd_T67 l0 x10_1).f0))).trans hx251_0; replace hx251_1 := (cell_far (p := ⟨gb250, 0, none⟩) (by first | (rw [add_block]; exact hn251_0) | (show (Addr.add _ _).block ≠ _; rw [add_block]; exact hn251_0) | exact hn251_0) (.int .i64 ((rd_T67 l0 x10_1).f0))).trans hx251_1; replace hx251_0 := (cell_far (p := ⟨gb250, 1, none⟩) (by first | (rw [add_block]; exact hn251_1) | (show (Addr.add _ _).block ≠ _; rw [add_block]; exact hn251_1) | exact hn251_1) (.int .i64 ((rd_T67 l0 x10_1).f1))).trans hx251_0; replace hx251_1 := (cell_far (p := ⟨gb250, 1, none⟩) (by first | (rw [add_block]; exact hn251_1) | (show (Addr.add _ _).block ≠ _; rw [add_block]; exact hn251_1) | exact hn251_1) (.int .i64 ((rd_T67 l0 x10_1).f1))).trans hx251_1; clear hn251_0; clear hn251_1; replace p251 := eq_true p251; replace q251 := eq_true q251) | ((with_reducible refine gate_dst (N := 6) rfl ?_); refine box_event ?hg (N := 6) ?hd (cs := #[.int .i64 0, .int .i64 0]) (t := 67) ?hr ?_; (case hd => rfl); (case hg => rfl); (case hr => first | (go_simp; done) | (go_simp; rfl)); intro gb252 hg w15 hbox hb; have n0_ := Aside0.mk (Kd.R_below (by (with_reducible repeat (first | apply Kd.R_alloc | apply Kd.R_drewN | apply Kd.R_drew)); exact (Kd.R_mono (Kd.R_far (p := ⟨gb250, 1, none⟩) (Kd.R_far (p := ⟨gb250, 0, none⟩) (Kd.R_types HO_3.out BK250.out (by decide)) (fun _ hk => hk.2) (.int .i64 ((rd_T67 l0 x10_1).f0))) (fun _ hk => hk.2) (.int .i64 ((rd_T67 l0 x10_1).f1))) (fun _ h_ => h_.1))) hb); have n1_ := Aside0.mk (blk_below (g := gb250) (o := .cells #[.int .i64 ((rd_T67 l0 x10_1).f0), .int .i64 ((rd_T67 l0 x10_1).f1)] 67 (0, 0)) (by (with_reducible repeat (first | refine blk_drewN ?_ _ | refine blk_drew ?_ | refine blk_alloc ?_ _)); refine blk_put (cs := #[.int .i64 ((rd_T67 l0 x10_1).f0), .int .i64 0]) ?_ 1 _ rfl; (with_reducible repeat (first | refine blk_drewN ?_ _ | refine blk_drew ?_ | refine blk_alloc ?_ _)); refine blk_put (cs := #[.int .i64 0, .int .i64 0]) ?_ 0 _ rfl; (with_reducible repeat (first | refine blk_drewN ?_ _ | refine blk_drew ?_ | refine blk_alloc ?_ _)); exact BK250.out) hb); have n2_ := Aside0.mk (below_step (by repeat (first | (with_reducible first | exact HB.out | apply below_alloc | apply pw_below_drewN | apply below_drew1 | refine below_set ?_ GE250.out) | exact HB.out)) hb); have n3_ := Aside0.mk (hbox); have n4_ := Aside0.mk ((by rw [hg]; exact (below_size (by repeat (first | (with_reducible first | exact HB.out | apply below_alloc | apply pw_below_drewN | apply below_drew1 | refine below_set ?_ GE250.out) | exact HB.out))) : w.heap.size ≤ gb252)); have n5_ := Aside0.mk ((by rw [hg]; exact (below_size (by repeat (first | (with_reducible first | exact HB.out | apply below_alloc | apply pw_below_drewN | apply below_drew1 | refine below_set ?_ GE250.out) | exact HB.out))) : w.heap.size ≤ gb252)); have n6_ := Aside0.mk ((by rw [hg]; exact Nat.ne_of_lt (blk_lt (g := gb250) (o := .cells #[.int .i64 ((rd_T67 l0 x10_1).f0), .int .i64 ((rd_T67 l0 x10_1).f1)] 67 (0, 0)) (by (with_reducible repeat (first | refine blk_drewN ?_ _ | refine blk_drew ?_ | refine blk_alloc ?_ _)); refine blk_put (cs := #[.int .i64 ((rd_T67 l0 x10_1).f0), .int .i64 0]) ?_ 1 _ rfl; (with_reducible repeat (first | refine blk_drewN ?_ _ | refine blk_drew ?_ | refine blk_alloc ?_ _)); refine blk_put (cs := #[.int .i64 0, .int .i64 0]) ?_ 0 _ rfl; (with_reducible repeat (first | refine blk_drewN ?_ _ | refine blk_drew ?_ | refine blk_alloc ?_ _)); exact BK250.out)) : gb250 ≠ gb252)); have n7_ := Aside0.mk ((by rw [hg]; exact Nat.ne_of_gt (blk_lt (g := gb250) (o := .cells #[.int .i64 ((rd_T67 l0 x10_1).f0), .int .i64 ((rd_T67 l0 x10_1).f1)] 67 (0, 0)) (by (with_reducible repeat (first | refine blk_drewN ?_ _ | refine blk_drew ?_ | refine blk_alloc ?_ _)); refine blk_put (cs := #[.int .i64 ((rd_T67 l0 x10_1).f0), .int .i64 0]) ?_ 1 _ rfl; (with_reducible repeat (first | refine blk_drewN ?_ _ | refine blk_drew ?_ | refine blk_alloc ?_ _)); refine blk_put (cs := #[.int .i64 0, .int .i64 0]) ?_ 0 _ rfl; (with_reducible repeat (first | refine blk_drewN ?_ _ | refine blk_drew ?_ | refine blk_alloc ?_ _)); exact BK250.out)) : gb252 ≠ gb250)); clear HO_3; clear BK250; clear HB; have HO_3 := n0_; have BK250 := n1_; have HB := n2_; have BK252 := n3_; have GW252 := n4_; have GE252 := n5_; have NB250_252 := n6_; have NB252_250 := n7_; clear n0_ n1_ n2_ n3_ n4_ n5_ n6_ n7_; clear hb hbox hg; have hnb16 := NB252_250.out; have hnc16 := NB250_252.out; have hcz17_0 : w15.cell? ⟨gb252, 0, none⟩ = some (.int .i64 0) := (blk_cell BK252.out 0).trans rfl; have hcz17_1 : w15.cell? ⟨gb252, 1, none⟩ = some (.int .i64 0) := (blk_cell BK252.out 1).trans rfl; have hfz17_0 := blk_frozen BK252.out 0; have hfz17_1 := blk_frozen BK252.out 1; have hcz18_0 : w15.cell? ⟨gb250, 0, none⟩ = some (.int .i64 ((rd_T67 l0 x10_1).f0)) := (blk_cell BK250.out 0).trans rfl; have hcz18_1 : w15.cell? ⟨gb250, 1, none⟩ = some (.int .i64 ((rd_T67 l0 x10_1).f1)) := (blk_cell BK250.out 1).trans rfl; have hfz18_0 := blk_frozen BK250.out 0; have hfz18_1 := blk_frozen BK250.out 1) | ((with_reducible refine gate_builtin (b := .append) (xs := #[.tmp 28, .tmp 38]) rfl ?_); at_builtin; refine Kd.R_append k93 (w0 := w) w.heap.size rfl (.tmp 28) (.tmp 38) 56 93 (.agg #[(.int .i64 0), (.int .i64 0), (.int .i64 0), (.int .i64 0)]) 32 rfl Try.underlying56 info93 rfl (by decide) (by omega) u3 x3_1 (⟨(rd_T67 l0 x10_1).f0, (rd_T67 l0 x10_1).f1, (rd_T67 l0 (ji8)).f0, (rd_T67 l0 (ji8)).f1⟩ : S93) [.int .i64 ((rd_T67 l0 x10_1).f0), .int .i64 ((rd_T67 l0 x10_1).f1), .int .i64 ((rd_T67 l0 (ji8)).f0), .int .i64 ((rd_T67 l0 (ji8)).f1)] (fun _ => True) (fun _ => False) rfl (by first | (go_simp; done) | (go_simp; rfl)) ?aP (fun _ hk => hk.elim) ?aF ?aO ?aB ?aS ?aL ?_; (case aP => exact k93_mkM _ _ _ (⟨(rd_T67 l0 x10_1).f0, (rd_T67 l0 x10_1).f1, (rd_T67 l0 (ji8)).f0, (rd_T67 l0 (ji8)).f1⟩ : S93)); (case aB => exact (by repeat (first | (with_reducible first | exact HB.out | apply below_alloc | apply pw_below_drewN | apply below_drew1 | refine below_set ?_ GE250.out | refine below_set ?_ GE252.out) | exact HB.out))); (case aF => exact (fun _ _ => trivial)); (case aO => exact (by (with_reducible repeat (first | apply Kd.R_alloc | apply Kd.R_drewN | apply Kd.R_drew)); exact Kd.R_mono (Kd.R_far (p := ⟨gb252, 1, none⟩) (Kd.R_far (p := ⟨gb252, 0, none⟩) (Kd.R_types HO_3.out BK252.out (by decide)) (fun _ hk => hk.2) (.int .i64 ((rd_T67 l0 (ji8)).f0))) (fun _ hk => hk.2) (.int .i64 ((rd_T67 l0 (ji8)).f1))) (fun _ hk => trivial))); (case aS => exact (below_size (by repeat (first | (with_reducible first | exact HB.out | apply below_alloc | apply pw_below_drewN | apply below_drew1 | refine below_set ?_ GE250.out | refine below_set ?_ GE252.out) | exact HB.out)))); (case aL => have := LMc12.out; omega); intro v254 w19 ho hb hg hat; rw [← Ny253.out] at ho; have n0_ := Aside0.mk (blk_grown (g := gb250) (o := .cells #[.int .i64 ((rd_T67 l0 x10_1).f0), .int .i64 ((rd_T67 l0 x10_1).f1)] 67 (0, 0)) (by (with_reducible repeat (first | refine blk_drewN ?_ _ | refine blk_drew ?_ | refine blk_alloc ?_ _)); refine blk_far ?_ NB250_252.out _; (with_reducible repeat (first | refine blk_drewN ?_ _ | refine blk_drew ?_ | refine blk_alloc ?_ _)); refine blk_far ?_ NB250_252.out _; (with_reducible repeat (first | refine blk_drewN ?_ _ | refine blk_drew ?_ | refine blk_alloc ?_ _)); exact BK250.out) hg (Kd.R_ne HO_3.out BK250.out (by decide))); have n1_ := Aside0.mk (blk_grown (g := gb252) (o := .cells #[.int .i64 ((rd_T67 l0 (ji8)).f0), .int .i64 ((rd_T67 l0 (ji8)).f1)] 67 (0, 0)) (by (with_reducible repeat (first | refine blk_drewN ?_ _ | refine blk_drew ?_ | refine blk_alloc ?_ _)); refine blk_put (cs := #[.int .i64 ((rd_T67 l0 (ji8)).f0), .int .i64 0]) ?_ 1 _ rfl; (with_reducible repeat (first | refine blk_drewN ?_ _ | refine blk_drew ?_ | refine blk_alloc ?_ _)); refine blk_put (cs := #[.int .i64 0, .int .i64 0]) ?_ 0 _ rfl; (with_reducible repeat (first | refine blk_drewN ?_ _ | refine blk_drew ?_ | refine blk_alloc ?_ _)); exact BK252.out) hg (Kd.R_ne HO_3.out BK252.out (by decide))); have n2_ := Aside0.mk (hb); have n3_ := Aside0.mk (ho); clear BK250; clear BK252; clear HB; clear HO_3; have BK250 := n0_; have BK252 := n1_; have HB := n2_; have HO255 := n3_; clear n0_ n1_ n2_ n3_; clear ho hb hg hat))
                      go_roundg k1
                      case measure => have := HK1.out; omega
                      case rel => exact ⟨(y253), (wrap64 (x10_1 + 1)), (by first | rfl | (simp; done) | (simp [*]; done)), H', ⟨by have := HK1.out; omega⟩, ⟨by (with_reducible repeat (first | apply Kd.R_alloc | apply Kd.R_drewN | apply Kd.R_drew)); exact HO255.out⟩, ⟨by repeat (first | (with_reducible first | exact HB.out | apply below_alloc | apply pw_below_drewN | apply below_drew1 | refine below_set ?_ GE250.out | refine below_set ?_ GE252.out) | exact HB.out)⟩⟩
                    · rw [if_neg c12] at H
                      exact absurd H (by simp)
                  · rw [if_neg c11] at H
                    have c11b0 : (((rd_T67 l0 x10_1).f0) == ((rd_T67 l0 (ji8)).f0)) = false := beq_eq_false_iff_ne.mpr c11
                    have c11b1 : (((rd_T67 l0 x10_1).f0) != ((rd_T67 l0 (ji8)).f0)) = true := bne_iff_ne.mpr c11
                    have H' := Aside0.mk H
                    clear H
                    have p249 : 0 ≤ (x10_1 : Int) := of_decide_eq_true (by first | (with_reducible assumption) | assumption)
                    have q249 : x10_1 < (l0.length : Int) := of_decide_eq_true (by first | (with_reducible assumption) | assumption)
                    obtain ⟨ad249, e249, hx249_0, hx249_1⟩ := at_T67 HR0.out x10_1 p249 q249
                    cases e249
                    replace hx249_0 := (HB.out.cell (World.block_lt_of_cell? _ _ hx249_0)).trans hx249_0
                    replace hx249_1 := (HB.out.cell (World.block_lt_of_cell? _ _ hx249_1)).trans hx249_1
                    replace p249 := eq_true p249
                    replace q249 := eq_true q249
                    go_wp2_with (first | ((with_reducible refine gate_dst (N := 5) rfl ?_); refine box_event ?hg (N := 5) ?hd (cs := #[.int .i64 0, .int .i64 0]) (t := 67) ?hr ?_; (case hd => rfl); (case hg => rfl); (case hr => first | (go_simp; done) | (go_simp; rfl)); intro gb250 hg w20 hbox hb; have n0_ := Aside0.mk (Kd.R_below (by (with_reducible repeat (first | apply Kd.R_alloc | apply Kd.R_drewN | apply Kd.R_drew)); exact HO_3.out) hb); have n1_ := Aside0.mk (below_step (by repeat (first | (with_reducible first | exact HB.out | apply below_alloc | apply pw_below_drewN | apply below_drew1) | exact HB.out)) hb); have n2_ := Aside0.mk (hbox); have n3_ := Aside0.mk ((by rw [hg]; exact (below_size (by repeat (first | (with_reducible first | exact HB.out | apply below_alloc | apply pw_below_drewN | apply below_drew1) | exact HB.out))) : w.heap.size ≤ gb250)); have n4_ := Aside0.mk ((by rw [hg]; exact (below_size (by repeat (first | (with_reducible first | exact HB.out | apply below_alloc | apply pw_below_drewN | apply below_drew1) | exact HB.out))) : w.heap.size ≤ gb250)); clear HO_3; clear HB; have HO_3 := n0_; have HB := n1_; have BK250 := n2_; have GW250 := n3_; have GE250 := n4_; clear n0_ n1_ n2_ n3_ n4_; clear hb hbox hg; have hcz21_0 : w20.cell? ⟨gb250, 0, none⟩ = some (.int .i64 0) := (blk_cell BK250.out 0).trans rfl; have hcz21_1 : w20.cell? ⟨gb250, 1, none⟩ = some (.int .i64 0) := (blk_cell BK250.out 1).trans rfl; have hfz21_0 := blk_frozen BK250.out 0; have hfz21_1 := blk_frozen BK250.out 1; have p251 : 0 ≤ ((ji8) : Int) := of_decide_eq_true (by first | (with_reducible assumption) | assumption); have q251 : (ji8) < (l0.length : Int) := of_decide_eq_true (by first | (with_reducible assumption) | assumption); obtain ⟨ad251, e251, hx251_0, hx251_1⟩ := at_T67 HR0.out (ji8) p251 q251; obtain rfl : ad249 = ad251 := (by injection e251); have hn251_0 : ad249.block ≠ gb250 := Nat.ne_of_lt (Nat.lt_of_lt_of_le (by have := World.block_lt_of_cell? _ _ hx251_0; first | rwa [add_block] at this | exact this) GW250.out); have hn251_1 : ad249.block ≠ gb250 := Nat.ne_of_lt (Nat.lt_of_lt_of_le (by have := World.block_lt_of_cell? _ _ hx251_0; first | rwa [add_block] at this | exact this) GW250.out); replace hx251_0 := (HB.out.cell (World.block_lt_of_cell? _ _ hx251_0)).trans hx251_0; replace hx251_1 := (HB.out.cell (World.block_lt_of_cell? _ _ hx251_1)).trans hx251_1; replace hx251_0 := (cell_far (p := ⟨gb250, 0, none⟩) (by first | (rw [add_block]; exact hn251_0) | (show (Addr.add _ _).block ≠ _; rw [add_block]; exact hn251_0) | exact hn251_0) (.int .i64 ((rd_T67 l0 x10_1).f0))).trans hx251_0; replace hx251_1 := (cell_far (p := ⟨gb250, 0, none⟩) (by first | (rw [add_block]; exact hn251_0) | (show (Addr.add _ _).block ≠ _; rw [add_block]; exact hn251_0) | exact hn251_0) (.int .i64 ((rd_T67 l0 x10_1).f0))).trans hx251_1; replace hx251_0 := (cell_far (p := ⟨gb250, 1, none⟩) (by first | (rw [add_block]; exact hn251_1) | (show (Addr.add _ _).block ≠ _; rw [add_block]; exact hn251_1) | exact hn251_1) (.int .i64 ((rd_T67 l0 x10_1).f1))).trans hx251_0; replace hx251_1 := (cell_far (p := ⟨gb250, 1, none⟩) (by first | (rw [add_block]; exact hn251_1) | (show (Addr.add _ _).block ≠ _; rw [add_block]; exact hn251_1) | exact hn251_1) (.int .i64 ((rd_T67 l0 x10_1).f1))).trans hx251_1; clear hn251_0; clear hn251_1; replace p251 := eq_true p251; replace q251 := eq_true q251) | ((with_reducible refine gate_dst (N := 6) rfl ?_); refine box_event ?hg (N := 6) ?hd (cs := #[.int .i64 0, .int .i64 0]) (t := 67) ?hr ?_; (case hd => rfl); (case hg => rfl); (case hr => first | (go_simp; done) | (go_simp; rfl)); intro gb252 hg w22 hbox hb; have n0_ := Aside0.mk (Kd.R_below (by (with_reducible repeat (first | apply Kd.R_alloc | apply Kd.R_drewN | apply Kd.R_drew)); exact (Kd.R_mono (Kd.R_far (p := ⟨gb250, 1, none⟩) (Kd.R_far (p := ⟨gb250, 0, none⟩) (Kd.R_types HO_3.out BK250.out (by decide)) (fun _ hk => hk.2) (.int .i64 ((rd_T67 l0 x10_1).f0))) (fun _ hk => hk.2) (.int .i64 ((rd_T67 l0 x10_1).f1))) (fun _ h_ => h_.1))) hb); have n1_ := Aside0.mk (blk_below (g := gb250) (o := .cells #[.int .i64 ((rd_T67 l0 x10_1).f0), .int .i64 ((rd_T67 l0 x10_1).f1)] 67 (0, 0)) (by (with_reducible repeat (first | refine blk_drewN ?_ _ | refine blk_drew ?_ | refine blk_alloc ?_ _)); refine blk_put (cs := #[.int .i64 ((rd_T67 l0 x10_1).f0), .int .i64 0]) ?_ 1 _ rfl; (with_reducible repeat (first | refine blk_drewN ?_ _ | refine blk_drew ?_ | refine blk_alloc ?_ _)); refine blk_put (cs := #[.int .i64 0, .int .i64 0]) ?_ 0 _ rfl; (with_reducible repeat (first | refine blk_drewN ?_ _ | refine blk_drew ?_ | refine blk_alloc ?_ _)); exact BK250.out) hb); have n2_ := Aside0.mk (below_step (by repeat (first | (with_reducible first | exact HB.out | apply below_alloc | apply pw_below_drewN | apply below_drew1 | refine below_set ?_ GE250.out) | exact HB.out)) hb); have n3_ := Aside0.mk (hbox); have n4_ := Aside0.mk ((by rw [hg]; exact (below_size (by repeat (first | (with_reducible first | exact HB.out | apply below_alloc | apply pw_below_drewN | apply below_drew1 | refine below_set ?_ GE250.out) | exact HB.out))) : w.heap.size ≤ gb252)); have n5_ := Aside0.mk ((by rw [hg]; exact (below_size (by repeat (first | (with_reducible first | exact HB.out | apply below_alloc | apply pw_below_drewN | apply below_drew1 | refine below_set ?_ GE250.out) | exact HB.out))) : w.heap.size ≤ gb252)); have n6_ := Aside0.mk ((by rw [hg]; exact Nat.ne_of_lt (blk_lt (g := gb250) (o := .cells #[.int .i64 ((rd_T67 l0 x10_1).f0), .int .i64 ((rd_T67 l0 x10_1).f1)] 67 (0, 0)) (by (with_reducible repeat (first | refine blk_drewN ?_ _ | refine blk_drew ?_ | refine blk_alloc ?_ _)); refine blk_put (cs := #[.int .i64 ((rd_T67 l0 x10_1).f0), .int .i64 0]) ?_ 1 _ rfl; (with_reducible repeat (first | refine blk_drewN ?_ _ | refine blk_drew ?_ | refine blk_alloc ?_ _)); refine blk_put (cs := #[.int .i64 0, .int .i64 0]) ?_ 0 _ rfl; (with_reducible repeat (first | refine blk_drewN ?_ _ | refine blk_drew ?_ | refine blk_alloc ?_ _)); exact BK250.out)) : gb250 ≠ gb252)); have n7_ := Aside0.mk ((by rw [hg]; exact Nat.ne_of_gt (blk_lt (g := gb250) (o := .cells #[.int .i64 ((rd_T67 l0 x10_1).f0), .int .i64 ((rd_T67 l0 x10_1).f1)] 67 (0, 0)) (by (with_reducible repeat (first | refine blk_drewN ?_ _ | refine blk_drew ?_ | refine blk_alloc ?_ _)); refine blk_put (cs := #[.int .i64 ((rd_T67 l0 x10_1).f0), .int .i64 0]) ?_ 1 _ rfl; (with_reducible repeat (first | refine blk_drewN ?_ _ | refine blk_drew ?_ | refine blk_alloc ?_ _)); refine blk_put (cs := #[.int .i64 0, .int .i64 0]) ?_ 0 _ rfl; (with_reducible repeat (first | refine blk_drewN ?_ _ | refine blk_drew ?_ | refine blk_alloc ?_ _)); exact BK250.out)) : gb252 ≠ gb250)); clear HO_3; clear BK250; clear HB; have HO_3 := n0_; have BK250 := n1_; have HB := n2_; have BK252 := n3_; have GW252 := n4_; have GE252 := n5_; have NB250_252 := n6_; have NB252_250 := n7_; clear n0_ n1_ n2_ n3_ n4_ n5_ n6_ n7_; clear hb hbox hg; have hnb23 := NB252_250.out; have hnc23 := NB250_252.out; have hcz24_0 : w22.cell? ⟨gb252, 0, none⟩ = some (.int .i64 0) := (blk_cell BK252.out 0).trans rfl; have hcz24_1 : w22.cell? ⟨gb252, 1, none⟩ = some (.int .i64 0) := (blk_cell BK252.out 1).trans rfl; have hfz24_0 := blk_frozen BK252.out 0; have hfz24_1 := blk_frozen BK252.out 1; have hcz25_0 : w22.cell? ⟨gb250, 0, none⟩ = some (.int .i64 ((rd_T67 l0 x10_1).f0)) := (blk_cell BK250.out 0).trans rfl; have hcz25_1 : w22.cell? ⟨gb250, 1, none⟩ = some (.int .i64 ((rd_T67 l0 x10_1).f1)) := (blk_cell BK250.out 1).trans rfl; have hfz25_0 := blk_frozen BK250.out 0; have hfz25_1 := blk_frozen BK250.out 1))
                    go_roundg k1
                    case measure => have := HK1.out; omega
                    case rel => exact ⟨(x3_1), (wrap64 (x10_1 + 1)), (by first | rfl | (simp; done) | (simp [*]; done)), H', ⟨by have := HK1.out; omega⟩, ⟨by (with_reducible repeat (first | apply Kd.R_alloc | apply Kd.R_drewN | apply Kd.R_drew)); exact Kd.R_mono (Kd.R_far (p := ⟨gb252, 1, none⟩) (Kd.R_far (p := ⟨gb252, 0, none⟩) (Kd.R_types HO_3.out BK252.out (by decide)) (fun _ hk => hk.2) (.int .i64 ((rd_T67 l0 (ji8)).f0))) (fun _ hk => hk.2) (.int .i64 ((rd_T67 l0 (ji8)).f1))) (fun _ hk => trivial)⟩, ⟨by repeat (first | (with_reducible first | exact HB.out | apply below_alloc | apply pw_below_drewN | apply below_drew1 | refine below_set ?_ GE250.out | refine below_set ?_ GE252.out) | exact HB.out)⟩⟩
                · rw [if_neg c10] at H
                  exact absurd H (by simp)
              · rw [if_neg c9] at H
                exact absurd H (by simp)
          · rw [if_neg c6] at H
            exact absurd H (by simp)
        · rw [if_neg c5] at H
          exact absurd H (by simp)
      · rw [if_neg c4] at H
        have c4b0 : decide (x10_1 < (l0.length : Int)) = false := decide_eq_false c4
        clear c4
        obtain rfl := Option.some.inj H
        go_wp2
        go_ret
        exact ⟨_, by first | rfl | (simp [errW_none, errW_some] <;> rfl) | (simp [*, errW_none, errW_some] <;> rfl), by (with_reducible repeat (first | apply Kd.R_alloc | apply Kd.R_drewN | apply Kd.R_drew)); exact HO_3.out, by repeat (first | (with_reducible first | exact HB.out | apply below_alloc | apply pw_below_drewN | apply below_drew1) | exact HB.out)⟩

end Go.Proofs.Ytncjjplpenjghaa.P

/-! ### QSides -/
/- The sides of a polygon: the reference lists all, the program the vertical ones; the signed areas are the same. -/
set_option linter.unusedVariables false
set_option linter.unusedSimpArgs false
namespace Go.Proofs.Ytncjjplpenjghaa.Q
open Go.RowKit Go.Proofs.Ytncjjplpenjghaa.P Go.Proofs.YtncjjplpenjghaaW.PrintWords Go.Proofs.YtncjjplpenjghaaW.PrintLast

def side (p : List S67) (i : Nat) : S93 := ⟨X p i, Y p i, X p (i + 1), Y p (i + 1)⟩
def sides (p : List S67) : List S93 := (List.range p.length).map (side p)
def upright (e : S93) : Bool := e.f0 == e.f2

theorem spec_sides_loop (p : List S67) (hl : p.length ≤ 1048576) (d : Nat) : ∀ (i : Nat) (acc : List S93), i + d = p.length → acc.length + d ≤ 1048576 →
    Ev (fun k => spec_l08Sides.l0 k p acc i) (acc ++ (List.range' i d).map (side p)) := by
  induction d with
  | zero =>
    intro i acc hi ha
    refine Ev.step (f := fun _ => some acc) (fun k => ?_) (by simpa using Ev.now acc)
    simp only [spec_l08Sides.l0]
    rw [if_neg (by omega)]
  | succ d ih =>
    intro i acc hi ha
    have hm : (i + 1) % p.length < p.length := Nat.mod_lt _ (by omega)
    have e1 : Int.tmod (wrap64 ((i : Int) + 1)) p.length = (((i + 1) % p.length : Nat) : Int) := tmod_nat _ _ _ (by rw [w64 (by omega) (by omega)]; omega)
    refine Ev.step (fun k => ?_) (ih (i + 1) (acc ++ [side p i]) (by omega) (by simp; omega) |> fun x => by simpa [List.range'_succ] using x)
    simp only [spec_l08Sides.l0]
    rw [if_pos (by omega), if_neg (by omega), e1, if_pos (by omega), if_pos (by omega), if_pos (by omega), if_pos (by omega), rdX p i (by omega), rdY p i (by omega), rdX p _ hm, rdY p _ hm, X_mod, Y_mod, w64 (by omega) (by omega)]
    rfl

theorem spec_sides (p : List S67) (hl : p.length ≤ 1048576) : Ev (fun k => spec_l08Sides.f k p) (sides p) := by
  have h := spec_sides_loop p hl p.length 0 [] (by omega) (by simp; omega)
  refine Ev.congr (fun k => ?_) (by simpa [sides, List.range_eq_range'] using h)
  simp [spec_l08Sides.f]

theorem impl_vert_loop (p : List S67) (hl : p.length ≤ 1048576) (d : Nat) : ∀ (i : Nat) (acc : List S93), i + d = p.length → acc.length + d ≤ 1048576 →
    Ev (fun k => impl_verticals.l0 k p acc p p.length i) (acc ++ ((List.range' i d).map (side p)).filter upright) := by
  induction d with
  | zero =>
    intro i acc hi ha
    refine Ev.step (f := fun _ => some acc) (fun k => ?_) (by simpa using Ev.now acc)
    simp only [impl_verticals.l0]
    rw [if_neg (by omega)]
  | succ d ih =>
    intro i acc hi ha
    have hm : (i + 1) % p.length < p.length := Nat.mod_lt _ (by omega)
    have e1 : Int.tmod (wrap64 ((i : Int) + 1)) p.length = (((i + 1) % p.length : Nat) : Int) := tmod_nat _ _ _ (by rw [w64 (by omega) (by omega)]; omega)
    by_cases hu : X p i = X p (i + 1)
    · have hup : upright (side p i) = true := by simp [upright, side, hu]
      refine Ev.step (fun k => ?_) (ih (i + 1) (acc ++ [side p i]) (by omega) (by simp; omega) |> fun x => by simpa [List.range'_succ, List.filter_cons, hup] using x)
      simp only [impl_verticals.l0]
      rw [if_pos (by omega), if_pos (by omega), if_pos (by omega), if_neg (by omega), e1, if_pos (by omega), if_pos (by omega), rdX p i (by omega), rdY p i (by omega), rdX p _ hm, rdY p _ hm, X_mod, Y_mod, if_pos hu, if_pos (by omega), w64 (by omega) (by omega)]
      rfl
    · have hup : upright (side p i) = false := by simp [upright, side, hu]
      refine Ev.step (fun k => ?_) (ih (i + 1) acc (by omega) (by omega) |> fun x => by simpa [List.range'_succ, List.filter_cons, hup] using x)
      simp only [impl_verticals.l0]
      rw [if_pos (by omega), if_pos (by omega), if_pos (by omega), if_neg (by omega), e1, if_pos (by omega), if_pos (by omega), rdX p i (by omega), rdX p _ hm, X_mod, if_neg hu, w64 (by omega) (by omega)] <;> rfl

theorem impl_vert (p : List S67) (hl : p.length ≤ 1048576) : Ev (fun k => impl_verticals.f k p) ((sides p).filter upright) := by
  have h := impl_vert_loop p hl p.length 0 [] (by omega) (by simp; omega)
  refine Ev.congr (fun k => ?_) (by simpa [sides, List.range_eq_range'] using h)
  simp [impl_verticals.f]
theorem sides_len (p : List S67) : (sides p).length = p.length := by simp [sides]
end Go.Proofs.Ytncjjplpenjghaa.Q

/-! ### Hand -/
/- Small laws for walks by hand: a grid of 80 by 80 bools in a block of its own. -/
set_option linter.unusedVariables false
set_option linter.unusedSimpArgs false
namespace Go.Proofs.Ytncjjplpenjghaa.H
open Go.RowKit Go.Proofs.YtncjjplpenjghaaW.PrintWords Go.Proofs.YtncjjplpenjghaaW.PrintLast

def gridN (n : Nat) (g : Nat → Bool) : Array Value := Array.ofFn (n := n) fun i => .bool (g i)
theorem gridN_size (n : Nat) (g : Nat → Bool) : (gridN n g).size = n := by simp [gridN]
theorem gridN_get (n : Nat) (g : Nat → Bool) (j : Nat) (h : j < (gridN n g).size) : (gridN n g)[j] = .bool (g j) := by simp [gridN]
theorem gridN_ext (n : Nat) (g : Nat → Bool) (A : Array Value) (hs : A.size = n) (h : ∀ j (hj : j < A.size), A[j] = .bool (g j)) : A = gridN n g := by
  apply Array.ext
  · rw [hs, gridN_size]
  · intro i h1 h2
    rw [h i h1, gridN_get]
def gridArr (g : Nat → Bool) : Array Value := gridN 6400 g
/-- Block b is the grid g: 80 rows of 80. -/
def Grid (w : World) (b : Nat) (g : Nat → Bool) : Prop := w.heap[b]? = some (.cells (gridArr g) 103 (0, 0))
def gridZ : Array Value := Array.replicate 6400 (.bool false)
theorem built_grid : Try.prog.built 103 [] = some gridZ := by kernel_rfl
theorem gridZ_is : gridZ = gridArr (fun _ => false) := by
  refine gridN_ext 6400 _ _ ?_ ?_
  · exact Array.size_replicate
  · intro j hj
    exact Array.getElem_replicate ..
theorem Grid.zero {w : World} {b : Nat} (h : w.heap[b]? = some (.cells gridZ 103 (0, 0))) : Grid w b (fun _ => false) := by
  unfold Grid
  rw [← gridZ_is]
  exact h
theorem Grid.cell {w : World} {b : Nat} {g : Nat → Bool} (h : Grid w b g) (i : Nat) (hi : i < 6400) : w.cell? ⟨b, i, none⟩ = some (.bool (g i)) := by
  unfold Grid at h
  simp only [World.cell?, h, Option.isSome_none, Bool.false_eq_true, if_false]
  unfold gridArr
  rw [Array.getElem?_eq_getElem (by rw [gridN_size]; exact hi), gridN_get]
theorem Grid.frozen {w : World} {b : Nat} {g : Nat → Bool} (h : Grid w b g) (i : Nat) : w.frozen? ⟨b, i, none⟩ = false := by
  unfold Grid at h
  simp [World.frozen?, h]
theorem Grid.congr {w : World} {b : Nat} {g g' : Nat → Bool} (h : Grid w b g) (hg : ∀ i, i < 6400 → g' i = g i) : Grid w b g' := by
  have e : gridArr g = gridArr g' := by
    refine gridN_ext 6400 g' _ (gridN_size _ _) ?_
    intro i h1
    unfold gridArr at *
    rw [gridN_size] at h1
    rw [gridN_get, hg i h1]
  unfold Grid at *
  rw [← e]
  exact h
theorem Grid.set {w : World} {b : Nat} {g g' : Nat → Bool} (h : Grid w b g) {i : Nat} {v : Bool} (hi : i < 6400) (hg : ∀ j, j < 6400 → g' j = if j = i then v else g j) : Grid (w.setCell ⟨b, i, none⟩ (.bool v)) b g' := by
  unfold Grid at *
  have hb : b < w.heap.size := by
    rcases Nat.lt_or_ge b w.heap.size with h1 | h1
    · exact h1
    · rw [Array.getElem?_eq_none h1] at h; cases h
  have e : (gridArr g).setIfInBounds i (.bool v) = gridArr g' := by
    refine gridN_ext 6400 g' _ ?_ ?_
    · rw [Array.size_setIfInBounds]; exact gridN_size _ _
    · intro j h1
      have h3 : j < 6400 := by
        have e3 : ((gridArr g).setIfInBounds i (.bool v)).size = 6400 := by rw [Array.size_setIfInBounds]; exact gridN_size _ _
        omega
      have h4 : j < (gridArr g).size := by rw [Array.size_setIfInBounds] at h1; exact h1
      rw [hg j h3]
      by_cases e : j = i
      · rw [if_pos e]
        rw [Array.getElem_setIfInBounds h4, if_pos e.symm]
      · rw [if_neg e, Array.getElem_setIfInBounds h4, if_neg (fun x => e x.symm)]
        exact gridN_get ..
  unfold World.setCell
  simp only [Array.getElem?_modify, if_true, h, Option.map_some]
  simp only [Option.isSome_none, Bool.false_eq_true, if_false, e]
theorem Grid.lt {w : World} {b : Nat} {g : Nat → Bool} (h : Grid w b g) : b < w.heap.size := by
  unfold Grid at h
  rcases Nat.lt_or_ge b w.heap.size with h1 | h1
  · exact h1
  · rw [Array.getElem?_eq_none h1] at h; cases h
theorem Grid.below {w w' : World} {b : Nat} {g : Nat → Bool} (h : Grid w b g) (hb : Below w.heap.size w w') : Grid w' b g := by
  have := h.lt
  unfold Grid at *
  rw [hb.block b this]
  exact h
theorem Grid.alloc {w : World} {b : Nat} {g : Nat → Bool} (h : Grid w b g) (o : Obj) : Grid (w.alloc o) b g :=
  h.below ((Below.refl _ _).alloc (Nat.le_refl _) _)
theorem Grid.far {w : World} {b : Nat} {g : Nat → Bool} (h : Grid w b g) {p : Addr} (hp : p.block ≠ b) (v : Value) : Grid (w.setCell p v) b g := by
  unfold Grid at *
  rw [Below.heap_setCell w p v b (fun e => hp e.symm)]
  exact h
theorem Grid.drewN {w : World} {b : Nat} {g : Nat → Bool} (h : Grid w b g) (n : Nat) : Grid (w.drewN n) b g := h
theorem Grid.drew {w : World} {b : Nat} {g : Nat → Bool} (h : Grid w b g) : Grid w.drew b g := h

/-- The answer is a pointer to a new grid. -/
def NewGrid (w : World) (g : Nat → Bool) (e : Ending) (w' : World) : Prop := ∃ b, e = .returned (.pointer (some ⟨b, 0, none⟩)) ∧ w.heap.size ≤ b ∧ Below w.heap.size w w' ∧ Grid w' b g
/-- The place of a unit cell in a grid. -/
def at_ (x y : Int) : Nat := (y + 40).toNat * 80 + (x + 40).toNat
end Go.Proofs.Ytncjjplpenjghaa.H

/-! ### Parity -/
/- parity: the program's grid of the unit cells with an odd number of vertical edges to their left. -/
set_option linter.unusedVariables false
set_option linter.unusedSimpArgs false
namespace Go.Proofs.Ytncjjplpenjghaa.H
open Go.RowKit Go.Proofs.Ytncjjplpenjghaa.P Go.Proofs.YtncjjplpenjghaaW.PrintWords Go.Proofs.YtncjjplpenjghaaW.PrintLast  Go.Proofs.YtncjjplpenjghaaW.PrintMore
attribute [local go_sem] max2_int min2_int max_two min_two
def Ch (x : Int) : Prop := -40 ≤ x ∧ x ≤ 40
def EOk (e : S93) : Prop := Ch e.f0 ∧ Ch e.f1 ∧ Ch e.f2 ∧ Ch e.f3
/-- The unit cell i is in the column x, in a row from the lesser of a and b to below y. -/
def hitTo (x a b y : Int) (i : Nat) : Bool := decide (x + 40 = (i % 80 : Nat) ∧ x < 40 ∧ min a b + 40 ≤ (i / 80 : Nat) ∧ ((i / 80 : Nat) : Int) < y + 40)
def hit (e : S93) (i : Nat) : Bool := hitTo e.f0 e.f1 e.f3 (max e.f1 e.f3) i
def flips (es : List S93) (i : Nat) : Bool := es.foldl (fun b e => b != hit e i) false
theorem rdE_get (l : List S93) (i : Nat) (h : i < l.length) : rd_T93 l i = l[i] := by
  simp [rd_T93, List.getD_eq_getElem?_getD, h]
/-- The edge's variable. -/
def EAt (w : World) (b : Nat) (x0 y0 x1 y1 : Int) : Prop := w.heap[b]? = some (.cells #[.int .i64 x0, .int .i64 y0, .int .i64 x1, .int .i64 y1] 93 (0, 0))
section
variable {w w' : World} {b : Nat} {x0 y0 x1 y1 yy : Int} {g : Nat → Bool} {be : Nat}
theorem EAt.cells (h : EAt w b x0 y0 x1 y1) : w.cell? ⟨b, 0, none⟩ = some (.int .i64 x0) ∧ w.cell? ⟨b, 1, none⟩ = some (.int .i64 y0) ∧ w.cell? ⟨b, 3, none⟩ = some (.int .i64 y1) := by
  unfold EAt at h
  simp [World.cell?, h]
theorem EAt.far (h : EAt w b x0 y0 x1 y1) {p : Addr} (hp : p.block ≠ b) (v : Value) : EAt (w.setCell p v) b x0 y0 x1 y1 := by
  unfold EAt at *
  rw [Below.heap_setCell w p v b (fun e => hp e.symm)]
  exact h
def R1 (w : World) (l0 : List S93) (i : Value) (wr : World) : Prop := ∃ k : Nat, k ≤ l0.length ∧ i = .int .i64 k ∧ Below w.heap.size w wr ∧ Grid wr w.heap.size (flips (l0.take k))
def R2 (w : World) (be : Nat) (x0 y0 x1 y1 : Int) (g : Nat → Bool) (y : Value) (w' : World) : Prop :=
  ∃ yy : Int, min y0 y1 ≤ yy ∧ yy ≤ max y0 y1 ∧ y = .int .i64 yy ∧ Below w.heap.size w w' ∧ Grid w' w.heap.size (fun i => g i != hitTo x0 y0 y1 yy i) ∧ EAt w' be x0 y0 x1 y1
theorem R2.start {y : Int} (hy : y = min y0 y1) (hb : Below w.heap.size w w') (hg : Grid w' w.heap.size g) (he : EAt w' be x0 y0 x1 y1) : R2 w be x0 y0 x1 y1 g (.int .i64 y) w' := by
  subst hy
  refine ⟨_, Int.le_refl _, by omega, rfl, hb, hg.congr fun i _ => ?_, he⟩
  have : hitTo x0 y0 y1 (min y0 y1) i = false := by unfold hitTo; rw [decide_eq_false_iff_not]; omega
  simp [this]
theorem hitTo_step (i : Nat) (h0 : min y0 y1 ≤ yy) (hl : -40 ≤ yy) (hx0 : -40 ≤ x0) : hitTo x0 y0 y1 (yy + 1) i = if x0 < 40 ∧ i = (yy + 40).toNat * 80 + (x0 + 40).toNat then true else hitTo x0 y0 y1 yy i := by
  unfold hitTo
  split
  · rename_i h
    obtain ⟨h1, h2⟩ := h
    have e1 : i % 80 = (x0 + 40).toNat := by omega
    have e2 : i / 80 = (yy + 40).toNat := by omega
    rw [decide_eq_true_eq, e1, e2]
    omega
  · rename_i h
    rw [decide_eq_decide]
    constructor
    · rintro ⟨a, b, c, d⟩
      refine ⟨a, b, c, ?_⟩
      rcases Int.lt_or_le ((i / 80 : Nat) : Int) (yy + 40) with h3 | h3
      · exact h3
      · exact absurd ⟨b, by omega⟩ h
    · rintro ⟨a, b, c, d⟩
      exact ⟨a, b, c, by omega⟩
theorem hitTo_at (hl : -40 ≤ yy) (hx : -40 ≤ x0) (hx2 : x0 < 40) : hitTo x0 y0 y1 yy ((yy + 40).toNat * 80 + (x0 + 40).toNat) = false := by
  unfold hitTo
  rw [decide_eq_false_iff_not]
  omega
theorem R2.skip (h0 : min y0 y1 ≤ yy) (h1 : yy < max y0 y1) (hl : -40 ≤ yy) (hx : 40 ≤ x0) (hb : Below w.heap.size w w') (hg : Grid w' w.heap.size (fun i => g i != hitTo x0 y0 y1 yy i)) (he : EAt w' be x0 y0 x1 y1) :
    R2 w be x0 y0 x1 y1 g (.int .i64 (yy + 1)) w' := by
  refine ⟨_, by omega, by omega, rfl, hb, hg.congr fun i _ => ?_, he⟩
  rw [hitTo_step i h0 (by omega) (by omega), if_neg (by omega)]
theorem R2.put (h0 : min y0 y1 ≤ yy) (h1 : yy < max y0 y1) (hl : -40 ≤ yy) (hh : max y0 y1 ≤ 40) (hx0 : -40 ≤ x0) (hx : x0 < 40) (hb : Below w.heap.size w w') (hbe : be ≠ w.heap.size) (hg : Grid w' w.heap.size (fun i => g i != hitTo x0 y0 y1 yy i)) (he : EAt w' be x0 y0 x1 y1) :
    R2 w be x0 y0 x1 y1 g (.int .i64 (yy + 1)) (w'.setCell ⟨w.heap.size, (yy + 40).toNat * 80 + (x0 + 40).toNat, none⟩ (.bool (!(g ((yy + 40).toNat * 80 + (x0 + 40).toNat))))) := by
  refine ⟨_, by omega, by omega, rfl, hb.setCell (Nat.le_refl _) _, hg.set (by omega) fun i _ => ?_, he.far (fun x => hbe x.symm) _⟩
  rw [hitTo_step i h0 (by omega) (by omega)]
  by_cases hi : i = (yy + 40).toNat * 80 + (x0 + 40).toNat
  · rw [if_pos ⟨hx, hi⟩, if_pos hi, hi]; simp
  · rw [if_neg (fun x => hi x.2), if_neg hi]
theorem R2.drew {y : Value} (h : R2 w be x0 y0 x1 y1 g y w') : R2 w be x0 y0 x1 y1 g y w'.drew := by
  obtain ⟨yy, h1, h2, h3, h4, h5, h6⟩ := h
  exact ⟨yy, h1, h2, h3, h4.drew, h5, h6⟩
theorem R1.step {l0 : List S93} {k : Nat} (hk : k < l0.length) (he : l0[k] = ⟨x0, y0, x1, y1⟩) (hg0 : flips (l0.take k) = g) (h1 : max y0 y1 = yy) (hb : Below w.heap.size w w') (hg : Grid w' w.heap.size (fun i => g i != hitTo x0 y0 y1 yy i)) :
    R1 w l0 (.int .i64 (↑k + 1)) w' := by
  subst h1
  refine ⟨k + 1, by omega, rfl, hb, hg.congr fun i _ => ?_⟩
  rw [List.take_succ_eq_append_getElem hk, he, ← hg0]
  simp [flips, List.foldl_append, hit]
end
/-- The odd count of g's cells up to i in i's row. -/
def px (g : Nat → Bool) (i : Nat) : Bool := (List.range (i % 80 + 1)).foldl (fun b j => b != g (i / 80 * 80 + j)) false
theorem px_first (g : Nat → Bool) (r : Nat) : px g (r * 80) = g (r * 80) := by
  unfold px
  rw [show r * 80 % 80 = 0 from by omega, show r * 80 / 80 = r from by omega]
  simp
theorem px_next (g : Nat → Bool) (r x : Nat) (h : x + 1 < 80) : px g (r * 80 + (x + 1)) = (px g (r * 80 + x) != g (r * 80 + (x + 1))) := by
  unfold px
  rw [show (r * 80 + (x + 1)) % 80 = x + 1 from by omega, show (r * 80 + (x + 1)) / 80 = r from by omega, show (r * 80 + x) % 80 = x from by omega, show (r * 80 + x) / 80 = r from by omega, List.range_succ, List.foldl_append]
  simp
def rowsTo (g : Nat → Bool) (k x : Nat) (i : Nat) : Bool := if i / 80 < k ∨ (i / 80 = k ∧ i % 80 < x) then px g i else g i
section
variable {w w' : World} {g : Nat → Bool}
def R3 (w : World) (g : Nat → Bool) (i : Value) (w' : World) : Prop := ∃ k : Nat, k ≤ 80 ∧ i = .int .i64 k ∧ Below w.heap.size w w' ∧ Grid w' w.heap.size (rowsTo g k 1)
def R4 (w : World) (g : Nat → Bool) (k : Nat) (i : Value) (w' : World) : Prop := ∃ x : Nat, x ≤ 79 ∧ i = .int .i64 (x + 1) ∧ Below w.heap.size w w' ∧ Grid w' w.heap.size (rowsTo g k (x + 1))
theorem R3.start (hb : Below w.heap.size w w') (hg : Grid w' w.heap.size g) : R3 w g (.int .i64 0) w' := by
  refine ⟨0, by omega, rfl, hb, hg.congr fun i _ => ?_⟩
  unfold rowsTo
  split
  · have e : i = 0 := by omega
    subst e
    exact px_first g 0
  · rfl
theorem R4.start {k : Nat} (hb : Below w.heap.size w w') (hg : Grid w' w.heap.size (rowsTo g k 1)) : R4 w g k (.int .i64 1) w' := ⟨0, by omega, rfl, hb, hg⟩
theorem R4.step {k x : Nat} (hx : x < 79) (hk : k < 80) (hb : Below w.heap.size w w') (hg : Grid w' w.heap.size (rowsTo g k (x + 1))) :
    R4 w g k (.int .i64 ((x : Int) + 1 + 1)) (w'.setCell ⟨w.heap.size, k * 80 + (x + 1), none⟩ (.bool (px g (k * 80 + (x + 1))))).drew := by
  refine ⟨x + 1, by omega, by simp, (hb.setCell (Nat.le_refl _) _).drew, Grid.drew (hg.set (by omega) fun i _ => ?_)⟩
  unfold rowsTo
  by_cases hi : i = k * 80 + (x + 1)
  · rw [if_pos hi, if_pos (by omega), hi]
  · rw [if_neg hi]
    by_cases h2 : i / 80 < k ∨ i / 80 = k ∧ i % 80 < x + 1
    · rw [if_pos h2, if_pos (by omega)]
    · rw [if_neg h2, if_neg (by omega)]
theorem R4.reads {k x : Nat} (hx : x < 79) : rowsTo g k (x + 1) (k * 80 + x) = px g (k * 80 + x) ∧ rowsTo g k (x + 1) (k * 80 + (x + 1)) = g (k * 80 + (x + 1)) := by
  unfold rowsTo
  rw [if_pos (by omega), if_neg (by omega)]
  exact ⟨rfl, rfl⟩
theorem R3.step {k x : Nat} (hx : 79 ≤ x) (hk : k < 80) (hb : Below w.heap.size w w') (hg : Grid w' w.heap.size (rowsTo g k (x + 1))) : R3 w g (.int .i64 (↑k + 1)) w' := by
  refine ⟨k + 1, by omega, rfl, hb, hg.congr fun i hi => ?_⟩
  unfold rowsTo
  by_cases h1 : i / 80 < k ∨ i / 80 = k ∧ i % 80 < x + 1
  · rw [if_pos h1, if_pos (by omega)]
  · rw [if_neg h1]
    by_cases h2 : i / 80 < k + 1 ∨ i / 80 = k + 1 ∧ i % 80 < 1
    · rw [if_pos h2]
      have e : i = (k + 1) * 80 := by omega
      rw [e, px_first]
    · rw [if_neg h2]
end
theorem NewGrid.last {w w' : World} {g : Nat → Bool} {k : Nat} (hk : 80 ≤ k) (hb : Below w.heap.size w w') (hg : Grid w' w.heap.size (rowsTo g k 1)) : NewGrid w (px g) (.returned (.pointer (some ⟨w.heap.size, 0, none⟩))) w' := by
  refine ⟨_, rfl, Nat.le_refl _, hb, hg.congr fun i hi => ?_⟩
  unfold rowsTo
  rw [if_pos (by omega)]
set_option maxHeartbeats 400000 in
theorem parity_calls (A0 : Option Addr) (c0 : Nat) (l0 : List S93) (w : World) (hr0 : Kd.C k93 w A0 l0.length l0) (hc0 : l0.length ≤ c0) (hle : l0.length ≤ 1048576) (hok : ∀ e ∈ l0, EOk e) :
    Calls Try.prog 66 #[.slice A0 l0.length c0] w (NewGrid w (px (flips l0))) := by
  have HR := Lib.hid hr0
  clear hr0
  have HOK := Lib.hid hok
  clear hok
  go_enter Try.func66, Try.ntmps66
  go_wp2_with (first | ((with_reducible refine gate_dst (N := 9) rfl ?_); refine wpList_build_nil rfl 103 rfl gridZ built_grid ?_) | ((with_reducible refine gate_dst (N := 10) rfl ?_); refine box_event rfl (N := 10) rfl (cs := gridZ) (t := 103) ?hr ?_; (case hr => first | (go_simp; done) | (go_simp; rfl)); intro gb hg w1 hbox hb))
  subst hg
  go_loopw [13] (fun i wr => R1 w l0 i wr) (fun i _ => l0.length - (intOf i).toNat)
  case atStart => exact ⟨0, by omega, rfl, hb, (Grid.zero hbox).congr (fun _ _ => rfl)⟩
  case round =>
    clear hbox hb
    obtain ⟨k, hk, rfl, hbel, hgrid⟩ := hrel
    obtain ⟨wo, rfl⟩ : ∃ wo : World, wo = wr := ⟨_, rfl⟩
    by_cases hlt : k < l0.length
    · obtain ⟨ad, rfl, h0, h1, h2, h3⟩ := at_T93 (Kd.C_below HR.out hbel) (k : Int) (by omega) (by omega)
      rw [rdE_get l0 k hlt, Int.toNat_natCast] at h0 h1 h2 h3
      have heok := HOK.out _ (List.getElem_mem hlt)
      generalize he : l0[k] = e at *
      obtain ⟨x0, y0, x1, y1⟩ := e
      have HE := Lib.hid he
      clear he
      obtain ⟨⟨o1, o2⟩, ⟨o3, o4⟩, ⟨o5, o6⟩, ⟨o7, o8⟩⟩ := heok
      dsimp only at h0 h1 h2 h3 o1 o2 o3 o4 o5 o6 o7 o8
      have hE : EAt (wo.alloc (.cells #[.int .i64 x0, .int .i64 y0, .int .i64 x1, .int .i64 y1] 93 (0, 0))) wo.heap.size x0 y0 x1 y1 := blk_new wo _
      have hgl := hgrid.lt
      have HG := Lib.hid (hgrid.alloc (.cells #[.int .i64 x0, .int .i64 y0, .int .i64 x1, .int .i64 y1] 93 (0, 0)))
      have HBE := Lib.hid (Below.alloc hbel (hbel.size) (.cells #[.int .i64 x0, .int .i64 y0, .int .i64 x1, .int .i64 y1] 93 (0, 0)))
      have HEA := Lib.hid hE
      clear hE hgrid hbel
      generalize hG : flips (l0.take k) = g at *
      have HGG := Lib.hid hG
      clear hG
      rcases (by omega : y0 < y1 ∨ y1 < y0 ∨ y0 = y1) with hmm | hmm | hmm
      rotate_right
      · subst hmm
        go_wp2_with fail
        go_loopw [6] (fun y w' => R2 w wo.heap.size x0 y0 x1 y0 g y w') (fun y _ => (max y0 y0 - intOf y).toNat)
        case atStart => exact R2.start (by omega) HBE.out HG.out HEA.out
        case round =>
          clear HBE HG HEA
          obtain ⟨yy, z1, z2, rfl, hb2, hg2, he2⟩ := hrel
          obtain ⟨q0, q1, q3⟩ := he2.cells
          have HB2 := Lib.hid hb2
          have HG2 := Lib.hid hg2
          clear hb2 hg2 he2
          go_wp2_with fail
          exact ⟨R1.step hlt HE.out HGG.out (by omega) HB2.out HG2.out, by simp [intOf]; omega⟩
      all_goals
        go_wp2_with fail
        go_loopw [6] (fun y w' => R2 w wo.heap.size x0 y0 x1 y1 g y w') (fun y _ => (max y0 y1 - intOf y).toNat)
        case atStart => exact R2.start (by omega) HBE.out HG.out HEA.out
        case round =>
          clear HBE HG HEA
          obtain ⟨yy, z1, z2, rfl, hb2, hg2, he2⟩ := hrel
          obtain ⟨q0, q1, q3⟩ := he2.cells
          have HB2 := Lib.hid hb2
          have HG2 := Lib.hid hg2
          have HE2 := Lib.hid he2
          clear hb2 hg2 he2
          by_cases hx : x0 < 40
          · by_cases hy : yy < max y0 y1
            · have hcell := HG2.out.cell ((yy + 40).toNat * 80 + (x0 + 40).toNat) (by omega)
              have hfz := HG2.out.frozen ((yy + 40).toNat * 80 + (x0 + 40).toNat)
              rw [hitTo_at (by omega) (by omega) hx, Bool.bne_false] at hcell
              go_wp2_with fail
              go_region
              all_goals
                go_wp2_with fail
                exact ⟨(R2.put z1 hy (by omega) (by omega) (by omega) hx HB2.out (by omega) HG2.out HE2.out).drew, by simp [intOf]; omega⟩
            · go_wp2_with fail
              exact ⟨R1.step hlt HE.out HGG.out (by omega) HB2.out HG2.out, by simp [intOf]; omega⟩
          · by_cases hy : yy < max y0 y1
            · go_wp2_with fail
              exact ⟨R2.skip z1 hy (by omega) (by omega) HB2.out HG2.out HE2.out, by simp [intOf]; omega⟩
            · go_wp2_with fail
              exact ⟨R1.step hlt HE.out HGG.out (by omega) HB2.out HG2.out, by simp [intOf]; omega⟩
    · have hkk : k = l0.length := by omega
      subst hkk
      rw [List.take_length] at hgrid
      generalize flips l0 = g at *
      have HB := Lib.hid hbel
      have HG := Lib.hid hgrid
      clear hbel hgrid
      go_wp2_with fail
      go_loopw [55] (fun i wr => R3 w g i wr) (fun i _ => 80 - (intOf i).toNat)
      case atStart => exact R3.start HB.out HG.out
      case round =>
        clear HB HG
        obtain ⟨k, hk, rfl, hb1, hg1⟩ := hrel
        obtain ⟨w2, rfl⟩ : ∃ w2 : World, w2 = wr := ⟨_, rfl⟩
        have HB := Lib.hid hb1
        have HG := Lib.hid hg1
        clear hb1 hg1
        by_cases hk2 : k < 80
        · go_wp2_with fail
          go_loopw [8] (fun i wr => R4 w g k i wr) (fun i _ => 80 - (intOf i).toNat)
          case atStart => exact R4.start HB.out HG.out
          case round =>
            clear HB HG
            obtain ⟨x, hx, rfl, hb1, hg1⟩ := hrel
            have HB := Lib.hid hb1
            have HG := Lib.hid hg1
            clear hb1 hg1
            by_cases hx2 : x < 79
            · have hc1 := HG.out.cell (k * 80 + x) (by omega)
              have hc2 := HG.out.cell (k * 80 + (x + 1)) (by omega)
              have hfz := HG.out.frozen (k * 80 + (x + 1))
              rw [(R4.reads hx2).1] at hc1
              rw [(R4.reads hx2).2] at hc2
              go_wp2_with fail
              go_region
              all_goals
                go_wp2_with fail
                refine ⟨?_, by simp [intOf]; omega⟩
                have e := R4.step (g := g) hx2 hk2 HB.out HG.out
                rw [px_next g k x (by omega)] at e
                revert e
                generalize px g (k * 80 + x) = p
                generalize g (k * 80 + (x + 1)) = q
                intro e
                cases p <;> cases q <;> exact e
            · go_wp2_with fail
              exact ⟨R3.step (by omega) hk2 HB.out HG.out, by simp [intOf]; omega⟩
        · go_wp2_with fail
          go_ret
          exact NewGrid.last (by omega) HB.out HG.out
end Go.Proofs.Ytncjjplpenjghaa.H

/-! ### Inside -/
/- The unit cells inside a polygon, as a grid. -/
set_option linter.unusedVariables false
set_option linter.unusedSimpArgs false
namespace Go.Proofs.Ytncjjplpenjghaa.Q
open Go.RowKit Go.Proofs.Ytncjjplpenjghaa.P Go.Proofs.Ytncjjplpenjghaa.H Go.Proofs.YtncjjplpenjghaaW.PrintWords Go.Proofs.YtncjjplpenjghaaW.PrintLast
/-- The unit cells inside a polygon, as a grid. -/
def insideG (p : List S67) : Nat → Bool := px (flips ((sides p).filter upright))
theorem vp_len {p : List S67} (h : vp p = true) : p.length ≤ 12800 := by
  unfold vp at h
  simp only [Bool.and_eq_true, decide_eq_true_eq] at h
  exact h.1.2.1
theorem vp_chip {p : List S67} (h : vp p = true) (i : Nat) : onC (X p i) (Y p i) = true := by
  unfold vp at h
  simp only [Bool.and_eq_true, decide_eq_true_eq, List.all_eq_true, List.mem_range] at h
  have h1 := h.2 (i % p.length) (Nat.mod_lt _ (by omega))
  unfold okI at h1
  simp only [Bool.and_eq_true] at h1
  rw [← X_mod, ← Y_mod]
  exact h1.1.1
theorem sides_ok {p : List S67} (h : vp p = true) : ∀ e ∈ sides p, EOk e := by
  intro e he
  simp only [sides, List.mem_map] at he
  obtain ⟨i, _, rfl⟩ := he
  have h1 := vp_chip h i
  have h2 := vp_chip h (i + 1)
  simp only [onC, decide_eq_true_eq] at h1 h2
  exact ⟨⟨h1.1, h1.2.1⟩, ⟨h1.2.2.1, h1.2.2.2⟩, ⟨h2.1, h2.2.1⟩, ⟨h2.2.2.1, h2.2.2.2⟩⟩
end Go.Proofs.Ytncjjplpenjghaa.Q

/-! ### RowEq -/
/- Two rows of bools compared as Go compares arrays; a row of a grid read whole. -/
set_option linter.unusedVariables false
set_option linter.unusedSimpArgs false
namespace Go.Proofs.Ytncjjplpenjghaa.H
open Go Go.RowKit Go.Proofs.YtncjjplpenjghaaW.PrintWords Go.Proofs.YtncjjplpenjghaaW.PrintLast
theorem run_eqLoop {P : Program} (d te n : Nat) (xs ys : Array Value) (f g : Nat → Bool) (he : P.underlying te = some .bool)
    (hx : ∀ (i : Nat) w, i < n → (part te xs i).run P w = .ok (.bool (f i)) w) (hy : ∀ (i : Nat) w, i < n → (part te ys i).run P w = .ok (.bool (g i)) w) (w : World) :
    ∀ (L : List Nat), (∀ i ∈ L, i < n) → Sem.run P (forIn L ((none, ()) : Option Bool × Unit) fun i __s => do
            let a ← part te xs i
            let b ← part te ys i
            let r ← Op.equalIn (d + 1) te a b
            if (!r) = true then pure (ForInStep.done (some false, ())) else pure (ForInStep.yield (none, ()))) w = .ok (if (L.all fun i => f i == g i) = true then (none, ()) else (some false, ())) w
  | [], _ => by simp
  | i :: L, h => by
    have hi := h i (by simp)
    simp only [List.forIn_cons, Sem.run_bind, hx i w hi, Result.andThen_ok, hy i w hi, run_equalIn_bool' w d te (f i) (g i) he]
    cases hfg : f i == g i
    · simp [hfg]
    · have ih := run_eqLoop d te n xs ys f g he hx hy w L (fun j hj => h j (by simp [hj]))
      simp only [Bool.not_true, Bool.false_eq_true, if_false, Sem.run_pure, Result.andThen_ok, List.all_cons, hfg, Bool.true_and]
      exact ih
theorem run_equalIn_bools {P : Program} (d : Nat) (t te n : Nat) (xs ys : Array Value) (f g : Nat → Bool) (ht : P.underlying t = some (.array n te)) (he : P.underlying te = some .bool) (hs : ∀ w, (sizeOf te).run P w = .ok 1 w)
    (hx : ∀ (i : Nat) w, i < n → (part te xs i).run P w = .ok (.bool (f i)) w) (hy : ∀ (i : Nat) w, i < n → (part te ys i).run P w = .ok (.bool (g i)) w) (w : World) :
    (Op.equalIn (d + 2) t (.agg xs) (.agg ys)).run P w = .ok ((List.range n).all fun i => f i == g i) w := by
  unfold Op.equalIn
  simp only [Sem.run_bind, run_underlying ht, Result.andThen_ok, hs, Nat.mul_one]
  rw [Std.Legacy.Range.forIn_eq_forIn_range']
  simp only [Std.Legacy.Range.size]
  have h := run_eqLoop d te n xs ys f g he hx hy w (List.range' 0 ((n - 0 + 1 - 1) / 1)) (fun i hi => by have := (List.mem_range'_1.1 hi).2; simp at this; omega)
  rw [h]
  simp only [Result.andThen_ok]
  have e : (n - 0 + 1 - 1) / 1 = n := by simp
  rw [e, List.range_eq_range']
  cases hc : (List.range' 0 n).all fun i => f i == g i
  · simp
  · simp
/-- Row y of a grid, whole. -/
def rowL (g : Nat → Bool) (y : Nat) : List Value := (List.range 80).map fun x => .bool (g (y * 80 + x))
def rowA (g : Nat → Bool) (y : Nat) : Array Value := (rowL g y).toArray
theorem rowL_len (g : Nat → Bool) (y : Nat) : (rowL g y).length = 80 := by simp [rowL]
theorem rowL_get (g : Nat → Bool) (y x : Nat) (h : x < 80) : (rowL g y)[x]? = some (.bool (g (y * 80 + x))) := by simp [rowL, h]
theorem rowA_get (g : Nat → Bool) (y x : Nat) (h : x < 80) : (rowA g y)[x]? = some (.bool (g (y * 80 + x))) := by
  unfold rowA
  rw [List.getElem?_toArray]
  exact rowL_get g y x h
theorem info_row : (Try.prog.info? 101).map (·.size) = some 80 := by kernel_rfl
theorem size_bool (w : World) : (sizeOf 4).run Try.prog w = .ok 1 w := by kernel_rfl
/-- Reading row y of a grid. -/
theorem load_row {w : World} {b : Nat} {g : Nat → Bool} (h : Grid w b g) (y : Nat) (hy : y < 80) : (Instr.loadAt 101 (.pointer (some ⟨b, y * 80, none⟩))).run Try.prog w = .ok (.agg (rowA g y)) w := by
  refine run_loadAt_mid w b (y * 80) 101 (rowL g y) _ (fun j v hv => ?_) Try.underlying101 rfl (by rw [rowL_len]; exact info_row)
  have hj : j < 80 := by have := (List.getElem?_eq_some_iff.1 hv).1; rw [rowL_len] at this; exact this
  rw [rowL_get g y j hj] at hv
  injection hv with hv
  subst hv
  exact h.cell _ (by omega)
theorem part_bool (cs : Array Value) (i : Nat) (b : Bool) (h : cs[i]? = some (.bool b)) (w : World) : (part 4 cs i).run Try.prog w = .ok (.bool b) w := by
  unfold part isAgg
  simp only [Sem.run_bind, run_underlying Try.underlying4, Result.andThen_ok, Sem.run_pure]
  simp [h]
theorem equal_rows (g g' : Nat → Bool) (y y' : Nat) (w : World) : (Op.equalIn 10000 101 (.agg (rowA g y)) (.agg (rowA g' y'))).run Try.prog w = .ok ((List.range 80).all fun x => g (y * 80 + x) == g' (y' * 80 + x)) w := by
  rw [show (10000 : Nat) = 9998 + 2 from rfl, run_equalIn_bools (P := Try.prog) 9998 101 4 80 (rowA g y) (rowA g' y') (fun x => g (y * 80 + x)) (fun x => g' (y' * 80 + x)) Try.underlying101 Try.underlying4 size_bool
    (fun i w hi => part_bool _ _ _ (rowA_get g y i hi) w) (fun i w hi => part_bool _ _ _ (rowA_get g' y' i hi) w) w]
/-- Two rows of grids compared. -/
theorem eql_rows (g g' : Nat → Bool) (y y' : Nat) (w : World) : (binOp .eql 101 (.agg (rowA g y)) (.agg (rowA g' y'))).run Try.prog w = .ok (.bool ((List.range 80).all fun x => g (y * 80 + x) == g' (y' * 80 + x))) w := by
  rw [run_eql_struct, equal_rows]
  rfl
end Go.Proofs.Ytncjjplpenjghaa.H

/-! ### GridM -/
/- Sets of unit cells and their regions, plain: runs of a row, bands of equal rows, the region's rectangles. -/
set_option linter.unusedVariables false
set_option linter.unusedSimpArgs false
namespace Go.Proofs.Ytncjjplpenjghaa.G
open Go.Proofs.Ytncjjplpenjghaa.P
abbrev Rc := S75
instance : DecidableEq Rc := fun a b => decidable_of_iff (a.f0 = b.f0 ∧ a.f1 = b.f1 ∧ a.f2 = b.f2 ∧ a.f3 = b.f3) (by cases a; cases b; simp)
def okR (r : Rc) : Bool := decide (-40 ≤ r.f0 ∧ r.f0 < r.f2 ∧ r.f2 ≤ 40 ∧ -40 ≤ r.f1 ∧ r.f1 < r.f3 ∧ r.f3 ≤ 40)
theorem okR_b {r : Rc} (h : okR r = true) : -40 ≤ r.f0 ∧ r.f0 < r.f2 ∧ r.f2 ≤ 40 ∧ -40 ≤ r.f1 ∧ r.f1 < r.f3 ∧ r.f3 ≤ 40 := of_decide_eq_true h
/-- The unit cell number i is in the rectangle. -/
def inR (r : Rc) (i : Nat) : Bool := decide (r.f0 + 40 ≤ (i % 80 : Nat) ∧ ((i % 80 : Nat) : Int) < r.f2 + 40 ∧ r.f1 + 40 ≤ (i / 80 : Nat) ∧ ((i / 80 : Nat) : Int) < r.f3 + 40)
def cov (l : List Rc) (i : Nat) : Bool := l.any fun r => inR r i
theorem cov_nil (i : Nat) : cov [] i = false := rfl
theorem cov_cons (r : Rc) (l : List Rc) (i : Nat) : cov (r :: l) i = (inR r i || cov l i) := rfl
theorem cov_append (l m : List Rc) (i : Nat) : cov (l ++ m) i = (cov l i || cov m i) := by simp [cov]
theorem cov_iff {l : List Rc} {i : Nat} : cov l i = true ↔ ∃ r ∈ l, inR r i = true := by simp [cov]
/-! runs -/
def scan (r : Nat → Bool) : Nat → Nat → Option Nat → List (Nat × Nat)
  | 0, _, none => []
  | 0, x, some s => [(s, x)]
  | d + 1, x, none => scan r d (x + 1) (if r x = true then some x else none)
  | d + 1, x, some s => if r x = true then scan r d (x + 1) (some s) else (s, x) :: scan r d (x + 1) none
def runs (r : Nat → Bool) : List (Nat × Nat) := scan r 80 0 none
theorem scan_congr {r r' : Nat → Bool} : ∀ (d x : Nat) (o : Option Nat), (∀ j, x ≤ j → j < x + d → r j = r' j) → scan r d x o = scan r' d x o
  | 0, x, none, _ => rfl
  | 0, x, some s, _ => rfl
  | d + 1, x, none, h => by
    simp only [scan]
    rw [h x (by omega) (by omega)]
    exact scan_congr d (x + 1) _ (fun j h1 h2 => h j (by omega) (by omega))
  | d + 1, x, some s, h => by
    simp only [scan]
    rw [h x (by omega) (by omega), scan_congr d (x + 1) (some s) (fun j h1 h2 => h j (by omega) (by omega)), scan_congr d (x + 1) none (fun j h1 h2 => h j (by omega) (by omega))]
theorem runs_congr {r r' : Nat → Bool} (h : ∀ j, j < 80 → r j = r' j) : runs r = runs r' := scan_congr 80 0 none (fun j _ h2 => h j (by omega))
/-- What is told of each run; where the open one began. -/
theorem scan_ok (r : Nat → Bool) : ∀ (d x : Nat) (o : Option Nat), (∀ s, o = some s → s < x) → ∀ p ∈ scan r d x o, p.1 < p.2 ∧ p.2 ≤ x + d ∧ o.getD x ≤ p.1
  | 0, x, none, _, p, hp => by cases hp
  | 0, x, some s, ho, p, hp => by
    simp only [scan, List.mem_singleton] at hp
    subst hp
    have := ho s rfl
    exact ⟨this, Nat.le_refl _, Nat.le_refl _⟩
  | d + 1, x, none, ho, p, hp => by
    simp only [scan] at hp
    by_cases hr : r x = true
    · rw [if_pos hr] at hp
      obtain ⟨a, b, c⟩ := scan_ok r d (x + 1) (some x) (fun s h => by injection h with h; omega) p hp
      exact ⟨a, by omega, c⟩
    · rw [if_neg hr] at hp
      obtain ⟨a, b, c⟩ := scan_ok r d (x + 1) none (fun s h => by cases h) p hp
      exact ⟨a, by omega, by simp only [Option.getD_none] at *; omega⟩
  | d + 1, x, some s, ho, p, hp => by
    have hs := ho s rfl
    simp only [scan] at hp
    by_cases hr : r x = true
    · rw [if_pos hr] at hp
      obtain ⟨a, b, c⟩ := scan_ok r d (x + 1) (some s) (fun s' h => by injection h with h; omega) p hp
      exact ⟨a, by omega, c⟩
    · rw [if_neg hr] at hp
      rcases List.mem_cons.1 hp with rfl | hp
      · exact ⟨hs, by show x ≤ _; omega, Nat.le_refl _⟩
      · obtain ⟨a, b, c⟩ := scan_ok r d (x + 1) none (fun s h => by cases h) p hp
        exact ⟨a, by omega, by simp only [Option.getD_none, Option.getD_some] at *; omega⟩
theorem scan_len (r : Nat → Bool) : ∀ (d x : Nat) (o : Option Nat), 2 * (scan r d x o).length ≤ d + (if o.isSome then 2 else 1)
  | 0, x, none => by simp [scan]
  | 0, x, some s => by simp [scan]
  | d + 1, x, none => by
    simp only [scan]
    by_cases hr : r x = true
    · rw [if_pos hr]; have := scan_len r d (x + 1) (some x); simp at this ⊢; omega
    · rw [if_neg hr]; have := scan_len r d (x + 1) none; simp at this ⊢; omega
  | d + 1, x, some s => by
    simp only [scan]
    by_cases hr : r x = true
    · rw [if_pos hr]; have := scan_len r d (x + 1) (some s); simp at this ⊢; omega
    · rw [if_neg hr]; have := scan_len r d (x + 1) none; simp at this ⊢; omega
theorem runs_len (r : Nat → Bool) : (runs r).length ≤ 40 := by have := scan_len r 80 0 none; simp at this; unfold runs; omega
def lens (l : List (Nat × Nat)) : Nat := (l.map fun p => p.2 - p.1).sum
theorem scan_sum (r : Nat → Bool) : ∀ (d x : Nat) (o : Option Nat), (∀ s, o = some s → s ≤ x) → lens (scan r d x o) + o.getD x ≤ x + d
  | 0, x, none, _ => by simp [scan, lens]
  | 0, x, some s, h => by have := h s rfl; simp [scan, lens]; omega
  | d + 1, x, none, _ => by
    simp only [scan]
    by_cases hr : r x = true
    · rw [if_pos hr]; have := scan_sum r d (x + 1) (some x) (fun s h => by injection h with h; omega); simp at this ⊢; omega
    · rw [if_neg hr]; have := scan_sum r d (x + 1) none (fun s h => by cases h); simp at this ⊢; omega
  | d + 1, x, some s, h => by
    have hs := h s rfl
    simp only [scan]
    by_cases hr : r x = true
    · rw [if_pos hr]; have := scan_sum r d (x + 1) (some s) (fun s' h => by injection h with h; omega); simp at this ⊢; omega
    · rw [if_neg hr]
      have := scan_sum r d (x + 1) none (fun s h => by cases h)
      simp only [lens, List.map_cons, List.sum_cons, Option.getD_none, Option.getD_some] at this ⊢
      omega
theorem runs_sum (r : Nat → Bool) : lens (runs r) ≤ 80 := by have := scan_sum r 80 0 none (fun s h => by cases h); simp at this; exact this
/-- Which columns the runs have. -/
theorem scan_mem (r : Nat → Bool) (j : Nat) : ∀ (d x : Nat) (o : Option Nat), (∀ s, o = some s → s ≤ x) → ((∃ p ∈ scan r d x o, p.1 ≤ j ∧ j < p.2) ↔ ((∃ s, o = some s ∧ s ≤ j ∧ j < x) ∨ (x ≤ j ∧ j < x + d ∧ r j = true)))
  | 0, x, none, _ => by simp [scan]; omega
  | 0, x, some s, h => by simp [scan]; omega
  | d + 1, x, none, _ => by
    simp only [scan]
    by_cases hr : r x = true
    · rw [if_pos hr, scan_mem r j d (x + 1) (some x) (fun s h => by injection h with h; omega)]
      simp only [Option.some.injEq, exists_eq_left', reduceCtorEq, false_and, exists_false, false_or]
      constructor
      · rintro (h | ⟨h1, h2, h3⟩)
        · have : j = x := by omega
          subst this; exact ⟨by omega, by omega, hr⟩
        · exact ⟨by omega, by omega, h3⟩
      · rintro ⟨h1, h2, h3⟩
        by_cases hj : j = x
        · exact .inl (by omega)
        · exact .inr ⟨by omega, by omega, h3⟩
    · rw [if_neg hr, scan_mem r j d (x + 1) none (fun s h => by cases h)]
      simp only [reduceCtorEq, false_and, exists_false, false_or]
      constructor
      · rintro ⟨h1, h2, h3⟩; exact ⟨by omega, by omega, h3⟩
      · rintro ⟨h1, h2, h3⟩
        have : j ≠ x := fun e => hr (e ▸ h3)
        exact ⟨by omega, by omega, h3⟩
  | d + 1, x, some s, h => by
    have hs := h s rfl
    simp only [scan]
    by_cases hr : r x = true
    · rw [if_pos hr, scan_mem r j d (x + 1) (some s) (fun s' h => by injection h with h; omega)]
      simp only [Option.some.injEq, exists_eq_left']
      constructor
      · rintro (h | ⟨h1, h2, h3⟩)
        · by_cases hj : j = x
          · subst hj; exact .inr ⟨by omega, by omega, hr⟩
          · exact .inl (by omega)
        · exact .inr ⟨by omega, by omega, h3⟩
      · rintro (h | ⟨h1, h2, h3⟩)
        · exact .inl (by omega)
        · by_cases hj : j = x
          · exact .inl (by omega)
          · exact .inr ⟨by omega, by omega, h3⟩
    · rw [if_neg hr]
      simp only [List.mem_cons, Option.some.injEq, exists_eq_left', exists_eq_or_imp]
      rw [scan_mem r j d (x + 1) none (fun s h => by cases h)]
      simp only [reduceCtorEq, false_and, exists_false, false_or]
      constructor
      · rintro (h | ⟨h1, h2, h3⟩)
        · exact .inl h
        · exact .inr ⟨by omega, by omega, h3⟩
      · rintro (h | ⟨h1, h2, h3⟩)
        · exact .inl h
        · have : j ≠ x := fun e => hr (e ▸ h3)
          exact .inr ⟨by omega, by omega, h3⟩
theorem runs_mem (r : Nat → Bool) (j : Nat) : (∃ p ∈ runs r, p.1 ≤ j ∧ j < p.2) ↔ (j < 80 ∧ r j = true) := by
  unfold runs
  rw [scan_mem r j 80 0 none (fun s h => by cases h)]
  simp
theorem runs_inj {r r' : Nat → Bool} (h : runs r = runs r') (j : Nat) (hj : j < 80) : r j = r' j := by
  rw [Bool.eq_iff_iff]
  have a := runs_mem r j
  have b := runs_mem r' j
  rw [h] at a
  constructor
  · intro h1; exact (b.1 (a.2 ⟨hj, h1⟩)).2
  · intro h1; exact (a.1 (b.2 ⟨hj, h1⟩)).2
/-! bands -/
def row (g : Nat → Bool) (y x : Nat) : Bool := g (y * 80 + x)
def rowEq (g : Nat → Bool) (y e : Nat) : Bool := (List.range 80).all fun x => g (e * 80 + x) == g (y * 80 + x)
theorem rowEq_iff {g : Nat → Bool} {y e : Nat} : rowEq g y e = true ↔ ∀ x, x < 80 → g (e * 80 + x) = g (y * 80 + x) := by simp [rowEq]
def bandEnd (g : Nat → Bool) (y : Nat) : Nat → Nat → Nat
  | 0, e => e
  | d + 1, e => if e < 80 ∧ rowEq g y e = true then bandEnd g y d (e + 1) else e
theorem bandEnd_ok (g : Nat → Bool) (y : Nat) : ∀ (d e : Nat), e ≤ 80 → 80 ≤ d + e → e ≤ bandEnd g y d e ∧ bandEnd g y d e ≤ 80 ∧ (∀ k, e ≤ k → k < bandEnd g y d e → rowEq g y k = true) ∧ (bandEnd g y d e = 80 ∨ rowEq g y (bandEnd g y d e) = false)
  | 0, e, h1, h2 => by
    have : e = 80 := by omega
    subst this
    exact ⟨Nat.le_refl _, Nat.le_refl _, fun k a b => by simp only [bandEnd] at b; omega, .inl rfl⟩
  | d + 1, e, h1, h2 => by
    simp only [bandEnd]
    by_cases h : e < 80 ∧ rowEq g y e = true
    · rw [if_pos h]
      obtain ⟨a, b, c, f⟩ := bandEnd_ok g y d (e + 1) (by omega) (by omega)
      refine ⟨by omega, b, fun k k1 k2 => ?_, f⟩
      by_cases hk : k = e
      · rw [hk]; exact h.2
      · exact c k (by omega) k2
    · rw [if_neg h]
      refine ⟨Nat.le_refl _, h1, fun k a b => by omega, ?_⟩
      by_cases he : e = 80
      · exact .inl he
      · right
        cases hr : rowEq g y e with
        | false => rfl
        | true => exact absurd ⟨by omega, hr⟩ h
theorem bandEnd_fuel (g : Nat → Bool) (y : Nat) : ∀ (d d' e : Nat), e ≤ 80 → 80 ≤ d + e → 80 ≤ d' + e → bandEnd g y d e = bandEnd g y d' e
  | 0, 0, e, _, _, _ => rfl
  | 0, d' + 1, e, h, h1, _ => by
    have : e = 80 := by omega
    subst this
    simp [bandEnd]
  | d + 1, 0, e, h, _, h2 => by
    have : e = 80 := by omega
    subst this
    simp [bandEnd]
  | d + 1, d' + 1, e, h, h1, h2 => by
    simp only [bandEnd]
    by_cases hc : e < 80 ∧ rowEq g y e = true
    · rw [if_pos hc, if_pos hc]
      exact bandEnd_fuel g y d d' (e + 1) (by omega) (by omega) (by omega)
    · rw [if_neg hc, if_neg hc]
def bEnd (g : Nat → Bool) (y : Nat) : Nat := bandEnd g y 80 (y + 1)
theorem bEnd_ok (g : Nat → Bool) (y : Nat) (h : y < 80) : y < bEnd g y ∧ bEnd g y ≤ 80 ∧ (∀ k, y ≤ k → k < bEnd g y → rowEq g y k = true) ∧ (bEnd g y = 80 ∨ rowEq g y (bEnd g y) = false) := by
  obtain ⟨a, b, c, d⟩ := bandEnd_ok g y 80 (y + 1) (by omega) (by omega)
  refine ⟨a, b, fun k k1 k2 => ?_, d⟩
  by_cases hk : k = y
  · rw [hk, rowEq_iff]; intro x _; rfl
  · exact c k (by omega) k2
def rectsOf (y e : Nat) (ps : List (Nat × Nat)) : List Rc := ps.map fun p => ⟨(p.1 : Int) - 40, (y : Int) - 40, (p.2 : Int) - 40, (e : Int) - 40⟩
def canonFrom (g : Nat → Bool) : Nat → Nat → List Rc
  | 0, _ => []
  | d + 1, y => if y < 80 then rectsOf y (bEnd g y) (runs (row g y)) ++ canonFrom g d (bEnd g y) else []
/-- The region of a set. -/
def canon (g : Nat → Bool) : List Rc := canonFrom g 80 0
theorem canonFrom_fuel (g : Nat → Bool) : ∀ (d d' y : Nat), 80 ≤ d + y → 80 ≤ d' + y → canonFrom g d y = canonFrom g d' y
  | 0, 0, y, _, _ => rfl
  | 0, d' + 1, y, h1, _ => by simp only [canonFrom]; rw [if_neg (by omega)]
  | d + 1, 0, y, _, h2 => by simp only [canonFrom]; rw [if_neg (by omega)]
  | d + 1, d' + 1, y, h1, h2 => by
    simp only [canonFrom]
    by_cases hy : y < 80
    · rw [if_pos hy, if_pos hy]
      have := (bEnd_ok g y hy).1
      rw [canonFrom_fuel g d d' (bEnd g y) (by omega) (by omega)]
    · rw [if_neg hy, if_neg hy]
theorem bandEnd_congr {g g' : Nat → Bool} (h : ∀ i, i < 6400 → g i = g' i) (y : Nat) (hy : y < 80) : ∀ d e, bandEnd g y d e = bandEnd g' y d e
  | 0, e => rfl
  | d + 1, e => by
    simp only [bandEnd]
    have : (e < 80 ∧ rowEq g y e = true) ↔ (e < 80 ∧ rowEq g' y e = true) := by
      refine and_congr_right (fun he => ?_)
      rw [rowEq_iff, rowEq_iff]
      refine forall_congr' (fun x => imp_congr_right (fun hx => ?_))
      rw [h _ (by omega), h _ (by omega)]
    rw [bandEnd_congr h y hy d (e + 1)]
    by_cases hc : e < 80 ∧ rowEq g y e = true
    · rw [if_pos hc, if_pos (this.1 hc)]
    · rw [if_neg hc, if_neg (fun x => hc (this.2 x))]
theorem canonFrom_congr {g g' : Nat → Bool} (h : ∀ i, i < 6400 → g i = g' i) : ∀ d y, canonFrom g d y = canonFrom g' d y
  | 0, y => rfl
  | d + 1, y => by
    simp only [canonFrom]
    by_cases hy : y < 80
    · rw [if_pos hy, if_pos hy]
      have h1 : bEnd g y = bEnd g' y := bandEnd_congr h y hy 80 (y + 1)
      have h2 : runs (row g y) = runs (row g' y) := runs_congr (fun j hj => h _ (by omega))
      rw [h1, h2, canonFrom_congr h d]
    · rw [if_neg hy, if_neg hy]
theorem canon_congr {g g' : Nat → Bool} (h : ∀ i, i < 6400 → g i = g' i) : canon g = canon g' := canonFrom_congr h 80 0
theorem rects_ok {y e : Nat} (h1 : y < e) (h2 : e ≤ 80) {g : Nat → Bool} : ∀ r ∈ rectsOf y e (runs g), okR r = true := by
  intro r hr
  obtain ⟨p, hp, rfl⟩ := List.mem_map.1 hr
  obtain ⟨a, b, c⟩ := scan_ok g 80 0 none (fun s h => by cases h) p hp
  unfold okR
  rw [decide_eq_true_eq]
  dsimp only
  omega
theorem canonFrom_ok (g : Nat → Bool) : ∀ d y, ∀ r ∈ canonFrom g d y, okR r = true
  | 0, y, r, hr => by cases hr
  | d + 1, y, r, hr => by
    simp only [canonFrom] at hr
    by_cases hy : y < 80
    · rw [if_pos hy] at hr
      rcases List.mem_append.1 hr with h | h
      · exact rects_ok (bEnd_ok g y hy).1 (bEnd_ok g y hy).2.1 r h
      · exact canonFrom_ok g d _ r h
    · rw [if_neg hy] at hr; cases hr
theorem canon_ok (g : Nat → Bool) : ∀ r ∈ canon g, okR r = true := canonFrom_ok g 80 0
theorem canonFrom_len (g : Nat → Bool) : ∀ d y, (canonFrom g d y).length ≤ 40 * d
  | 0, y => by simp [canonFrom]
  | d + 1, y => by
    simp only [canonFrom]
    by_cases hy : y < 80
    · rw [if_pos hy, List.length_append, rectsOf, List.length_map]
      have := canonFrom_len g d (bEnd g y)
      have := runs_len (row g y)
      omega
    · rw [if_neg hy]; simp
theorem canon_len (g : Nat → Bool) : (canon g).length ≤ 3200 := canonFrom_len g 80 0
def area (r : Rc) : Int := (r.f2 - r.f0) * (r.f3 - r.f1)
def areas (l : List Rc) : Int := (l.map area).sum
theorem areas_append (l m : List Rc) : areas (l ++ m) = areas l + areas m := by simp [areas]
theorem area_pos {r : Rc} (h : okR r = true) : 0 ≤ area r ∧ area r ≤ 6400 := by
  have := okR_b h
  unfold area
  have h1 : 0 ≤ (r.f2 - r.f0) * (r.f3 - r.f1) := Int.mul_nonneg (by omega) (by omega)
  have h2 : (r.f2 - r.f0) * (r.f3 - r.f1) ≤ 80 * 80 := Int.mul_le_mul (by omega) (by omega) (by omega) (by omega)
  omega
theorem rects_area (y e : Nat) (h : y ≤ e) : ∀ (l : List (Nat × Nat)), (∀ p ∈ l, p.1 ≤ p.2) → areas (rectsOf y e l) = (lens l : Int) * ((e : Int) - y)
  | [], _ => by simp [areas, rectsOf, lens]
  | p :: l, hp => by
    have h1 := rects_area y e h l (fun q hq => hp q (by simp [hq]))
    have h2 := hp p (by simp)
    have e1 : areas (rectsOf y e (p :: l)) = ((p.2 : Int) - 40 - (p.1 - 40)) * ((e : Int) - 40 - (y - 40)) + areas (rectsOf y e l) := by
      simp only [rectsOf, List.map_cons, areas, List.sum_cons, area]
    have e2 : (lens (p :: l) : Int) = ((p.2 : Int) - p.1) + lens l := by
      simp only [lens, List.map_cons, List.sum_cons]
      omega
    rw [e1, h1, e2, Int.add_mul]
    congr 1
    rw [show (p.2 : Int) - 40 - (p.1 - 40) = p.2 - p.1 from by omega, show (e : Int) - 40 - (y - 40) = e - y from by omega]
theorem canonFrom_area (g : Nat → Bool) : ∀ d y, y ≤ 80 → areas (canonFrom g d y) ≤ 80 * (80 - (y : Int))
  | 0, y, h => by simp [canonFrom, areas]; omega
  | d + 1, y, h => by
    simp only [canonFrom]
    by_cases hy : y < 80
    · rw [if_pos hy, areas_append]
      obtain ⟨a, b, _, _⟩ := bEnd_ok g y hy
      have h1 := canonFrom_area g d (bEnd g y) b
      rw [rects_area y (bEnd g y) (by omega) _ (fun p hp => by have := (scan_ok (row g y) 80 0 none (fun s h => by cases h) p hp).1; omega)]
      have h2 := runs_sum (row g y)
      have h3 : (lens (runs (row g y)) : Int) * ((bEnd g y : Int) - y) ≤ 80 * ((bEnd g y : Int) - y) := Int.mul_le_mul_of_nonneg_right (by omega) (by omega)
      omega
    · rw [if_neg hy]; simp [areas]; omega
theorem canon_area (g : Nat → Bool) : areas (canon g) ≤ 6400 := by have := canonFrom_area g 80 0 (by omega); simpa [canon] using this
theorem cov_rects (y e : Nat) (r : Nat → Bool) (i : Nat) : cov (rectsOf y e (runs r)) i = true ↔ (y ≤ i / 80 ∧ i / 80 < e ∧ r (i % 80) = true) := by
  rw [cov_iff]
  have hm := runs_mem r (i % 80)
  constructor
  · rintro ⟨q, hq, hi⟩
    obtain ⟨p, hp, rfl⟩ := List.mem_map.1 hq
    unfold inR at hi
    rw [decide_eq_true_eq] at hi
    dsimp only at hi
    exact ⟨by omega, by omega, (hm.1 ⟨p, hp, by omega, by omega⟩).2⟩
  · rintro ⟨h1, h2, h3⟩
    obtain ⟨p, hp, p1, p2⟩ := hm.2 ⟨by omega, h3⟩
    refine ⟨_, List.mem_map.2 ⟨p, hp, rfl⟩, ?_⟩
    unfold inR
    rw [decide_eq_true_eq]
    dsimp only
    omega
theorem cov_canonFrom (g : Nat → Bool) (i : Nat) (hi : i < 6400) : ∀ d y, 80 ≤ d + y → (cov (canonFrom g d y) i = true ↔ (y ≤ i / 80 ∧ g i = true))
  | 0, y, h => by simp [canonFrom, cov]; omega
  | d + 1, y, h => by
    simp only [canonFrom]
    by_cases hy : y < 80
    · rw [if_pos hy, cov_append, Bool.or_eq_true, cov_rects]
      obtain ⟨a, b, c, _⟩ := bEnd_ok g y hy
      rw [cov_canonFrom g i hi d (bEnd g y) (by omega)]
      constructor
      · rintro (⟨h1, h2, h3⟩ | ⟨h1, h2⟩)
        · refine ⟨h1, ?_⟩
          have := rowEq_iff.1 (c (i / 80) h1 h2) (i % 80) (by omega)
          rw [show i / 80 * 80 + i % 80 = i from by omega] at this
          rw [this]
          exact h3
        · exact ⟨by omega, h2⟩
      · rintro ⟨h1, h2⟩
        by_cases he : i / 80 < bEnd g y
        · left
          refine ⟨h1, he, ?_⟩
          have := rowEq_iff.1 (c (i / 80) h1 he) (i % 80) (by omega)
          rw [show i / 80 * 80 + i % 80 = i from by omega] at this
          show g (y * 80 + i % 80) = true
          rw [← this]
          exact h2
        · exact .inr ⟨by omega, h2⟩
    · rw [if_neg hy]
      simp [cov]
      omega
theorem cov_canon (g : Nat → Bool) (i : Nat) (hi : i < 6400) : cov (canon g) i = g i := by
  rw [Bool.eq_iff_iff]
  have := cov_canonFrom g i hi 80 0 (by omega)
  simpa [canon] using this
/-- A region: valid rectangles, just those of the cells that they cover. -/
def isReg (l : List Rc) : Bool := decide (l.length ≤ 3200) && l.all okR && decide (canon (cov l) = l)
theorem canon_isReg (g : Nat → Bool) : isReg (canon g) = true := by
  unfold isReg
  rw [decide_eq_true (canon_len g), List.all_eq_true.2 (canon_ok g), Bool.true_and, Bool.true_and, decide_eq_true_eq]
  exact canon_congr (fun i hi => cov_canon g i hi)
theorem isReg_b {l : List Rc} (h : isReg l = true) : l.length ≤ 3200 ∧ (∀ r ∈ l, okR r = true) ∧ canon (cov l) = l := by
  unfold isReg at h
  rw [Bool.and_eq_true, Bool.and_eq_true, decide_eq_true_eq, decide_eq_true_eq, List.all_eq_true] at h
  exact ⟨h.1.1, h.1.2, h.2⟩
end Go.Proofs.Ytncjjplpenjghaa.G

/-! ### Boxes -/
/- Several blocks whose cells are known, the newest first; and steps of a walk by hand over them: a struct's box made, written whole, read whole. -/
set_option linter.unusedVariables false
set_option linter.unusedSimpArgs false
namespace Go.Proofs.Ytncjjplpenjghaa.H
open Go.RowKit Go.Proofs.YtncjjplpenjghaaW.PrintWords Go.Proofs.YtncjjplpenjghaaW.PrintLast

/-- The blocks, newest first. -/
def Bxs (w : World) : List (Nat × Array Value × Nat) → Prop
  | [] => True
  | x :: l => Box w x.1 x.2.1 x.2.2 ∧ (∀ y ∈ l, y.1 ≠ x.1) ∧ Bxs w l
section
variable {w w' : World} {l : List (Nat × Array Value × Nat)}
theorem Bxs.lt : ∀ {l : List (Nat × Array Value × Nat)}, Bxs w l → ∀ y ∈ l, y.1 < w.heap.size
  | [], _, y, hy => by cases hy
  | x :: l, h, y, hy => by
    rcases List.mem_cons.1 hy with rfl | hy
    · exact h.1.lt
    · exact Bxs.lt h.2.2 y hy
theorem Bxs.at : ∀ {l : List (Nat × Array Value × Nat)}, Bxs w l → ∀ {g : Nat} {cs : Array Value} {t : Nat}, (g, cs, t) ∈ l → Box w g cs t
  | [], _, _, _, _, hy => by cases hy
  | x :: l, h, _, _, _, hy => by
    rcases List.mem_cons.1 hy with rfl | hy
    · exact h.1
    · exact Bxs.at h.2.2 hy
theorem Bxs.below (hb : Below w.heap.size w w') : ∀ {l : List (Nat × Array Value × Nat)}, Bxs w l → Bxs w' l
  | [], _ => trivial
  | _ :: _, h => ⟨h.1.below hb, h.2.1, Bxs.below hb h.2.2⟩
theorem Bxs.keep {g : Nat} (hk : KeepBut w w' g none) : ∀ {l : List (Nat × Array Value × Nat)}, Bxs w l → (∀ y ∈ l, y.1 ≠ g) → Bxs w' l
  | [], _, _ => trivial
  | x :: l, h, hg => ⟨hk.blk h.1 (hg x (by simp)) (by simp), h.2.1, Bxs.keep hk h.2.2 (fun y hy => hg y (by simp [hy]))⟩
theorem Bxs.push {g t : Nat} {cs : Array Value} (h : Bxs w l) (hg : w.heap.size ≤ g) (hb : Below w.heap.size w w') (hx : Box w' g cs t) : Bxs w' ((g, cs, t) :: l) :=
  ⟨hx, fun y hy => by have := h.lt y hy; show y.1 ≠ g; omega, h.below hb⟩
theorem Bxs.skip {g t : Nat} {cs : Array Value} (h : Bxs w ((g, cs, t) :: l)) : Bxs w l := h.2.2
theorem Bxs.drew (h : Bxs w l) : Bxs w.drew l := Bxs.below (w' := w.drew) (Below.refl w.heap.size w).drew h
/-- The newest block, written. -/
theorem Bxs.set0 {g t : Nat} {cs cs' : Array Value} (h : Bxs w ((g, cs, t) :: l)) (hx : Box w' g cs' t) (hk : KeepBut w w' g none) : Bxs w' ((g, cs', t) :: l) :=
  ⟨hx, h.2.1, Bxs.keep hk h.2.2 h.2.1⟩
/-- The second newest block, written. -/
theorem Bxs.set1 {x : Nat × Array Value × Nat} {g t : Nat} {cs cs' : Array Value} (h : Bxs w (x :: (g, cs, t) :: l)) (hx : Box w' g cs' t) (hk : KeepBut w w' g none) : Bxs w' (x :: (g, cs', t) :: l) := by
  obtain ⟨h0, h1, h2⟩ := h
  have hne : x.1 ≠ g := fun e => h1 (g, cs, t) (by simp) e.symm
  exact ⟨hk.blk h0 hne (by simp), fun y hy => by
    rcases List.mem_cons.1 hy with rfl | hy
    · exact hne.symm
    · exact h1 y (by simp [hy]), Bxs.set0 h2 hx hk⟩
end

section
variable {P : Program} {ops : Array Oper} {o : Oper} {rest : List Oper} {a : Act} {Q : Exit → Act → World → Prop} {W : World}
theorem keep_setRow (W : World) (g : Nat) (cs : Array Value) : KeepBut W (W.setRow g cs) g none :=
  ⟨by simp, fun i _ hi _ => setRow_other W g i cs hi⟩
theorem Below.setRow' {n g : Nat} {w0 w w1 : World} (h : Below n w0 w) (hg : n ≤ g) (hb : ∀ n, n ≤ g → Below n w w1) : Below n w0 w1 := h.trans (hb n hg)
/-- A box is written whole. -/
theorem box_store (hgd : o.guard = none) (ty : TypeId) (x y : Operand) (ho : o.op = .store ty x y) (hd : o.dst = none)
    (g : Nat) (cells : Array Value) (hx : a.eval x = .pointer (some ⟨g, 0, none⟩)) (hy : a.eval y = .agg cells)
    {t : Nat} {old : Array Value} (hg : Box W g old t) (hi : (P.info? ty).map (·.size) = some cells.size)
    (hold : old.size = cells.size) (h1 : cells.all (·.oneCell') = true)
    (h : ∀ w1, Box w1 g cells t → KeepBut W w1 g none → (∀ n, n ≤ g → Below n W w1) → wpList P ops Q rest a w1) : wpList P ops Q (o :: rest) a W :=
  wpList_store_row hgd ty x y ho g cells hx hy t old hg hi hold h1
    (by rw [hd]; exact h _ (setRow_heap W g old cells t (0, 0) hg) (keep_setRow W g cells) (fun n hn => ⟨rfl, rfl, rfl, by simp, fun i hi => setRow_other W g i cells (by omega)⟩))
/-- A box is read whole. -/
theorem box_load (hgd : o.guard = none) (ty : TypeId) (x : Operand) (ho : o.op = .load ty x)
    (g : Nat) (hx : a.eval x = .pointer (some ⟨g, 0, none⟩)) {t : Nat} {cs : Array Value} (hg : Box W g cs t) (d : TypeDesc)
    (hu : P.underlying ty = some d) (hd : (match d with | .struct _ | .array _ _ => true | _ => false) = true) (hi : (P.info? ty).map (·.size) = some cs.size)
    (h : wpList P ops Q rest (a.put o.dst (.agg cs)) W) : wpList P ops Q (o :: rest) a W :=
  wpList_load_row hgd ty x ho g hx t cs (0, 0) d hg hu hd hi h
end
end Go.Proofs.Ytncjjplpenjghaa.H

/-! ### Reg -/
/- A region that draws its order, walked once in the order of its text: what each operation yields holds in every world that meets S (S: for example, 'nothing that stood has changed'). -/
set_option linter.unusedVariables false
set_option linter.unusedSimpArgs false
namespace Go.Proofs.Ytncjjplpenjghaa.H
open Go.RowKit Go.Proofs.YtncjjplpenjghaaW.PrintWords Go.Proofs.YtncjjplpenjghaaW.PrintLast
/-- The bits of what each operation waits for. -/
def bitsOf (T : List (List Nat × List Nat)) : List Nat := T.foldl (fun B r => B ++ [r.1.foldl (fun m n => m ||| (1 <<< n) ||| B.getD n 0) 0]) []
/-- What an operation looks at was filled by what it waits for; no two fill one slot; none looks at its own. -/
def lookOk (ops : Array Oper) (B : List Nat) : Bool :=
  (List.range ops.size).all fun i => match ops[i]? with
    | some o => (List.range ops.size).all fun j => match ops[j]? with
      | some oj => match oj.dst with
        | some d => (!(o.looksAt ops).contains d || (decide (j < i) && (B.getD i 0).testBit j)) && (j == i || !(o.dst == some d))
        | none => true
      | none => true
    | none => true
def regOk (ops : Array Oper) : Bool := (rtab .any ops).1 && waitsOk (rtab .any ops).2 (bitsOf (rtab .any ops).2) && baseOk (rtab .any ops).2 (List.range (rtab .any ops).2.length) && decide ((rtab .any ops).2.length = ops.size) && lookOk ops (bitsOf (rtab .any ops).2)
section
variable {P : Program} {ops : Array Oper} {Q : Exit → Act → World → Prop} {S : World → Prop}
/-- What an operation does in every world that meets S. -/
def Does (P : Program) (S : World → Prop) (a : Act) (o : Oper) (v : Value) : Prop :=
  (∀ w, S w → (execOp a.eval o).run P w = .ok (.value v) w) ∨
  (∃ f args, ∀ w, S w → (execOp a.eval o).run P w = .ok (.enter f args) w ∧ Calls P f args w fun e w' => e = .returned v ∧ S w')
def wpG (P : Program) (ops : Array Oper) (Q : Exit → Act → World → Prop) (S : World → Prop) : List Oper → Act → Prop
  | [], a => ∀ w, S w → Q .normal a w
  | o :: rest, a => (Region.wanted o (yielded ops a.tmps) = false ∧ wpG P ops Q S rest (a.put o.dst undef)) ∨ (Region.wanted o (yielded ops a.tmps) = true ∧ ∃ v, Does P S a o v ∧ wpG P ops Q S rest (a.put o.dst v))
def putL : Act → List Oper → List Value → Act
  | a, o :: l, v :: vs => putL (a.put o.dst v) l vs
  | a, _, _ => a
def StepG (P : Program) (ops : Array Oper) (S : World → Prop) (a : Act) (o : Oper) (v : Value) : Prop :=
  (Region.wanted o (yielded ops a.tmps) = false ∧ v = undef) ∨ (Region.wanted o (yielded ops a.tmps) = true ∧ Does P S a o v)
theorem wpG_vals : ∀ (l : List Oper) (a : Act), wpG P ops Q S l a → ∃ vs : List Value, vs.length = l.length ∧ (∀ (i : Nat) o v, l[i]? = some o → vs[i]? = some v → StepG P ops S (putL a (l.take i) vs) o v) ∧ ∀ w, S w → Q .normal (putL a l vs) w
  | [], a, h => ⟨[], rfl, fun i o v h => by simp at h, h⟩
  | o :: rest, a, h => by
    have key : ∃ v, StepG P ops S a o v ∧ wpG P ops Q S rest (a.put o.dst v) := by
      rcases h with ⟨h1, h2⟩ | ⟨h1, v, h2, h3⟩
      · exact ⟨undef, .inl ⟨h1, rfl⟩, h2⟩
      · exact ⟨v, .inr ⟨h1, h2⟩, h3⟩
    obtain ⟨v, h1, h2⟩ := key
    obtain ⟨vs, hl, hs, hq⟩ := wpG_vals rest _ h2
    refine ⟨v :: vs, by simp [hl], fun i o' v' ho hv => ?_, hq⟩
    cases i with
    | zero =>
      simp only [List.getElem?_cons_zero, Option.some.injEq] at ho hv
      subst ho hv
      exact h1
    | succ i => exact hs i o' v' (by simpa using ho) (by simpa using hv)
theorem putL_snoc : ∀ (l : List Oper) (vs : List Value) (a : Act) (i : Nat) (o : Oper) (v : Value), l[i]? = some o → vs[i]? = some v → putL a (l.take (i + 1)) vs = (putL a (l.take i) vs).put o.dst v
  | [], _, _, _, _, _, h, _ => by simp at h
  | o :: l, [], _, _, _, _, _, h => by simp at h
  | o :: l, v :: vs, a, 0, o', v', h, h' => by
    simp only [List.getElem?_cons_zero, Option.some.injEq] at h h'
    subst h h'
    cases l <;> rfl
  | o :: l, v :: vs, a, i + 1, o', v', h, h' => putL_snoc l vs (a.put o.dst v) i o' v' (by simpa using h) (by simpa using h')
/-- The entries of the slots that the region fills. -/
def ents (ops : Array Oper) (vs : List Value) : List (Nat × Tmp × Value) := (List.range ops.size).filterMap fun i => ((ops[i]?).bind fun o => o.dst).map fun t => (i, t, vs.getD i undef)
theorem mem_ents {vs : List Value} {e : Nat × Tmp × Value} (h : e ∈ ents ops vs) : ∃ o, ops[e.1]? = some o ∧ o.dst = some e.2.1 ∧ e.2.2 = vs.getD e.1 undef := by
  obtain ⟨i, hi, he⟩ := List.mem_filterMap.1 h
  obtain ⟨t, ht, rfl⟩ := Option.map_eq_some_iff.1 he
  obtain ⟨o, ho, hd⟩ := Option.bind_eq_some_iff.1 ht
  exact ⟨o, ho, hd, rfl⟩
theorem putSel_congr {t : Tmp} {b b' : Nat → Bool} : ∀ {L : List (Nat × Tmp × Value)} {a a' : Act}, (∀ e ∈ L, e.2.1 = t → b e.1 = b' e.1) → a.tmps[t]? = a'.tmps[t]? → a.tmps.size = a'.tmps.size → (putSel a b L).tmps[t]? = (putSel a' b' L).tmps[t]?
  | [], _, _, _, h, _ => h
  | e :: r, a, a', h, ht, hz => by
    unfold putSel
    by_cases he : e.2.1 = t
    · rw [← h e (by simp) he]
      cases b e.1
      · exact putSel_congr (fun x hx => h x (by simp [hx])) ht hz
      · simp only [if_true]
        refine putSel_congr (fun x hx => h x (by simp [hx])) ?_ (by simp [Act.put, hz])
        subst he
        simp [Act.put, Array.getElem?_setIfInBounds, hz]
    · refine putSel_congr (fun x hx => h x (by simp [hx])) ?_ ?_
      · split <;> split <;> simp [Act.put, Array.getElem?_setIfInBounds_ne he, ht]
      · split <;> split <;> simp [Act.put, hz]
theorem putL_sel (vs : List Value) (a : Act) (hd : ∀ (i : Nat) (o : Oper) (j : Nat) (o' : Oper), ops[i]? = some o → ops[j]? = some o' → i ≠ j → ∀ t, o.dst = some t → o'.dst ≠ some t) (hl : vs.length = ops.size) :
    ∀ i, i ≤ ops.size → putL a (ops.toList.take i) vs = putSel a (fun j => decide (j < i)) (ents ops vs)
  | 0, _ => by
    have : ∀ (L : List (Nat × Tmp × Value)) (a : Act), putSel a (fun j => decide (j < 0)) L = a := by
      intro L
      induction L with
      | nil => intro a; rfl
      | cons e r ih => intro a; unfold putSel; simpa using ih a
    rw [this]
    cases vs <;> rfl
  | i + 1, hi => by
    obtain ⟨o, ho⟩ : ∃ o, ops[i]? = some o := ⟨ops[i], Array.getElem?_eq_getElem (by omega)⟩
    obtain ⟨v, hv⟩ : ∃ v, vs[i]? = some v := ⟨vs[i]'(by omega), List.getElem?_eq_getElem (by omega)⟩
    rw [putL_snoc _ _ _ i o v (by simpa using ho) hv, putL_sel vs a hd hl i (by omega)]
    have hup : (fun j => decide (j < i + 1)) = up (fun j => decide (j < i)) i := by
      funext j
      unfold up
      by_cases h : j = i
      · subst h; simp
      · rw [if_neg h]; congr 1; apply propext; omega
    rw [hup]
    cases hdst : o.dst with
    | none =>
      refine putSel_none ?_
      rw [List.all_eq_true]
      intro e he
      obtain ⟨o', ho', hd', _⟩ := mem_ents he
      have : e.1 ≠ i := fun h => by rw [h, ho] at ho'; injection ho' with h2; rw [← h2, hdst] at hd'; cases hd'
      simp [this]
    | some t =>
      have hspl : ents ops vs = ((List.range i).filterMap fun i => ((ops[i]?).bind fun o => o.dst).map fun t => (i, t, vs.getD i undef)) ++ (i, t, v) :: ((List.range' (i + 1) (ops.size - (i + 1))).filterMap fun i => ((ops[i]?).bind fun o => o.dst).map fun t => (i, t, vs.getD i undef)) := by
        have h1 : List.range ops.size = List.range i ++ i :: List.range' (i + 1) (ops.size - (i + 1)) := by
          rw [List.range_eq_range', List.range_eq_range']
          have h3 : List.range' 0 ops.size = List.range' 0 i ++ List.range' i (ops.size - i) := by
            have := List.range'_append_1 (s := 0) (m := i) (n := ops.size - i)
            rw [Nat.zero_add, show i + (ops.size - i) = ops.size from by omega] at this
            exact this.symm
          rw [h3, show ops.size - i = (ops.size - (i + 1)) + 1 from by omega, List.range'_succ]
        have h2 : vs.getD i undef = v := by simp [List.getD_eq_getElem?_getD, hv]
        unfold ents
        rw [h1, List.filterMap_append, List.filterMap_cons]
        simp only [ho, Option.bind_some, hdst, Option.map_some, h2]
      rw [hspl]
      refine putSel_up (by simp) ?_
      rw [List.all_eq_true]
      intro e he
      have hmem : e ∈ ents ops vs ∧ e.1 ≠ i := by
        rw [hspl]
        rcases List.mem_append.1 he with h | h
        · refine ⟨List.mem_append_left _ h, ?_⟩
          obtain ⟨j, hj, hj2⟩ := List.mem_filterMap.1 h
          obtain ⟨t', _, rfl⟩ := Option.map_eq_some_iff.1 hj2
          have := List.mem_range.1 hj
          show j ≠ i
          omega
        · refine ⟨List.mem_append_right _ (List.mem_cons_of_mem _ h), ?_⟩
          obtain ⟨j, hj, hj2⟩ := List.mem_filterMap.1 h
          obtain ⟨t', _, rfl⟩ := Option.map_eq_some_iff.1 hj2
          have := List.mem_range'_1.1 hj
          show j ≠ i
          omega
      obtain ⟨o', ho', hd', _⟩ := mem_ents hmem.1
      have h3 : e.2.1 ≠ t := fun h => hd i o e.1 o' ho ho' (fun x => hmem.2 x.symm) t hdst (by rw [hd', h])
      simp [hmem.2, h3]
theorem lookOk_dst {B : List Nat} (h : lookOk ops B = true) (i : Nat) (o : Oper) (j : Nat) (oj : Oper) (hi : ops[i]? = some o) (hj : ops[j]? = some oj) (t : Tmp) (ht : oj.dst = some t) :
    (t ∈ o.looksAt ops → j < i ∧ (B.getD i 0).testBit j = true) ∧ (j = i ∨ o.dst ≠ some t) := by
  have h1 := List.all_eq_true.1 h i (List.mem_range.2 (Array.getElem?_eq_some_iff.1 hi).1)
  rw [hi] at h1
  have h2 := List.all_eq_true.1 h1 j (List.mem_range.2 (Array.getElem?_eq_some_iff.1 hj).1)
  rw [hj] at h2
  simp only [ht, Bool.and_eq_true, Bool.or_eq_true, Bool.not_eq_true', decide_eq_true_eq, beq_iff_eq, beq_eq_false_iff_ne] at h2
  refine ⟨fun hm => ?_, h2.2⟩
  rcases h2.1 with h3 | h3
  · rw [List.contains_iff_mem.2 hm] at h3
    cases h3
  · exact h3
theorem look_same {a a' : Act} {o : Oper} (hs : ∀ cs b, o.op ≠ .select cs b) (h : ∀ t ∈ o.looksAt ops, a.tmps[t]? = a'.tmps[t]?) : execOp a.eval o = execOp a'.eval o ∧ Region.wanted o (yielded ops a.tmps) = Region.wanted o (yielded ops a'.tmps) := by
  constructor
  · refine execOp_congr o hs (fun x hx => ?_)
    cases x with
    | tmp t =>
      have := h t (List.mem_append_left _ (List.mem_filterMap.2 ⟨.tmp t, by simpa using hx, rfl⟩))
      simp [Act.eval, Array.getD_eq_getD_getElem?, this]
    | _ => rfl
  · unfold Region.wanted
    cases hg : o.guard with
    | none => rfl
    | some gw =>
      obtain ⟨g, want⟩ := gw
      have hy : yielded ops a.tmps g = yielded ops a'.tmps g := by
        unfold yielded
        cases ht : (ops[g]?).bind (·.dst) with
        | none => rfl
        | some t =>
          have := h t (List.mem_append_right _ (by simp [hg, ht]))
          simp [this]
      simp only [hy]
/-- THE REGION, WHATEVER ORDER IS DRAWN, by one walk in the order of its text. -/
theorem region_seq {id : Nat} {a : Act} {W : World} (S : World → Prop) (hm : P.follows .mixedOrders = true) (hok : regOk ops = true) (hS : S W.drew) (h : wpG P ops Q S ops.toList a) : (Code.region id ops true).wp P Q a W := by
  simp only [regOk, Bool.and_eq_true, decide_eq_true_eq] at hok
  obtain ⟨⟨⟨⟨h1, h2⟩, h3⟩, h4⟩, h5⟩ := hok
  have hsel : Region.noSelect ops = true := h1
  obtain ⟨vs, hl, hstep, hq⟩ := wpG_vals _ _ h
  have hl : vs.length = ops.size := hl.trans Array.length_toList
  have hd : ∀ (i : Nat) (o : Oper) (j : Nat) (o' : Oper), ops[i]? = some o → ops[j]? = some o' → i ≠ j → ∀ t, o.dst = some t → o'.dst ≠ some t := by
    intro i o j o' hi hj hne t ht ht'
    rcases (lookOk_dst h5 i o j o' hi hj t ht').2 with h | h
    · exact hne h.symm
    · exact h ht
  refine wp_region_last (S := fun _ => True) (ds := []) hm ?_
  refine inv_ (T := rtab .any ops) (B := bitsOf (rtab .any ops).2) (List.range (rtab .any ops).2.length) (fun b a' w' => S w' ∧ a' = putSel a b (ents ops vs)) rfl h2 h3 ?_ ⟨hS, ?_⟩ ?_ ?_
  · rw [h4]
    simp only [List.length_range, beq_self_eq_true, Bool.and_true]
    rw [beq_iff_eq]
    apply List.ext_getElem?
    intro j
    by_cases hj : j < ops.size
    · simp only [lof, List.getElem?_map, List.getElem?_range hj, Option.map_some]
      rw [List.contains_iff_mem.2 (List.mem_range.2 hj)]
      simp [hj]
    · rw [List.getElem?_eq_none (by simp [lof]; omega), List.getElem?_eq_none (by simp; omega)]
  · have : ∀ (L : List (Nat × Tmp × Value)) (a : Act), a = putSel a (fun _ => false) L := by
      intro L
      induction L with
      | nil => intro a; rfl
      | cons e r ih => intro a; unfold putSel; simpa using ih a
    exact this _ _
  · intro i hi b a' w' hI hb hon hoff
    obtain ⟨hSw, rfl⟩ := hI
    have hin : i < ops.size := by have := List.mem_range.1 hi; omega
    obtain ⟨o, ho⟩ : ∃ o, ops[i]? = some o := ⟨ops[i], Array.getElem?_eq_getElem hin⟩
    obtain ⟨v, hv⟩ : ∃ v, vs[i]? = some v := ⟨vs[i]'(by omega), List.getElem?_eq_getElem (by omega)⟩
    refine ⟨o, ho, fun K hK => ?_⟩
    have hst := hstep i o v (by simpa using ho) hv
    rw [putL_sel vs a hd hl i (by omega)] at hst
    have hso := Region.noSelect_spec hsel i o
    have hsame := look_same (ops := ops) (o := o) (a := putSel a b (ents ops vs)) (a' := putSel a (fun j => decide (j < i)) (ents ops vs)) (fun cs b => hso cs b ho) (fun t ht => by
      refine putSel_congr (fun e he het => ?_) rfl rfl
      obtain ⟨oj, hoj, hdj, _⟩ := mem_ents he
      obtain ⟨k1, k2⟩ := (lookOk_dst h5 i o e.1 oj ho hoj t (by rw [hdj, het])).1 ht
      rw [hon e.1 (by rw [Bool.and_eq_true]; exact ⟨List.contains_iff_mem.2 (List.mem_range.2 (by rw [h4]; exact (Array.getElem?_eq_some_iff.1 hoj).1)), k2⟩)]
      exact (decide_eq_true k1).symm)
    have hput : ∀ w'', S w'' → K ((putSel a b (ents ops vs)).put o.dst v) w'' := by
      intro w'' hS''
      refine hK _ _ ⟨hS'', ?_⟩
      cases hdst : o.dst with
      | none =>
        refine putSel_none ?_
        rw [List.all_eq_true]
        intro e he
        obtain ⟨o', ho', hd', _⟩ := mem_ents he
        have : e.1 ≠ i := fun h => by rw [h, ho] at ho'; injection ho' with h2; rw [← h2, hdst] at hd'; cases hd'
        simp [this]
      | some t =>
        have hvd : vs.getD i undef = v := by simp [List.getD_eq_getElem?_getD, hv]
        have hme : (i, t, v) ∈ ents ops vs := List.mem_filterMap.2 ⟨i, List.mem_range.2 hin, by simp [ho, hdst, hv]⟩
        obtain ⟨L1, L2, hLL⟩ := List.append_of_mem hme
        rw [hLL]
        refine putSel_up hb ?_
        rw [List.all_eq_true]
        intro e he
        have hnd : (ents ops vs).Pairwise (fun x y => x.1 < y.1) := by
          unfold ents
          refine List.Pairwise.filterMap _ ?_ (List.pairwise_lt_range)
          intro x y hxy e1 he1 e2 he2
          obtain ⟨_, _, rfl⟩ := Option.map_eq_some_iff.1 he1
          obtain ⟨_, _, rfl⟩ := Option.map_eq_some_iff.1 he2
          exact hxy
        rw [hLL] at hnd
        have hne : e.1 ≠ i := by
          rw [List.pairwise_append] at hnd
          rcases List.mem_append.1 he with h | h
          · have := hnd.2.2 e h (i, t, v) (by simp); show e.1 ≠ i; have h2 : e.1 < i := this; omega
          · have := (List.pairwise_cons.1 hnd.2.1).1 e h; show e.1 ≠ i; have h2 : i < e.1 := this; omega
        obtain ⟨o', ho', hd', _⟩ := mem_ents (vs := vs) (e := e) (by rw [hLL]; rcases List.mem_append.1 he with h | h <;> simp [h])
        have h3 : e.2.1 ≠ t := fun h => hd i o e.1 o' ho ho' (fun x => hne x.symm) t hdst (by rw [hd', h])
        simp [hne, h3]
    rw [hsame.2]
    rcases hst with ⟨s1, s2⟩ | ⟨s1, s2⟩
    · rw [if_neg (by rw [s1]; decide), ← s2]
      exact hput w' hSw
    · rw [if_pos s1]
      unfold Oper.wp
      rcases s2 with s2 | ⟨f, args, s2⟩
      · rw [hsame.1, s2 w' hSw]
        exact hput w' hSw
      · rw [hsame.1, (s2 w' hSw).1, Oper.upon_enter]
        refine (s2 w' hSw).2.mono fun e w'' hh => ?_
        obtain ⟨rfl, hS''⟩ := hh
        exact hput w'' hS''
  · intro b a' w' hall hI
    obtain ⟨hSw, rfl⟩ := hI
    have := hq w' hSw
    have h6 : putL a ops.toList vs = putSel a b (ents ops vs) := by
      have h7 := putL_sel vs a hd hl ops.size (Nat.le_refl _)
      rw [List.take_of_length_le (by simp)] at h7
      rw [h7]
      have : ∀ (L : List (Nat × Tmp × Value)) (a : Act), (∀ e ∈ L, e.1 < ops.size ∧ b e.1 = true) → putSel a (fun j => decide (j < ops.size)) L = putSel a b L := by
        intro L
        induction L with
        | nil => intro a _; rfl
        | cons e r ih =>
          intro a hL
          unfold putSel
          have := hL e (by simp)
          rw [if_pos (by simpa using this.1), if_pos this.2]
          exact ih _ (fun x hx => hL x (by simp [hx]))
      refine this _ _ (fun e he => ?_)
      obtain ⟨oj, hoj, _, _⟩ := mem_ents he
      have hlt := (Array.getElem?_eq_some_iff.1 hoj).1
      exact ⟨hlt, hall e.1 (List.contains_iff_mem.2 (List.mem_range.2 (by omega)))⟩
    rw [h6] at this
    exact this
/-! the steps -/
variable {o : Oper} {rest : List Oper} {a a' : Act} {v : Value}
theorem gs_off (hw : Region.wanted o (yielded ops a.tmps) = false) (ha : a.put o.dst undef = a') (h : wpG P ops Q S rest a') : wpG P ops Q S (o :: rest) a := .inl ⟨hw, by rw [ha]; exact h⟩
theorem gs_val (hw : Region.wanted o (yielded ops a.tmps) = true) (hv : ∀ w, S w → (execOp a.eval o).run P w = .ok (.value v) w) (ha : a.put o.dst v = a') (h : wpG P ops Q S rest a') : wpG P ops Q S (o :: rest) a := .inr ⟨hw, v, .inl hv, by rw [ha]; exact h⟩
theorem gs_call {f : FuncId} {fn : Func} {opds : Array Operand} {ts : Array TypeId} (hf : P.funcs[f]? = some fn) (hname : (fn.name == "runtime.NumGoroutine") = false) (hb : fn.body.isSome = true) (args : Array Value)
    (hw : Region.wanted o (yielded ops a.tmps) = true) (hop : o.op = .call { callee := .value (.func f), args := opds, argTypes := ts }) (hargs : opds.map a.eval = args)
    (hc : ∀ w, S w → Calls P f args w fun e w' => e = .returned v ∧ S w') (ha : a.put o.dst v = a') (h : wpG P ops Q S rest a') : wpG P ops Q S (o :: rest) a :=
  .inr ⟨hw, v, .inr ⟨f, args, fun w hS => ⟨by
    have he := enters_ hf hname hb args w
    unfold execOp
    simp [hop, resolve, Deferred.ofValue, invoke, Act.eval, hargs, he], hc w hS⟩⟩, by rw [ha]; exact h⟩
/-- A load, by what 'loadAt' gives. -/
theorem gs_load {ty : TypeId} {x : Operand} (ad : Addr) (hw : Region.wanted o (yielded ops a.tmps) = true) (ho : o.op = .load ty x) (hx : a.eval x = .pointer (some ad)) (hl : ∀ w, S w → (Instr.loadAt ty (.pointer (some ad))).run P w = .ok v w) (ha : a.put o.dst v = a') (h : wpG P ops Q S rest a') : wpG P ops Q S (o :: rest) a :=
  gs_val hw (fun w hS => by
    unfold execOp
    simp only [ho, hx, Sem.run_bind, hl w hS, Result.andThen_ok, Sem.run_pure]) ha h
theorem gs_end (h : ∀ w, S w → Q .normal a w) : wpG P ops Q S [] a := h
end
end Go.Proofs.Ytncjjplpenjghaa.H

/-! ### Keep -/
/- Facts on cells that stay in a world that has only grown: for the regions that draw their order (go_region_held3). -/
set_option linter.unusedVariables false
namespace Go.Proofs.Ytncjjplpenjghaa.H
open Go.RowKit Go.Proofs.YtncjjplpenjghaaW.PrintWords Go.Proofs.YtncjjplpenjghaaW.PrintLast
theorem cell_on {w1 w2 : World} (hb : Below w1.heap.size w1 w2) {a : Addr} {v : Value} (h : w1.cell? a = some v) : w2.cell? a = some v := by rw [hb.cell (World.block_lt_of_cell? _ _ h)]; exact h
theorem keep0 {w1 w2 W : World} (h : Below W.heap.size W w1) (hb : Below w1.heap.size w1 w2) : Below W.heap.size W w2 := h.trans (hb.mono h.size)
theorem keep1 {w1 w2 W : World} {a0 : Addr} {v0 : Value} (h : w1.cell? a0 = some v0 ∧ Below W.heap.size W w1) (hb : Below w1.heap.size w1 w2) : w2.cell? a0 = some v0 ∧ Below W.heap.size W w2 := by
  obtain ⟨c0, hB⟩ := h
  exact ⟨cell_on hb c0, hB.trans (hb.mono hB.size)⟩
theorem keep2 {w1 w2 W : World} {a0 : Addr} {v0 : Value} {a1 : Addr} {v1 : Value} (h : w1.cell? a0 = some v0 ∧ w1.cell? a1 = some v1 ∧ Below W.heap.size W w1) (hb : Below w1.heap.size w1 w2) : w2.cell? a0 = some v0 ∧ w2.cell? a1 = some v1 ∧ Below W.heap.size W w2 := by
  obtain ⟨c0, c1, hB⟩ := h
  exact ⟨cell_on hb c0, cell_on hb c1, hB.trans (hb.mono hB.size)⟩
theorem keep3 {w1 w2 W : World} {a0 : Addr} {v0 : Value} {a1 : Addr} {v1 : Value} {a2 : Addr} {v2 : Value} (h : w1.cell? a0 = some v0 ∧ w1.cell? a1 = some v1 ∧ w1.cell? a2 = some v2 ∧ Below W.heap.size W w1) (hb : Below w1.heap.size w1 w2) : w2.cell? a0 = some v0 ∧ w2.cell? a1 = some v1 ∧ w2.cell? a2 = some v2 ∧ Below W.heap.size W w2 := by
  obtain ⟨c0, c1, c2, hB⟩ := h
  exact ⟨cell_on hb c0, cell_on hb c1, cell_on hb c2, hB.trans (hb.mono hB.size)⟩
theorem keep4 {w1 w2 W : World} {a0 : Addr} {v0 : Value} {a1 : Addr} {v1 : Value} {a2 : Addr} {v2 : Value} {a3 : Addr} {v3 : Value} (h : w1.cell? a0 = some v0 ∧ w1.cell? a1 = some v1 ∧ w1.cell? a2 = some v2 ∧ w1.cell? a3 = some v3 ∧ Below W.heap.size W w1) (hb : Below w1.heap.size w1 w2) : w2.cell? a0 = some v0 ∧ w2.cell? a1 = some v1 ∧ w2.cell? a2 = some v2 ∧ w2.cell? a3 = some v3 ∧ Below W.heap.size W w2 := by
  obtain ⟨c0, c1, c2, c3, hB⟩ := h
  exact ⟨cell_on hb c0, cell_on hb c1, cell_on hb c2, cell_on hb c3, hB.trans (hb.mono hB.size)⟩
theorem keep5 {w1 w2 W : World} {a0 : Addr} {v0 : Value} {a1 : Addr} {v1 : Value} {a2 : Addr} {v2 : Value} {a3 : Addr} {v3 : Value} {a4 : Addr} {v4 : Value} (h : w1.cell? a0 = some v0 ∧ w1.cell? a1 = some v1 ∧ w1.cell? a2 = some v2 ∧ w1.cell? a3 = some v3 ∧ w1.cell? a4 = some v4 ∧ Below W.heap.size W w1) (hb : Below w1.heap.size w1 w2) : w2.cell? a0 = some v0 ∧ w2.cell? a1 = some v1 ∧ w2.cell? a2 = some v2 ∧ w2.cell? a3 = some v3 ∧ w2.cell? a4 = some v4 ∧ Below W.heap.size W w2 := by
  obtain ⟨c0, c1, c2, c3, c4, hB⟩ := h
  exact ⟨cell_on hb c0, cell_on hb c1, cell_on hb c2, cell_on hb c3, cell_on hb c4, hB.trans (hb.mono hB.size)⟩
theorem keep6 {w1 w2 W : World} {a0 : Addr} {v0 : Value} {a1 : Addr} {v1 : Value} {a2 : Addr} {v2 : Value} {a3 : Addr} {v3 : Value} {a4 : Addr} {v4 : Value} {a5 : Addr} {v5 : Value} (h : w1.cell? a0 = some v0 ∧ w1.cell? a1 = some v1 ∧ w1.cell? a2 = some v2 ∧ w1.cell? a3 = some v3 ∧ w1.cell? a4 = some v4 ∧ w1.cell? a5 = some v5 ∧ Below W.heap.size W w1) (hb : Below w1.heap.size w1 w2) : w2.cell? a0 = some v0 ∧ w2.cell? a1 = some v1 ∧ w2.cell? a2 = some v2 ∧ w2.cell? a3 = some v3 ∧ w2.cell? a4 = some v4 ∧ w2.cell? a5 = some v5 ∧ Below W.heap.size W w2 := by
  obtain ⟨c0, c1, c2, c3, c4, c5, hB⟩ := h
  exact ⟨cell_on hb c0, cell_on hb c1, cell_on hb c2, cell_on hb c3, cell_on hb c4, cell_on hb c5, hB.trans (hb.mono hB.size)⟩
theorem keep7 {w1 w2 W : World} {a0 : Addr} {v0 : Value} {a1 : Addr} {v1 : Value} {a2 : Addr} {v2 : Value} {a3 : Addr} {v3 : Value} {a4 : Addr} {v4 : Value} {a5 : Addr} {v5 : Value} {a6 : Addr} {v6 : Value} (h : w1.cell? a0 = some v0 ∧ w1.cell? a1 = some v1 ∧ w1.cell? a2 = some v2 ∧ w1.cell? a3 = some v3 ∧ w1.cell? a4 = some v4 ∧ w1.cell? a5 = some v5 ∧ w1.cell? a6 = some v6 ∧ Below W.heap.size W w1) (hb : Below w1.heap.size w1 w2) : w2.cell? a0 = some v0 ∧ w2.cell? a1 = some v1 ∧ w2.cell? a2 = some v2 ∧ w2.cell? a3 = some v3 ∧ w2.cell? a4 = some v4 ∧ w2.cell? a5 = some v5 ∧ w2.cell? a6 = some v6 ∧ Below W.heap.size W w2 := by
  obtain ⟨c0, c1, c2, c3, c4, c5, c6, hB⟩ := h
  exact ⟨cell_on hb c0, cell_on hb c1, cell_on hb c2, cell_on hb c3, cell_on hb c4, cell_on hb c5, cell_on hb c6, hB.trans (hb.mono hB.size)⟩
theorem keep8 {w1 w2 W : World} {a0 : Addr} {v0 : Value} {a1 : Addr} {v1 : Value} {a2 : Addr} {v2 : Value} {a3 : Addr} {v3 : Value} {a4 : Addr} {v4 : Value} {a5 : Addr} {v5 : Value} {a6 : Addr} {v6 : Value} {a7 : Addr} {v7 : Value} (h : w1.cell? a0 = some v0 ∧ w1.cell? a1 = some v1 ∧ w1.cell? a2 = some v2 ∧ w1.cell? a3 = some v3 ∧ w1.cell? a4 = some v4 ∧ w1.cell? a5 = some v5 ∧ w1.cell? a6 = some v6 ∧ w1.cell? a7 = some v7 ∧ Below W.heap.size W w1) (hb : Below w1.heap.size w1 w2) : w2.cell? a0 = some v0 ∧ w2.cell? a1 = some v1 ∧ w2.cell? a2 = some v2 ∧ w2.cell? a3 = some v3 ∧ w2.cell? a4 = some v4 ∧ w2.cell? a5 = some v5 ∧ w2.cell? a6 = some v6 ∧ w2.cell? a7 = some v7 ∧ Below W.heap.size W w2 := by
  obtain ⟨c0, c1, c2, c3, c4, c5, c6, c7, hB⟩ := h
  exact ⟨cell_on hb c0, cell_on hb c1, cell_on hb c2, cell_on hb c3, cell_on hb c4, cell_on hb c5, cell_on hb c6, cell_on hb c7, hB.trans (hb.mono hB.size)⟩
theorem keep9 {w1 w2 W : World} {a0 : Addr} {v0 : Value} {a1 : Addr} {v1 : Value} {a2 : Addr} {v2 : Value} {a3 : Addr} {v3 : Value} {a4 : Addr} {v4 : Value} {a5 : Addr} {v5 : Value} {a6 : Addr} {v6 : Value} {a7 : Addr} {v7 : Value} {a8 : Addr} {v8 : Value} (h : w1.cell? a0 = some v0 ∧ w1.cell? a1 = some v1 ∧ w1.cell? a2 = some v2 ∧ w1.cell? a3 = some v3 ∧ w1.cell? a4 = some v4 ∧ w1.cell? a5 = some v5 ∧ w1.cell? a6 = some v6 ∧ w1.cell? a7 = some v7 ∧ w1.cell? a8 = some v8 ∧ Below W.heap.size W w1) (hb : Below w1.heap.size w1 w2) : w2.cell? a0 = some v0 ∧ w2.cell? a1 = some v1 ∧ w2.cell? a2 = some v2 ∧ w2.cell? a3 = some v3 ∧ w2.cell? a4 = some v4 ∧ w2.cell? a5 = some v5 ∧ w2.cell? a6 = some v6 ∧ w2.cell? a7 = some v7 ∧ w2.cell? a8 = some v8 ∧ Below W.heap.size W w2 := by
  obtain ⟨c0, c1, c2, c3, c4, c5, c6, c7, c8, hB⟩ := h
  exact ⟨cell_on hb c0, cell_on hb c1, cell_on hb c2, cell_on hb c3, cell_on hb c4, cell_on hb c5, cell_on hb c6, cell_on hb c7, cell_on hb c8, hB.trans (hb.mono hB.size)⟩
theorem keep10 {w1 w2 W : World} {a0 : Addr} {v0 : Value} {a1 : Addr} {v1 : Value} {a2 : Addr} {v2 : Value} {a3 : Addr} {v3 : Value} {a4 : Addr} {v4 : Value} {a5 : Addr} {v5 : Value} {a6 : Addr} {v6 : Value} {a7 : Addr} {v7 : Value} {a8 : Addr} {v8 : Value} {a9 : Addr} {v9 : Value} (h : w1.cell? a0 = some v0 ∧ w1.cell? a1 = some v1 ∧ w1.cell? a2 = some v2 ∧ w1.cell? a3 = some v3 ∧ w1.cell? a4 = some v4 ∧ w1.cell? a5 = some v5 ∧ w1.cell? a6 = some v6 ∧ w1.cell? a7 = some v7 ∧ w1.cell? a8 = some v8 ∧ w1.cell? a9 = some v9 ∧ Below W.heap.size W w1) (hb : Below w1.heap.size w1 w2) : w2.cell? a0 = some v0 ∧ w2.cell? a1 = some v1 ∧ w2.cell? a2 = some v2 ∧ w2.cell? a3 = some v3 ∧ w2.cell? a4 = some v4 ∧ w2.cell? a5 = some v5 ∧ w2.cell? a6 = some v6 ∧ w2.cell? a7 = some v7 ∧ w2.cell? a8 = some v8 ∧ w2.cell? a9 = some v9 ∧ Below W.heap.size W w2 := by
  obtain ⟨c0, c1, c2, c3, c4, c5, c6, c7, c8, c9, hB⟩ := h
  exact ⟨cell_on hb c0, cell_on hb c1, cell_on hb c2, cell_on hb c3, cell_on hb c4, cell_on hb c5, cell_on hb c6, cell_on hb c7, cell_on hb c8, cell_on hb c9, hB.trans (hb.mono hB.size)⟩
theorem keep11 {w1 w2 W : World} {a0 : Addr} {v0 : Value} {a1 : Addr} {v1 : Value} {a2 : Addr} {v2 : Value} {a3 : Addr} {v3 : Value} {a4 : Addr} {v4 : Value} {a5 : Addr} {v5 : Value} {a6 : Addr} {v6 : Value} {a7 : Addr} {v7 : Value} {a8 : Addr} {v8 : Value} {a9 : Addr} {v9 : Value} {a10 : Addr} {v10 : Value} (h : w1.cell? a0 = some v0 ∧ w1.cell? a1 = some v1 ∧ w1.cell? a2 = some v2 ∧ w1.cell? a3 = some v3 ∧ w1.cell? a4 = some v4 ∧ w1.cell? a5 = some v5 ∧ w1.cell? a6 = some v6 ∧ w1.cell? a7 = some v7 ∧ w1.cell? a8 = some v8 ∧ w1.cell? a9 = some v9 ∧ w1.cell? a10 = some v10 ∧ Below W.heap.size W w1) (hb : Below w1.heap.size w1 w2) : w2.cell? a0 = some v0 ∧ w2.cell? a1 = some v1 ∧ w2.cell? a2 = some v2 ∧ w2.cell? a3 = some v3 ∧ w2.cell? a4 = some v4 ∧ w2.cell? a5 = some v5 ∧ w2.cell? a6 = some v6 ∧ w2.cell? a7 = some v7 ∧ w2.cell? a8 = some v8 ∧ w2.cell? a9 = some v9 ∧ w2.cell? a10 = some v10 ∧ Below W.heap.size W w2 := by
  obtain ⟨c0, c1, c2, c3, c4, c5, c6, c7, c8, c9, c10, hB⟩ := h
  exact ⟨cell_on hb c0, cell_on hb c1, cell_on hb c2, cell_on hb c3, cell_on hb c4, cell_on hb c5, cell_on hb c6, cell_on hb c7, cell_on hb c8, cell_on hb c9, cell_on hb c10, hB.trans (hb.mono hB.size)⟩
theorem keep12 {w1 w2 W : World} {a0 : Addr} {v0 : Value} {a1 : Addr} {v1 : Value} {a2 : Addr} {v2 : Value} {a3 : Addr} {v3 : Value} {a4 : Addr} {v4 : Value} {a5 : Addr} {v5 : Value} {a6 : Addr} {v6 : Value} {a7 : Addr} {v7 : Value} {a8 : Addr} {v8 : Value} {a9 : Addr} {v9 : Value} {a10 : Addr} {v10 : Value} {a11 : Addr} {v11 : Value} (h : w1.cell? a0 = some v0 ∧ w1.cell? a1 = some v1 ∧ w1.cell? a2 = some v2 ∧ w1.cell? a3 = some v3 ∧ w1.cell? a4 = some v4 ∧ w1.cell? a5 = some v5 ∧ w1.cell? a6 = some v6 ∧ w1.cell? a7 = some v7 ∧ w1.cell? a8 = some v8 ∧ w1.cell? a9 = some v9 ∧ w1.cell? a10 = some v10 ∧ w1.cell? a11 = some v11 ∧ Below W.heap.size W w1) (hb : Below w1.heap.size w1 w2) : w2.cell? a0 = some v0 ∧ w2.cell? a1 = some v1 ∧ w2.cell? a2 = some v2 ∧ w2.cell? a3 = some v3 ∧ w2.cell? a4 = some v4 ∧ w2.cell? a5 = some v5 ∧ w2.cell? a6 = some v6 ∧ w2.cell? a7 = some v7 ∧ w2.cell? a8 = some v8 ∧ w2.cell? a9 = some v9 ∧ w2.cell? a10 = some v10 ∧ w2.cell? a11 = some v11 ∧ Below W.heap.size W w2 := by
  obtain ⟨c0, c1, c2, c3, c4, c5, c6, c7, c8, c9, c10, c11, hB⟩ := h
  exact ⟨cell_on hb c0, cell_on hb c1, cell_on hb c2, cell_on hb c3, cell_on hb c4, cell_on hb c5, cell_on hb c6, cell_on hb c7, cell_on hb c8, cell_on hb c9, cell_on hb c10, cell_on hb c11, hB.trans (hb.mono hB.size)⟩
end Go.Proofs.Ytncjjplpenjghaa.H

/-! ### Region -/
/- region: the rectangles of a grid's cells, walked by hand. -/
set_option linter.unusedVariables false
set_option linter.unusedSimpArgs false
namespace Go.Proofs.Ytncjjplpenjghaa.G
theorem scan_run {r : Nat → Bool} {x x' : Nat} (hx : x < x') (hx' : x' ≤ 80) (hr : ∀ j, x ≤ j → j < x' → r j = true) (he : x' = 80 ∨ r x' = false) : scan r (80 - x) x none = (x, x') :: scan r (80 - (x' + 1)) (x' + 1) none := by
  have h1 : scan r (80 - x) x none = scan r (80 - (x + 1)) (x + 1) (some x) := by
    rw [show 80 - x = (80 - (x + 1)) + 1 from by omega]
    simp only [scan]
    rw [if_pos (hr x (Nat.le_refl _) hx)]
  have h2 : ∀ d m, m + d = x' → x < m → scan r (80 - m) m (some x) = scan r (80 - x') x' (some x) := by
    intro d
    induction d with
    | zero => intro m hm _; rw [show m = x' from by omega]
    | succ d ih =>
      intro m hm hlt
      rw [show 80 - m = (80 - (m + 1)) + 1 from by omega]
      simp only [scan]
      rw [if_pos (hr m (by omega) (by omega))]
      exact ih (m + 1) (by omega) (by omega)
  rw [h1, h2 (x' - (x + 1)) (x + 1) (by omega) (by omega)]
  rcases he with rfl | he
  · rfl
  · rcases Nat.lt_or_ge x' 80 with hlt | hge
    · rw [show 80 - x' = (80 - (x' + 1)) + 1 from by omega]
      simp only [scan]
      rw [if_neg (by rw [he]; decide)]
    · have : x' = 80 := by omega
      subst this
      rfl
theorem scan_skip {r : Nat → Bool} {x : Nat} (hx : x < 80) (hr : r x = false) : scan r (80 - x) x none = scan r (80 - (x + 1)) (x + 1) none := by
  rw [show 80 - x = (80 - (x + 1)) + 1 from by omega]
  simp only [scan]
  rw [if_neg (by rw [hr]; decide)]
end Go.Proofs.Ytncjjplpenjghaa.G
namespace Go.Proofs.Ytncjjplpenjghaa.H
open Go Go.RowKit Go.Proofs.Ytncjjplpenjghaa.P Go.Proofs.YtncjjplpenjghaaW.PrintWords Go.Proofs.YtncjjplpenjghaaW.PrintLast Go.Proofs.Ytncjjplpenjghaa.G
abbrev kR : Kd Rc := k75
abbrev RR (w0 w : World) (v : Value) (l : List Rc) : Prop := Kd.R kR 75 w w0.heap.size (fun _ => True) v l
/-- The outer loop: the bands before y are through. -/
def RO (w : World) (g : Nat → Bool) (v3 v4 : Value) (w' : World) : Prop := ∃ (y : Nat) (acc : List Rc), y ≤ 80 ∧ v4 = .int .i64 y ∧ acc ++ canonFrom g 80 y = canon g ∧ Below w.heap.size w w' ∧ RR w w' v3 acc
def RE (w : World) (g : Nat → Bool) (y : Nat) (v3 : Value) (acc : List Rc) (v5 : Value) (w' : World) : Prop := ∃ e : Nat, y < e ∧ e ≤ 80 ∧ v5 = .int .i64 e ∧ bandEnd g y 80 e = bEnd g y ∧ Below w.heap.size w w' ∧ RR w w' v3 acc
def RX (w : World) (g : Nat → Bool) (y e : Nat) (all : List Rc) (v3 v6 : Value) (w' : World) : Prop := ∃ (x : Nat) (acc : List Rc), x ≤ 81 ∧ v6 = .int .i64 x ∧ acc ++ rectsOf y e (scan (row g y) (80 - x) x none) = all ∧ Below w.heap.size w w' ∧ RR w w' v3 acc
def RI (w : World) (g : Nat → Bool) (y x : Nat) (v3 : Value) (acc : List Rc) (v6 : Value) (w' : World) : Prop := ∃ x' : Nat, x ≤ x' ∧ x' ≤ 80 ∧ v6 = .int .i64 x' ∧ (∀ j, x ≤ j → j < x' → row g y j = true) ∧ Below w.heap.size w w' ∧ RR w w' v3 acc
theorem Grid.on {w w' : World} {b : Nat} {g : Nat → Bool} (h : Grid w b g) {n : Nat} (hn : n = w.heap.size) (hb : Below n w w') : Grid w' b g := h.below (hn ▸ hb)
theorem eql_rows' {g : Nat → Bool} {y e : Nat} {c : Bool} (h : rowEq g y e = c) (w : World) : (Op.equalIn 10000 101 (.agg (rowA g e)) (.agg (rowA g y))).run Try.prog w = .ok c w := by
  rw [equal_rows]
  exact congrArg (fun c => Result.ok c w) h
theorem RR.drew {w0 w : World} {v : Value} {l : List Rc} (h : RR w0 w v l) (hb : ∀ w', Below w.heap.size w w' → RR w0 w' v l) : RR w0 w.drew v l := hb _ (Below.refl _ _).drew
set_option maxRecDepth 100000 in
set_option maxHeartbeats 1000000 in
theorem region_calls (b : Nat) (g : Nat → Bool) (w : World) (hb : Grid w b g) :
    Calls Try.prog 68 #[.pointer (some ⟨b, 0, none⟩)] w fun e w' => ∃ v, e = .returned v ∧ Kd.R k75 75 w' w.heap.size (fun _ => True) v (canon g) ∧ Below w.heap.size w w' := by
  have HG := Lib.hid hb
  clear hb
  have B := Lib.hid (Below.refl w.heap.size w)
  go_enter Try.func68, Try.ntmps68
  go_wp2_with (first
    | ((with_reducible refine gate_dst (N := 8) rfl ?_); refine Kd.R_lit k75 (w0 := w) w.heap.size 75 rfl (N := 8) rfl (xs := ([] : List Rc)) (inner := []) (ok := fun _ => True) (okp := fun _ => False) ?hr (Reps.none _ _) (fun _ hk => hk.elim) trivial B.out B.out.size (by simp) ?_; (case hr => first | (go_simp; done) | (go_simp; rfl)); intro v8 w1 ho hb hg hn; have O1 := Lib.hid ho; replace B := Lib.hid hb; clear ho hb hg hn))
  go_loopw [3, 4] (fun v3 v4 w' => RO w g v3 v4 w') (fun _ v4 _ => 80 - (intOf v4).toNat)
  case atStart => exact ⟨0, [], by omega, rfl, rfl, B.out, O1.out⟩
  case round =>
    clear B O1
    obtain ⟨y, acc, hy, rfl, hall, hB, hO⟩ := hrel
    obtain ⟨A3, c3, e3⟩ := Kd.R_slice hO
    subst e3
    obtain ⟨wo, rfl⟩ : ∃ wo : World, wo = wr := ⟨_, rfl⟩
    have B := Lib.hid hB
    have O1 := Lib.hid hO
    have HALL := Lib.hid hall
    clear hB hO hall
    by_cases hlt : y < 80
    · have hyi : (y : Int) < 80 := by omega
      go_wp2_with fail
      go_loopw [5] (fun v5 w' => RE w g y (.slice A3 acc.length c3) acc v5 w') (fun v5 _ => 80 - (intOf v5).toNat)
      case atStart => exact ⟨y + 1, by omega, by omega, by go_num, rfl, B.out, O1.out⟩
      case round =>
        clear B O1
        obtain ⟨e, he1, he2, rfl, hbe, hB, hO⟩ := hrel
        obtain ⟨we, rfl⟩ : ∃ we : World, we = wr := ⟨_, rfl⟩
        have B := Lib.hid hB
        have O1 := Lib.hid hO
        have HBE := Lib.hid hbe
        clear hB hO hbe
        have hel : (e : Int) ≤ 80 := by omega
        by_cases hA : e < 80 ∧ rowEq g y e = true
        · obtain ⟨he, hre⟩ := hA
          have hei : (e : Int) < 80 := by omega
          have HNX := Lib.hid (show bandEnd g y 80 (e + 1) = bEnd g y by
            rw [← HBE.out, bandEnd_fuel g y 80 81 e (by omega) (by omega) (by omega)]
            conv => rhs; unfold bandEnd
            rw [if_pos ⟨he, hre⟩])
          go_wp2_with fail
          refine region_seq (fun w' => Below we.heap.size we w') rfl (by kernel_rfl) ((Below.refl _ _).drew) ?_
          repeat (first
            | (refine gs_off (a' := ?_) (by rfl) ?_ ?_; rotate_left 1; (simp only [Act.put, List.setIfInBounds_toArray, List.set_cons_zero, List.set_cons_succ]; rfl))
            | (refine gs_load (v := .agg (rowA g e)) (a' := ?_) (ty := 101) ⟨b, e * 80, none⟩ (by rfl) rfl (by rfl) (fun w' hw' => load_row (HG.out.below (B.out.trans (hw'.mono B.out.size))) e (by omega)) ?_ ?_; rotate_left 1; (simp only [Act.put, List.setIfInBounds_toArray, List.set_cons_zero, List.set_cons_succ]; rfl))
            | (refine gs_load (v := .agg (rowA g y)) (a' := ?_) (ty := 101) ⟨b, y * 80, none⟩ (by rfl) rfl (by rfl) (fun w' hw' => load_row (HG.out.below (B.out.trans (hw'.mono B.out.size))) y (by omega)) ?_ ?_; rotate_left 1; (simp only [Act.put, List.setIfInBounds_toArray, List.set_cons_zero, List.set_cons_succ]; rfl))
            | (refine gs_val (v := ?_) (a' := ?_) (by rfl) ?_ ?_ ?_; rotate_left 2; (intro w' hw'; (have k_2 := eql_rows' hre w'); first | (go_simp; done) | (go_simp; with_reducible rfl)); (simp only [Act.put, List.setIfInBounds_toArray, List.set_cons_zero, List.set_cons_succ]; rfl)))
          refine gs_end (fun w1 hB1 => ?_)
          go_wp2_with fail
          exact ⟨⟨e + 1, by omega, by omega, by go_num, HNX.out, B.out.trans (hB1.mono B.out.size), Kd.R_below O1.out hB1⟩, by simp [intOf]; omega⟩
        · have HNX := Lib.hid (show e = bEnd g y by
            rw [← HBE.out, bandEnd_fuel g y 80 81 e (by omega) (by omega) (by omega)]
            unfold bandEnd
            rw [if_neg hA])
          have HAL2 := Lib.hid (show (acc ++ rectsOf y e (runs (row g y))) ++ canonFrom g 80 e = canon g by
            rw [← HALL.out]
            conv => rhs; unfold canonFrom
            rw [if_pos hlt, ← HNX.out, canonFrom_fuel g 79 80 e (by have := he1; omega) (by omega), List.append_assoc])
          have HLEN := Lib.hid (show (acc ++ rectsOf y e (runs (row g y))).length ≤ 3200 by
            have hlen : ((acc ++ rectsOf y e (runs (row g y))) ++ canonFrom g 80 e).length ≤ 3200 := by rw [HAL2.out]; exact canon_len g
            rw [List.length_append] at hlen
            omega)
          by_cases he : e < 80
          have hre : rowEq g y e = false := by
            cases h : rowEq g y e with
            | false => rfl
            | true => exact absurd ⟨he, h⟩ hA
          have hei : (e : Int) < 80 := by omega
          go_wp2_with fail
          refine region_seq (fun w' => Below we.heap.size we w') rfl (by kernel_rfl) ((Below.refl _ _).drew) ?_
          repeat (first
            | (refine gs_off (a' := ?_) (by rfl) ?_ ?_; rotate_left 1; (simp only [Act.put, List.setIfInBounds_toArray, List.set_cons_zero, List.set_cons_succ]; rfl))
            | (refine gs_load (v := .agg (rowA g e)) (a' := ?_) (ty := 101) ⟨b, e * 80, none⟩ (by rfl) rfl (by rfl) (fun w' hw' => load_row (HG.out.below (B.out.trans (hw'.mono B.out.size))) e (by omega)) ?_ ?_; rotate_left 1; (simp only [Act.put, List.setIfInBounds_toArray, List.set_cons_zero, List.set_cons_succ]; rfl))
            | (refine gs_load (v := .agg (rowA g y)) (a' := ?_) (ty := 101) ⟨b, y * 80, none⟩ (by rfl) rfl (by rfl) (fun w' hw' => load_row (HG.out.below (B.out.trans (hw'.mono B.out.size))) y (by omega)) ?_ ?_; rotate_left 1; (simp only [Act.put, List.setIfInBounds_toArray, List.set_cons_zero, List.set_cons_succ]; rfl))
            | (refine gs_val (v := ?_) (a' := ?_) (by rfl) ?_ ?_ ?_; rotate_left 2; (intro w' hw'; (have k_2 := eql_rows' hre w'); first | (go_simp; done) | (go_simp; with_reducible rfl)); (simp only [Act.put, List.setIfInBounds_toArray, List.set_cons_zero, List.set_cons_succ]; rfl)))
          refine gs_end (fun w1 hB1 => ?_)
          rotate_left
          have hei : decide ((e : Int) < 80) = false := by rw [decide_eq_false_iff_not]; omega
          go_wp2_with fail
          refine region_seq (fun w' => Below we.heap.size we w') rfl (by kernel_rfl) ((Below.refl _ _).drew) ?_
          repeat (first
            | (refine gs_off (a' := ?_) (by rfl) ?_ ?_; rotate_left 1; (simp only [Act.put, List.setIfInBounds_toArray, List.set_cons_zero, List.set_cons_succ]; rfl))
            | (refine gs_val (v := ?_) (a' := ?_) (by rfl) ?_ ?_ ?_; rotate_left 2; (intro w' hw';  first | (go_simp; done) | (go_simp; with_reducible rfl)); (simp only [Act.put, List.setIfInBounds_toArray, List.set_cons_zero, List.set_cons_succ]; rfl)))
          refine gs_end (fun w1 hB1 => ?_)
          all_goals
            clear hei
            go_wp2_with fail
            generalize hall2 : acc ++ rectsOf y e (runs (row g y)) = all2 at *
            go_loopw [3, 6] (fun v3 v6 w' => RX w g y e all2 v3 v6 w') (fun _ v6 _ => 81 - (intOf v6).toNat)
            case atStart => exact ⟨0, acc, by omega, rfl, hall2, B.out.trans (hB1.mono B.out.size), Kd.R_below O1.out hB1⟩
            case round =>
              clear hB1 B O1
              have HA2 := Lib.hid hall2
              clear hall2
              obtain ⟨x, acc2, hx, rfl, hall, hB, hO⟩ := hrel
              obtain ⟨A5, c5, e5⟩ := Kd.R_slice hO
              subst e5
              obtain ⟨wx, rfl⟩ : ∃ wx : World, wx = wr := ⟨_, rfl⟩
              have B := Lib.hid hB
              have O1 := Lib.hid hO
              have HS := Lib.hid hall
              clear hB hO hall
              by_cases hx80 : x < 80
              · have hxi : (x : Int) < 80 := by omega
                have c0 := (HG.out.below B.out).cell (y * 80 + x) (by omega)
                cases hgx : g (y * 80 + x) with
                | false =>
                  rw [hgx] at c0
                  have HS2 := Lib.hid (show acc2 ++ rectsOf y e (scan (row g y) (80 - (x + 1)) (x + 1) none) = all2 by rw [← scan_skip hx80 hgx]; exact HS.out)
                  clear hgx
                  go_wp2_with fail
                  exact ⟨⟨x + 1, acc2, by omega, by go_num, HS2.out, B.out, O1.out⟩, by simp [intOf]; omega⟩
                | true =>
                  rw [hgx] at c0
                  have HGX := Lib.hid hgx
                  clear hgx
                  go_wp2_with fail
                  go_loopw [6] (fun v6 w' => RI w g y x (.slice A5 acc2.length c5) acc2 v6 w') (fun v6 _ => 80 - (intOf v6).toNat)
                  case atStart => exact ⟨x, Nat.le_refl _, by omega, rfl, fun j h1 h2 => absurd h1 (by omega), B.out, O1.out⟩
                  case round =>
                    clear B O1 c0
                    obtain ⟨x', hx1, hx2, rfl, hrow, hB, hO⟩ := hrel
                    have B := Lib.hid hB
                    have O1 := Lib.hid hO
                    have HR := Lib.hid hrow
                    clear hB hO hrow
                    have hx2i : (x' : Int) ≤ 80 := by omega
                    have HL2 := Lib.hid (show acc2.length ≤ 3200 by
                      have h1 := HS.out
                      have h2 := HLEN.out
                      rw [← h1, List.length_append] at h2
                      omega)
                    by_cases hx3 : x' < 80
                    · have hx3i : (x' : Int) < 80 := by omega
                      have c1 := (HG.out.below B.out).cell (y * 80 + x') (by omega)
                      cases hg1 : g (y * 80 + x') with
                      | true =>
                        rw [hg1] at c1
                        have HR2 := Lib.hid (show ∀ j, x ≤ j → j < x' + 1 → row g y j = true from fun j h1 h2 => by
                          by_cases hj : j = x'
                          · rw [hj]; exact hg1
                          · exact HR.out j h1 (by omega))
                        clear hg1
                        go_wp2_with fail
                        exact ⟨⟨x' + 1, by omega, by omega, by go_num, HR2.out, B.out, O1.out⟩, by simp [intOf]; omega⟩
                      | false =>
                        rw [hg1] at c1
                        have HNE := Lib.hid (show x < x' by
                          rcases Nat.lt_or_ge x x' with h | h
                          · exact h
                          · have hxx : x = x' := by omega
                            have h5 := HGX.out
                            rw [hxx, hg1] at h5
                            cases h5)
                        have HS2 := Lib.hid (show (acc2 ++ [⟨(x : Int) - 40, (y : Int) - 40, (x' : Int) - 40, (e : Int) - 40⟩]) ++ rectsOf y e (scan (row g y) (80 - (x' + 1)) (x' + 1) none) = all2 by
                          have := HS.out
                          rw [scan_run (x' := x') (HNE.out) hx2 HR.out (.inr hg1)] at this
                          rw [← this, List.append_assoc]
                          rfl)
                        clear hg1
                        go_wp2_with (at_builtin; refine Kd.R_append k75 (w0 := w) w.heap.size rfl (.tmp 56) (.tmp 66) 31 75 (.agg #[.int .i64 0, .int .i64 0, .int .i64 0, .int .i64 0]) 32 rfl Try.underlying31 info75 rfl (by decide) (by omega) _ acc2 (⟨(x : Int) - 40, (y : Int) - 40, (x' : Int) - 40, (e : Int) - 40⟩ : Rc) [.int .i64 ((x : Int) - 40), .int .i64 ((y : Int) - 40), .int .i64 ((x' : Int) - 40), .int .i64 ((e : Int) - 40)] (fun _ => True) (fun _ => False) rfl rfl (k75_mkM _ _ _ _) (fun _ hk => hk.elim) (fun _ _ => trivial) O1.out B.out B.out.size (by have := HL2.out; omega) ?_; intro v1 w2 ho hb hg hat; replace O1 := Lib.hid ho; replace B := Lib.hid hb; clear ho hb hg hat)
                        exact ⟨⟨x' + 1, acc2 ++ [⟨(x : Int) - 40, (y : Int) - 40, (x' : Int) - 40, (e : Int) - 40⟩], by omega, by go_num, HS2.out, B.out, O1.out⟩, by simp [intOf]; omega⟩
                    · have hx3i : decide ((x' : Int) < 80) = false := by rw [decide_eq_false_iff_not]; omega
                      have HS2 := Lib.hid (show (acc2 ++ [⟨(x : Int) - 40, (y : Int) - 40, (x' : Int) - 40, (e : Int) - 40⟩]) ++ rectsOf y e (scan (row g y) (80 - (x' + 1)) (x' + 1) none) = all2 by
                        have := HS.out
                        rw [scan_run (x' := x') (by omega) hx2 HR.out (.inl (by omega))] at this
                        rw [← this, List.append_assoc]
                        rfl)
                      go_wp2_with (at_builtin; refine Kd.R_append k75 (w0 := w) w.heap.size rfl (.tmp 56) (.tmp 66) 31 75 (.agg #[.int .i64 0, .int .i64 0, .int .i64 0, .int .i64 0]) 32 rfl Try.underlying31 info75 rfl (by decide) (by omega) _ acc2 (⟨(x : Int) - 40, (y : Int) - 40, (x' : Int) - 40, (e : Int) - 40⟩ : Rc) [.int .i64 ((x : Int) - 40), .int .i64 ((y : Int) - 40), .int .i64 ((x' : Int) - 40), .int .i64 ((e : Int) - 40)] (fun _ => True) (fun _ => False) rfl rfl (k75_mkM _ _ _ _) (fun _ hk => hk.elim) (fun _ _ => trivial) O1.out B.out B.out.size (by have := HL2.out; omega) ?_; intro v1 w2 ho hb hg hat; replace O1 := Lib.hid ho; replace B := Lib.hid hb; clear ho hb hg hat)
                      exact ⟨⟨x' + 1, acc2 ++ [⟨(x : Int) - 40, (y : Int) - 40, (x' : Int) - 40, (e : Int) - 40⟩], by omega, by go_num, HS2.out, B.out, O1.out⟩, by simp [intOf]; omega⟩
              · have hx80i : ¬ (x : Int) < 80 := by omega
                have HEND := Lib.hid (show acc2 = all2 by
                  have := HS.out
                  rw [show 80 - x = 0 from by omega] at this
                  simpa [scan, rectsOf] using this)
                go_wp2_with fail
                exact ⟨⟨e, all2, by omega, rfl, HAL2.out, B.out, by rw [← HEND.out]; exact O1.out⟩, by simp [intOf]; omega⟩
    · have hy80 : y = 80 := by omega
      subst hy80
      have HE := Lib.hid (show acc = canon g by have := HALL.out; simpa [canonFrom] using this)
      clear hlt
      go_wp2_with fail
      go_ret
      exact ⟨_, rfl, by rw [← HE.out]; exact O1.out, B.out⟩
end Go.Proofs.Ytncjjplpenjghaa.H

/-! ### PolyReg -/
/- PolygonRegion, the program's: the cells inside, drawn as rectangles. -/
set_option linter.unusedVariables false
set_option linter.unusedSimpArgs false
namespace Go.Proofs.Ytncjjplpenjghaa.P
open Go.RowKit Go.Proofs.Ytncjjplpenjghaa.H Go.Proofs.Ytncjjplpenjghaa.Q Go.Proofs.Ytncjjplpenjghaa.G Go.Proofs.YtncjjplpenjghaaW.PrintWords Go.Proofs.YtncjjplpenjghaaW.PrintLast
def impl_PolygonRegion.f (l0 : List S67) : Option (List S75 × Bool) := some (if vp l0 = true then (canon (insideG l0), true) else ([], false))
set_option maxHeartbeats 400000 in
theorem impl_PolygonRegion.calls (A0 : Option Addr) (c0 : Nat) (l0 : List S67) (r1 : List S75) (r2 : Bool) (w : World) (hr0 : Kd.C k67 w A0 l0.length l0) (hc0 : l0.length ≤ c0) (h : impl_PolygonRegion.f l0 = some (r1, r2)) :
    Calls Try.prog 23 #[.slice A0 l0.length c0] w fun e w' => ∃ v0_ : Value, e = .returned (.tuple #[v0_, .bool r2]) ∧ Kd.R k75 75 w' w.heap.size (fun _ => True) v0_ r1 ∧ Below w.heap.size w w' := by
  have HR := Lib.hid hr0
  have HC := Lib.hid hc0
  clear hr0 hc0
  have B := Lib.hid (Below.refl w.heap.size w)
  replace h := Option.some.inj h
  by_cases hv : vp l0 = true
  · rw [if_pos hv] at h
    obtain ⟨rfl, rfl⟩ := Prod.mk.inj h
    have hl := vp_len hv
    have hok := sides_ok hv
    obtain ⟨k2, hk2⟩ := (impl_vert l0 (by omega)).rounds
    have HK1 := Lib.hid (show impl_IsValidPolygon.f l0 = some true from congrArg some hv)
    have HK2 := Lib.hid hk2
    have HOK := Lib.hid (show ∀ e ∈ (sides l0).filter upright, EOk e from fun e he => hok e (List.mem_filter.1 he).1)
    have HLE := Lib.hid (show ((sides l0).filter upright).length ≤ 1048576 from Nat.le_trans (List.length_filter_le _ _) (by rw [sides_len]; omega))
    clear hok hv hl hk2 h
    go_enter Try.func23, Try.ntmps23
    go_wp2_with (first
      | (go_at_call 65; (with_reducible refine (impl_IsValidPolygon.calls A0 c0 l0 true _ HR.out HC.out HK1.out).mono ?_); rintro e w1 ⟨rfl, hb⟩; replace B := Lib.hid (B.out.trans (hb.mono B.out.size)); clear hb)
      | (go_at_call 67; (with_reducible refine (impl_verticals.calls k2 A0 c0 l0 _ _ (Kd.C_below HR.out B.out) HC.out HK2.out).mono ?_); rintro e w2 ⟨v, rfl, hv2, hb⟩; obtain ⟨A2, c2, rfl, hl2, hr2⟩ := Kd.R_reads hv2; have H2 := Lib.hid hl2; have R2 := Lib.hid hr2; replace B := Lib.hid (B.out.trans (hb.mono B.out.size)); clear hb hv2 hl2 hr2)
      | (go_at_call 66; (with_reducible refine (parity_calls A2 c2 _ _ R2.out H2.out HLE.out HOK.out).mono ?_); rintro e w3 ⟨b, rfl, _, hb, hg⟩; have G := Lib.hid hg; replace B := Lib.hid (B.out.trans (hb.mono B.out.size)); clear hb hg)
      | (go_at_call 68; (with_reducible refine (region_calls b (insideG l0) _ G.out).mono ?_); rintro e w4 ⟨v, rfl, hR, hb⟩; have RD := Lib.hid (Kd.R_lower hR B.out.size); replace B := Lib.hid (B.out.trans (hb.mono B.out.size)); clear hR hb))
    go_ret2
    exact ⟨v, rfl, RD.out, B.out⟩
  · rw [if_neg hv] at h
    obtain ⟨rfl, rfl⟩ := Prod.mk.inj h
    have HK1 := Lib.hid (show impl_IsValidPolygon.f l0 = some false from congrArg some (Bool.eq_false_iff.2 hv))
    clear hv h
    go_enter Try.func23, Try.ntmps23
    go_wp2_with (go_at_call 65; (with_reducible refine (impl_IsValidPolygon.calls A0 c0 l0 false _ HR.out HC.out HK1.out).mono ?_); rintro e w1 ⟨rfl, hb⟩; replace B := Lib.hid (B.out.trans (hb.mono B.out.size)); clear hb)
    go_ret2
    exact ⟨_, rfl, Kd.R_nil _ _ _ _ _, B.out⟩
end Go.Proofs.Ytncjjplpenjghaa.P

/-! ### Px48 -/
namespace Go.Proofs.Ytncjjplpenjghaa.P
open Go.RowKit Go.Proofs.YtncjjplpenjghaaW.PrintWords Go.Proofs.YtncjjplpenjghaaW.PrintLast Go.Proofs.YtncjjplpenjghaaW.PrintMore
attribute [local go_sem] max2_int min2_int max_two min_two max_three min_three max_four min_four   -- for this text's walks alone
set_option linter.unusedVariables false
set_option linter.unusedSimpArgs false

/-! ### laws_FnExactPolygonRegion: function 4 -/
mutual
def laws_FnExactPolygonRegion.j0 : Nat → List (S69) → List (S75) → Bool → List (S67) → List (S75) → Bool → Bool → Option (Bool)
  | 0, _, _, _, _, _, _, _ => none
  | k + 1, x0, x4, x5, x6, x7, x8, x40 => if x40 = true then (some false) else ((laws_toPointS.f k x0).bind fun t287 => ((laws_eqPointS.f k x6 t287).bind fun t290 => (if t290 = true then ((laws_markPointS.f k x6 1).bind fun bt291 => (if bt291.1 < 0 then (laws_FnExactPolygonRegion.j1 k x0 x4 x5 x7 true) else ((laws_eqRectS.f k x7 x4).bind fun t293 => (if t293 = true then (laws_FnExactPolygonRegion.j1 k x0 x4 x5 x7 (x8 != x5)) else (laws_FnExactPolygonRegion.j1 k x0 x4 x5 x7 true))))) else (some false))))
def laws_FnExactPolygonRegion.j1 : Nat → List (S69) → List (S75) → Bool → List (S75) → Bool → Option (Bool)
  | 0, _, _, _, _, _ => none
  | k + 1, x0, x4, x5, x7, x61 => if x61 = true then (some false) else ((laws_markRectS.f k x7 1).bind fun bt294 => ((laws_heldRectS.f k bt294.2 1).bind fun t296 => (if t296 < 0 then (some false) else (if t296 = bt294.1 then ((laws_toPointS.f k x0).bind fun t297 => ((impl_PolygonRegion.f t297).bind fun bt300 => ((laws_eqRectS.f k bt300.1 x4).bind fun t304 => (if t304 = true then (laws_FnExactPolygonRegion.j2 k bt294.2 bt294.1 (bt300.2 != x5)) else (laws_FnExactPolygonRegion.j2 k bt294.2 bt294.1 true))))) else (some false)))))
def laws_FnExactPolygonRegion.j2 : Nat → List (S75) → Int → Bool → Option (Bool)
  | 0, _, _, _ => none
  | k + 1, x7, x10, x87 => if x87 = true then (some false) else ((laws_heldRectS.f k x7 1).bind fun t305 => (if t305 < 0 then (some false) else (if t305 = x10 then (some true) else (some false))))
end
def laws_FnExactPolygonRegion.f (k : Nat) (l0 : List (S69)) : Option (Bool) := (laws_szPointS.f l0 1048576).bind fun t271 => (if t271 < 0 then (some true) else ((laws_toPointS.f k l0).bind fun t272 => ((spec_PolygonRegion.f k t272).bind fun bt275 => ((laws_toPointS.f k l0).bind fun t279 => ((impl_PolygonRegion.f t279).bind fun bt282 => ((laws_eqRectS.f k bt282.1 bt275.1).bind fun t286 => (if t286 = true then (laws_FnExactPolygonRegion.j0 k l0 bt275.1 bt275.2 t279 bt282.1 bt282.2 (bt282.2 != bt275.2)) else (laws_FnExactPolygonRegion.j0 k l0 bt275.1 bt275.2 t279 bt282.1 bt282.2 true))))))))
theorem laws_FnExactPolygonRegion.mono_l : ∀ k, (∀ y0 y1 y2 y3 y4 y5 y6, LeO (laws_FnExactPolygonRegion.j0 k y0 y1 y2 y3 y4 y5 y6) (laws_FnExactPolygonRegion.j0 (k + 1) y0 y1 y2 y3 y4 y5 y6)) ∧ (∀ y0 y1 y2 y3 y4, LeO (laws_FnExactPolygonRegion.j1 k y0 y1 y2 y3 y4) (laws_FnExactPolygonRegion.j1 (k + 1) y0 y1 y2 y3 y4)) ∧ (∀ y0 y1 y2, LeO (laws_FnExactPolygonRegion.j2 k y0 y1 y2) (laws_FnExactPolygonRegion.j2 (k + 1) y0 y1 y2))
  | 0 => ⟨fun _ _ _ _ _ _ _ r h => by simp [laws_FnExactPolygonRegion.j0] at h, fun _ _ _ _ _ r h => by simp [laws_FnExactPolygonRegion.j1] at h, fun _ _ _ r h => by simp [laws_FnExactPolygonRegion.j2] at h⟩
  | k + 1 => by
    obtain ⟨ih0, ih1, ih2⟩ := laws_FnExactPolygonRegion.mono_l k
    refine ⟨?_, ?_, ?_⟩
    · intro y0 y1 y2 y3 y4 y5 y6
      unfold laws_FnExactPolygonRegion.j0
      repeat' first
      | (with_reducible exact ih0 _ _ _ _ _ _ _)
      | (with_reducible exact ih1 _ _ _ _ _)
      | (with_reducible exact ih2 _ _ _)
      | (with_reducible exact laws_eqPointS.mono _ _ _)
      | (with_reducible exact laws_eqRectS.mono _ _ _)
      | (with_reducible exact laws_heldRectS.mono _ _ _)
      | (with_reducible exact laws_markPointS.mono _ _ _)
      | (with_reducible exact laws_markRectS.mono _ _ _)
      | (with_reducible exact laws_toPointS.mono _ _)
      | (with_reducible exact spec_PolygonRegion.mono _ _)
      | (with_reducible exact LeO.refl _)
      | (with_reducible exact LeO.none _)
      | (with_reducible refine LeO.ite ?_ ?_)
      | (with_reducible refine LeO.bind ?_ (fun _ => ?_))
      | exact ih0 _ _ _ _ _ _ _
      | exact ih1 _ _ _ _ _
      | exact ih2 _ _ _
      | exact laws_eqPointS.mono _ _ _
      | exact laws_eqRectS.mono _ _ _
      | exact laws_heldRectS.mono _ _ _
      | exact laws_markPointS.mono _ _ _
      | exact laws_markRectS.mono _ _ _
      | exact laws_toPointS.mono _ _
      | exact spec_PolygonRegion.mono _ _
      | exact LeO.none _
      | refine LeO.ite ?_ ?_
      | refine LeO.bind ?_ (fun _ => ?_)
    · intro y0 y1 y2 y3 y4
      unfold laws_FnExactPolygonRegion.j1
      repeat' first
      | (with_reducible exact ih0 _ _ _ _ _ _ _)
      | (with_reducible exact ih1 _ _ _ _ _)
      | (with_reducible exact ih2 _ _ _)
      | (with_reducible exact laws_eqPointS.mono _ _ _)
      | (with_reducible exact laws_eqRectS.mono _ _ _)
      | (with_reducible exact laws_heldRectS.mono _ _ _)
      | (with_reducible exact laws_markPointS.mono _ _ _)
      | (with_reducible exact laws_markRectS.mono _ _ _)
      | (with_reducible exact laws_toPointS.mono _ _)
      | (with_reducible exact spec_PolygonRegion.mono _ _)
      | (with_reducible exact LeO.refl _)
      | (with_reducible exact LeO.none _)
      | (with_reducible refine LeO.ite ?_ ?_)
      | (with_reducible refine LeO.bind ?_ (fun _ => ?_))
      | exact ih0 _ _ _ _ _ _ _
      | exact ih1 _ _ _ _ _
      | exact ih2 _ _ _
      | exact laws_eqPointS.mono _ _ _
      | exact laws_eqRectS.mono _ _ _
      | exact laws_heldRectS.mono _ _ _
      | exact laws_markPointS.mono _ _ _
      | exact laws_markRectS.mono _ _ _
      | exact laws_toPointS.mono _ _
      | exact spec_PolygonRegion.mono _ _
      | exact LeO.none _
      | refine LeO.ite ?_ ?_
      | refine LeO.bind ?_ (fun _ => ?_)
    · intro y0 y1 y2
      unfold laws_FnExactPolygonRegion.j2
      repeat' first
      | (with_reducible exact ih0 _ _ _ _ _ _ _)
      | (with_reducible exact ih1 _ _ _ _ _)
      | (with_reducible exact ih2 _ _ _)
      | (with_reducible exact laws_eqPointS.mono _ _ _)
      | (with_reducible exact laws_eqRectS.mono _ _ _)
      | (with_reducible exact laws_heldRectS.mono _ _ _)
      | (with_reducible exact laws_markPointS.mono _ _ _)
      | (with_reducible exact laws_markRectS.mono _ _ _)
      | (with_reducible exact laws_toPointS.mono _ _)
      | (with_reducible exact spec_PolygonRegion.mono _ _)
      | (with_reducible exact LeO.refl _)
      | (with_reducible exact LeO.none _)
      | (with_reducible refine LeO.ite ?_ ?_)
      | (with_reducible refine LeO.bind ?_ (fun _ => ?_))
      | exact ih0 _ _ _ _ _ _ _
      | exact ih1 _ _ _ _ _
      | exact ih2 _ _ _
      | exact laws_eqPointS.mono _ _ _
      | exact laws_eqRectS.mono _ _ _
      | exact laws_heldRectS.mono _ _ _
      | exact laws_markPointS.mono _ _ _
      | exact laws_markRectS.mono _ _ _
      | exact laws_toPointS.mono _ _
      | exact spec_PolygonRegion.mono _ _
      | exact LeO.none _
      | refine LeO.ite ?_ ?_
      | refine LeO.bind ?_ (fun _ => ?_)
theorem laws_FnExactPolygonRegion.mono : ∀ a0 k, LeO (laws_FnExactPolygonRegion.f k a0) (laws_FnExactPolygonRegion.f (k + 1) a0) := by
  intro a0 k
  obtain ⟨ih0, ih1, ih2⟩ := laws_FnExactPolygonRegion.mono_l k
  unfold laws_FnExactPolygonRegion.f
  repeat' first
      | (with_reducible exact ih0 _ _ _ _ _ _ _)
      | (with_reducible exact ih1 _ _ _ _ _)
      | (with_reducible exact ih2 _ _ _)
      | (with_reducible exact laws_eqPointS.mono _ _ _)
      | (with_reducible exact laws_eqRectS.mono _ _ _)
      | (with_reducible exact laws_heldRectS.mono _ _ _)
      | (with_reducible exact laws_markPointS.mono _ _ _)
      | (with_reducible exact laws_markRectS.mono _ _ _)
      | (with_reducible exact laws_toPointS.mono _ _)
      | (with_reducible exact spec_PolygonRegion.mono _ _)
      | (with_reducible exact LeO.refl _)
      | (with_reducible exact LeO.none _)
      | (with_reducible refine LeO.ite ?_ ?_)
      | (with_reducible refine LeO.bind ?_ (fun _ => ?_))
      | exact ih0 _ _ _ _ _ _ _
      | exact ih1 _ _ _ _ _
      | exact ih2 _ _ _
      | exact laws_eqPointS.mono _ _ _
      | exact laws_eqRectS.mono _ _ _
      | exact laws_heldRectS.mono _ _ _
      | exact laws_markPointS.mono _ _ _
      | exact laws_markRectS.mono _ _ _
      | exact laws_toPointS.mono _ _
      | exact spec_PolygonRegion.mono _ _
      | exact LeO.none _
      | refine LeO.ite ?_ ?_
      | refine LeO.bind ?_ (fun _ => ?_)
set_option maxHeartbeats 8000000 in
set_option maxRecDepth 100000 in
theorem laws_FnExactPolygonRegion.calls (k : Nat) (A0 : Option Addr) (c0 : Nat) (l0 : List (S69)) (r : Bool) (w : World) (hr0 : Kd.C k69 w A0 l0.length l0) (hc0 : l0.length ≤ c0) (h : laws_FnExactPolygonRegion.f k l0 = some r) :
    Calls Try.prog 4 #[.slice A0 l0.length c0] w fun e w' => e = .returned (.bool r) ∧ Below w.heap.size w w' := by
  have HR0 := Aside0.mk hr0
  have HC0 := Aside0.mk hc0
  clear hr0 hc0
  have HB := Aside0.mk (Below.refl w.heap.size w)
  have H : ((laws_szPointS.f l0 1048576).bind fun t271 => (if t271 < 0 then (some true) else ((laws_toPointS.f k l0).bind fun t272 => ((spec_PolygonRegion.f k t272).bind fun bt275 => ((laws_toPointS.f k l0).bind fun t279 => ((impl_PolygonRegion.f t279).bind fun bt282 => ((laws_eqRectS.f k bt282.1 bt275.1).bind fun t286 => (if t286 = true then (laws_FnExactPolygonRegion.j0 k l0 bt275.1 bt275.2 t279 bt282.1 bt282.2 (bt282.2 != bt275.2)) else (laws_FnExactPolygonRegion.j0 k l0 bt275.1 bt275.2 t279 bt282.1 bt282.2 true))))))))) = some r := h
  clear h
  replace H := Option.bind_eq_some_iff.mp H
  obtain ⟨t271, A20, H⟩ := H
  replace H : (if t271 < 0 then (some true) else ((laws_toPointS.f k l0).bind fun t272 => ((spec_PolygonRegion.f k t272).bind fun bt275 => ((laws_toPointS.f k l0).bind fun t279 => ((impl_PolygonRegion.f t279).bind fun bt282 => ((laws_eqRectS.f k bt282.1 bt275.1).bind fun t286 => (if t286 = true then (laws_FnExactPolygonRegion.j0 k l0 bt275.1 bt275.2 t279 bt282.1 bt282.2 (bt282.2 != bt275.2)) else (laws_FnExactPolygonRegion.j0 k l0 bt275.1 bt275.2 t279 bt282.1 bt282.2 true)))))))) = some r := H
  have A2 := Aside0.mk A20
  clear A20
  by_cases c3 : t271 < 0
  · rw [if_pos c3] at H
    have c3b0 : decide (t271 < 0) = true := decide_eq_true c3
    clear c3
    obtain rfl := Option.some.inj H
    go_enter Try.func4, Try.ntmps4
    go_wp2_with (first | ((with_reducible refine gate_callee (f := 20) rfl ?_); refine goesL_ (some 16) rfl rfl Try.func20 (by kernel_rfl) rfl #[.slice A0 l0.length c0, .int .i64 1048576] rfl (by (try simp only [List.map_toArray, List.map_cons, List.map_nil]); first | done | rfl | (simp only [List.length_drop, List.length_take]; rfl)) ?_; (with_reducible refine (laws_szPointS.calls _ _ l0 1048576 t271 _ ?side1 ?side2 A2.out).mono ?_); (case side1 => repeat (first | exact HR0.out | (with_reducible refine Kd.C_alloc ?_ _) | (with_reducible refine Kd.C_drewN ?_ _) | (with_reducible refine Kd.C_drew ?_))); (case side2 => exact HC0.out); rintro e w' ⟨rfl, ⟨nd, rfl⟩⟩; refine ⟨_, rfl, ?_⟩))
    go_ret
    exact ⟨by first | rfl | (simp [errW_none, errW_some] <;> rfl) | (simp [*, errW_none, errW_some] <;> rfl), by repeat (first | (with_reducible first | exact HB.out | apply below_alloc | apply pw_below_drewN | apply below_drew1) | exact HB.out)⟩
  · rw [if_neg c3] at H
    have c3b0 : decide (t271 < 0) = false := decide_eq_false c3
    clear c3
    replace H := Option.bind_eq_some_iff.mp H
    obtain ⟨t272, A40, H⟩ := H
    replace H : ((spec_PolygonRegion.f k t272).bind fun bt275 => ((laws_toPointS.f k l0).bind fun t279 => ((impl_PolygonRegion.f t279).bind fun bt282 => ((laws_eqRectS.f k bt282.1 bt275.1).bind fun t286 => (if t286 = true then (laws_FnExactPolygonRegion.j0 k l0 bt275.1 bt275.2 t279 bt282.1 bt282.2 (bt282.2 != bt275.2)) else (laws_FnExactPolygonRegion.j0 k l0 bt275.1 bt275.2 t279 bt282.1 bt282.2 true)))))) = some r := H
    have A4 := Aside0.mk A40
    clear A40
    replace H := Option.bind_eq_some_iff.mp H
    obtain ⟨⟨t275, t276⟩, A50, H⟩ := H
    replace H : ((laws_toPointS.f k l0).bind fun t279 => ((impl_PolygonRegion.f t279).bind fun bt282 => ((laws_eqRectS.f k bt282.1 t275).bind fun t286 => (if t286 = true then (laws_FnExactPolygonRegion.j0 k l0 t275 t276 t279 bt282.1 bt282.2 (bt282.2 != t276)) else (laws_FnExactPolygonRegion.j0 k l0 t275 t276 t279 bt282.1 bt282.2 true))))) = some r := H
    have A5 := Aside0.mk A50
    clear A50
    replace H := Option.bind_eq_some_iff.mp H
    obtain ⟨t279, A60, H⟩ := H
    replace H : ((impl_PolygonRegion.f t279).bind fun bt282 => ((laws_eqRectS.f k bt282.1 t275).bind fun t286 => (if t286 = true then (laws_FnExactPolygonRegion.j0 k l0 t275 t276 t279 bt282.1 bt282.2 (bt282.2 != t276)) else (laws_FnExactPolygonRegion.j0 k l0 t275 t276 t279 bt282.1 bt282.2 true)))) = some r := H
    have A6 := Aside0.mk A60
    clear A60
    replace H := Option.bind_eq_some_iff.mp H
    obtain ⟨⟨t282, t283⟩, A70, H⟩ := H
    replace H : ((laws_eqRectS.f k t282 t275).bind fun t286 => (if t286 = true then (laws_FnExactPolygonRegion.j0 k l0 t275 t276 t279 t282 t283 (t283 != t276)) else (laws_FnExactPolygonRegion.j0 k l0 t275 t276 t279 t282 t283 true))) = some r := H
    have A7 := Aside0.mk A70
    clear A70
    have HC8 := Aside0.mk H
    clear H
    go_enter Try.func4, Try.ntmps4
    go_upto_region 8 with (first | ((with_reducible refine gate_callee (f := 20) rfl ?_); refine goesL_ (some 16) rfl rfl Try.func20 (by kernel_rfl) rfl #[.slice A0 l0.length c0, .int .i64 1048576] rfl (by (try simp only [List.map_toArray, List.map_cons, List.map_nil]); first | done | rfl | (simp only [List.length_drop, List.length_take]; rfl)) ?_; (with_reducible refine (laws_szPointS.calls _ _ l0 1048576 t271 _ ?side1 ?side2 A2.out).mono ?_); (case side1 => repeat (first | exact HR0.out | (with_reducible refine Kd.C_alloc ?_ _) | (with_reducible refine Kd.C_drewN ?_ _) | (with_reducible refine Kd.C_drew ?_))); (case side2 => exact HC0.out); rintro e w' ⟨rfl, ⟨nd, rfl⟩⟩; refine ⟨_, rfl, ?_⟩) | ((with_reducible refine gate_callee (f := 22) rfl ?_); refine goesL_ (some 21) rfl rfl Try.func22 (by kernel_rfl) rfl #[.slice A0 l0.length c0] rfl (by (try simp only [List.map_toArray, List.map_cons, List.map_nil]); first | done | rfl | (simp only [List.length_drop, List.length_take]; rfl)) ?_; (with_reducible refine (laws_toPointS.calls k _ _ l0 t272 _ ?side1 ?side2 A4.out).mono ?_); (case side1 => repeat (first | exact HR0.out | (with_reducible refine Kd.C_alloc ?_ _) | (with_reducible refine Kd.C_drewN ?_ _) | (with_reducible refine Kd.C_drew ?_))); (case side2 => exact HC0.out); rintro e w9 ⟨v273, rfl, ho0, hb⟩; refine ⟨_, rfl, ?_⟩; have n0_ := Aside0.mk (Kd.R_lower ho0 (below_size (by repeat (first | (with_reducible first | exact HB.out | apply below_alloc | apply pw_below_drewN | apply below_drew1) | exact HB.out)))); have n1_ := Aside0.mk (below_step (by repeat (first | (with_reducible first | exact HB.out | apply below_alloc | apply pw_below_drewN | apply below_drew1) | exact HB.out)) hb); clear HB; have HO274 := n0_; have HB := n1_; clear n0_ n1_; (try clear hb); (try clear hb2); (try clear hk); (try clear hi); (try clear ho0); obtain ⟨Ao10, co10, eo10⟩ := Kd.R_slice HO274.out; subst eo10) | ((with_reducible refine gate_callee (f := 21) rfl ?_); refine goesL_ (some 22) rfl rfl Try.func21 (by kernel_rfl) rfl #[.slice Ao10 t272.length co10] rfl (by (try simp only [List.map_toArray, List.map_cons, List.map_nil]); first | done | rfl | (simp only [List.length_drop, List.length_take]; rfl)) ?_; (with_reducible refine (spec_PolygonRegion.calls k _ _ t272 t275 t276 _ ?side1 ?side2 A5.out).mono ?_); (case side1 => repeat (first | exact (Kd.R_reads' HO274.out).2.2 | (with_reducible refine Kd.C_alloc ?_ _) | (with_reducible refine Kd.C_drewN ?_ _) | (with_reducible refine Kd.C_drew ?_))); (case side2 => exact (Kd.R_reads' HO274.out).2.1); rintro e w11 ⟨v277, rfl, ho0, hb⟩; refine ⟨_, rfl, ?_⟩; have n0_ := Aside0.mk (Kd.R_below (by (with_reducible repeat (first | apply Kd.R_alloc | apply Kd.R_drewN | apply Kd.R_drew)); exact HO274.out) hb); have n1_ := Aside0.mk (Kd.R_lower ho0 (below_size (by repeat (first | (with_reducible first | exact HB.out | apply below_alloc | apply pw_below_drewN | apply below_drew1) | exact HB.out)))); have n2_ := Aside0.mk (below_step (by repeat (first | (with_reducible first | exact HB.out | apply below_alloc | apply pw_below_drewN | apply below_drew1) | exact HB.out)) hb); clear HO274; clear HB; have HO274 := n0_; have HO278 := n1_; have HB := n2_; clear n0_ n1_ n2_; (try clear hb); (try clear hb2); (try clear hk); (try clear hi); (try clear ho0)) | ((with_reducible refine gate_callee (f := 22) rfl ?_); refine goesL_ (some 26) rfl rfl Try.func22 (by kernel_rfl) rfl #[.slice A0 l0.length c0] rfl (by (try simp only [List.map_toArray, List.map_cons, List.map_nil]); first | done | rfl | (simp only [List.length_drop, List.length_take]; rfl)) ?_; (with_reducible refine (laws_toPointS.calls k _ _ l0 t279 _ ?side1 ?side2 A6.out).mono ?_); (case side1 => repeat (first | exact (Kd.C_below HR0.out HB.out) | (with_reducible refine Kd.C_alloc ?_ _) | (with_reducible refine Kd.C_drewN ?_ _) | (with_reducible refine Kd.C_drew ?_))); (case side2 => exact HC0.out); rintro e w12 ⟨v280, rfl, ho0, hb⟩; refine ⟨_, rfl, ?_⟩; have n0_ := Aside0.mk (Kd.R_elder' (by (with_reducible repeat (first | apply Kd.R_alloc | apply Kd.R_drewN | apply Kd.R_drew)); exact HO274.out) (Kd.R_base ho0) hb); have n1_ := Aside0.mk (Kd.R_below (by (with_reducible repeat (first | apply Kd.R_alloc | apply Kd.R_drewN | apply Kd.R_drew)); exact HO278.out) hb); have n2_ := Aside0.mk (Kd.R_lower (Kd.R_new' ho0 (Kd.R_lt (by (with_reducible repeat (first | apply Kd.R_alloc | apply Kd.R_drewN | apply Kd.R_drew)); exact HO274.out))) (below_size (by repeat (first | (with_reducible first | exact HB.out | apply below_alloc | apply pw_below_drewN | apply below_drew1) | exact HB.out)))); have n3_ := Aside0.mk (below_step (by repeat (first | (with_reducible first | exact HB.out | apply below_alloc | apply pw_below_drewN | apply below_drew1) | exact HB.out)) hb); clear HO274; clear HO278; clear HB; have HO274 := n0_; have HO278 := n1_; have HO281 := n2_; have HB := n3_; clear n0_ n1_ n2_ n3_; (try clear hb); (try clear hb2); (try clear hk); (try clear hi); (try clear ho0); obtain ⟨Ao13, co13, eo13⟩ := Kd.R_slice HO281.out; subst eo13) | ((with_reducible refine gate_callee (f := 23) rfl ?_); refine goesL_ (some 29) rfl rfl Try.func23 (by kernel_rfl) rfl #[.slice Ao13 t279.length co13] rfl (by (try simp only [List.map_toArray, List.map_cons, List.map_nil]); first | done | rfl | (simp only [List.length_drop, List.length_take]; rfl)) ?_; (with_reducible refine (impl_PolygonRegion.calls _ _ t279 t282 t283 _ ?side1 ?side2 A7.out).mono ?_); (case side1 => repeat (first | exact (Kd.R_reads' HO281.out).2.2 | (with_reducible refine Kd.C_alloc ?_ _) | (with_reducible refine Kd.C_drewN ?_ _) | (with_reducible refine Kd.C_drew ?_))); (case side2 => exact (Kd.R_reads' HO281.out).2.1); rintro e w14 ⟨v284, rfl, ho0, hb⟩; refine ⟨_, rfl, ?_⟩; have n0_ := Aside0.mk (Kd.R_below (by (with_reducible repeat (first | apply Kd.R_alloc | apply Kd.R_drewN | apply Kd.R_drew)); exact HO274.out) hb); have n1_ := Aside0.mk (Kd.R_elder' (by (with_reducible repeat (first | apply Kd.R_alloc | apply Kd.R_drewN | apply Kd.R_drew)); exact HO278.out) (Kd.R_base ho0) hb); have n2_ := Aside0.mk (Kd.R_below (by (with_reducible repeat (first | apply Kd.R_alloc | apply Kd.R_drewN | apply Kd.R_drew)); exact HO281.out) hb); have n3_ := Aside0.mk (Kd.R_lower (Kd.R_new' ho0 (Kd.R_lt (by (with_reducible repeat (first | apply Kd.R_alloc | apply Kd.R_drewN | apply Kd.R_drew)); exact HO278.out))) (below_size (by repeat (first | (with_reducible first | exact HB.out | apply below_alloc | apply pw_below_drewN | apply below_drew1) | exact HB.out)))); have n4_ := Aside0.mk (below_step (by repeat (first | (with_reducible first | exact HB.out | apply below_alloc | apply pw_below_drewN | apply below_drew1) | exact HB.out)) hb); clear HO274; clear HO278; clear HO281; clear HB; have HO274 := n0_; have HO278 := n1_; have HO281 := n2_; have HO285 := n3_; have HB := n4_; clear n0_ n1_ n2_ n3_ n4_; (try clear hb); (try clear hb2); (try clear hk); (try clear hi); (try clear ho0)))
    (try simp only [Act.put, List.setIfInBounds_toArray, List.set_cons_zero, List.set_cons_succ])
    go_cut [40] (fun v40 wc => ∃ (kq : Nat) (x40_7 : Bool), v40 = .bool x40_7 ∧ Aside0 (laws_FnExactPolygonRegion.j0 kq l0 t275 t276 t279 t282 t283 x40_7 = some r) ∧ Aside0 (kq ≤ k) ∧ Aside0 (Kd.R k75 75 wc w.heap.size (fun k_ => some k_ ≠ (v284 : Value).ownBlock) v277 t275) ∧ Aside0 (Kd.R k67 67 wc w.heap.size (fun _ => True) (.slice Ao13 t279.length co13) t279) ∧ Aside0 (Kd.R k75 75 wc w.heap.size (fun k_ => some k_ ≠ (v277 : Value).ownBlock) v284 t282) ∧ Aside0 (Below w.heap.size w wc))
    case first =>
      have H := HC8.out
      clear HC8
      replace H := Option.bind_eq_some_iff.mp H
      obtain ⟨t286, A150, H⟩ := H
      replace H : (if t286 = true then (laws_FnExactPolygonRegion.j0 k l0 t275 t276 t279 t282 t283 (t283 != t276)) else (laws_FnExactPolygonRegion.j0 k l0 t275 t276 t279 t282 t283 true)) = some r := H
      have A15 := Aside0.mk A150
      clear A150
      by_cases c16 : t286 = true
      · subst c16
        have H1 : (laws_FnExactPolygonRegion.j0 k l0 t275 t276 t279 t282 t283 (t283 != t276)) = some r := by rw [if_pos rfl] at H; exact H
        clear H
        have H := H1
        clear H1
        have H' := Aside0.mk H
        clear H
        obtain ⟨Ao17, co17, eo17⟩ := Kd.R_slice HO285.out
        subst eo17
        obtain ⟨Ao18, co18, eo18⟩ := Kd.R_slice HO278.out
        subst eo18
        go_wp2_with (first | ((with_reducible refine gate_callee (f := 24) rfl ?_); refine goesL_ (some 34) rfl rfl Try.func24 (by kernel_rfl) rfl #[.slice Ao17 t282.length co17, .slice Ao18 t275.length co18] rfl (by (try simp only [List.map_toArray, List.map_cons, List.map_nil]); first | done | rfl | (simp only [List.length_drop, List.length_take]; rfl)) ?_; (with_reducible refine (laws_eqRectS.calls k _ _ t282 _ _ t275 true _ ?side1 ?side2 ?side3 ?side4 A15.out).mono ?_); (case side1 => repeat (first | exact (Kd.R_reads' HO285.out).2.2 | (with_reducible refine Kd.C_alloc ?_ _) | (with_reducible refine Kd.C_drewN ?_ _) | (with_reducible refine Kd.C_drew ?_))); (case side2 => exact (Kd.R_reads' HO285.out).2.1); (case side3 => repeat (first | exact (Kd.R_reads' HO278.out).2.2 | (with_reducible refine Kd.C_alloc ?_ _) | (with_reducible refine Kd.C_drewN ?_ _) | (with_reducible refine Kd.C_drew ?_))); (case side4 => exact (Kd.R_reads' HO278.out).2.1); rintro e w19 ⟨rfl, hb⟩; refine ⟨_, rfl, ?_⟩; have n0_ := Aside0.mk (Kd.R_below (by (with_reducible repeat (first | apply Kd.R_alloc | apply Kd.R_drewN | apply Kd.R_drew)); exact HO274.out) hb); have n1_ := Aside0.mk (Kd.R_below (by (with_reducible repeat (first | apply Kd.R_alloc | apply Kd.R_drewN | apply Kd.R_drew)); exact HO278.out) hb); have n2_ := Aside0.mk (Kd.R_below (by (with_reducible repeat (first | apply Kd.R_alloc | apply Kd.R_drewN | apply Kd.R_drew)); exact HO281.out) hb); have n3_ := Aside0.mk (Kd.R_below (by (with_reducible repeat (first | apply Kd.R_alloc | apply Kd.R_drewN | apply Kd.R_drew)); exact HO285.out) hb); have n4_ := Aside0.mk (below_step (by repeat (first | (with_reducible first | exact HB.out | apply below_alloc | apply pw_below_drewN | apply below_drew1) | exact HB.out)) hb); clear HO274; clear HO278; clear HO281; clear HO285; clear HB; have HO274 := n0_; have HO278 := n1_; have HO281 := n2_; have HO285 := n3_; have HB := n4_; clear n0_ n1_ n2_ n3_ n4_; (try clear hb); (try clear hb2); (try clear hk); (try clear hi)))
        go_meet
        case rel => exact ⟨_, ((t283 != t276)), (by first | rfl | (simp; done) | (simp [*]; done)), H', ⟨by first | omega | exact Nat.le_refl _⟩, ⟨by (with_reducible repeat (first | apply Kd.R_alloc | apply Kd.R_drewN | apply Kd.R_drew)); exact Kd.R_mono HO278.out (fun _ hk => hk.2)⟩, ⟨by (with_reducible repeat (first | apply Kd.R_alloc | apply Kd.R_drewN | apply Kd.R_drew)); exact Kd.R_mono HO281.out (fun _ hk => trivial)⟩, ⟨by (with_reducible repeat (first | apply Kd.R_alloc | apply Kd.R_drewN | apply Kd.R_drew)); exact Kd.R_mono HO285.out (fun _ hk => hk.2)⟩, ⟨by repeat (first | (with_reducible first | exact HB.out | apply below_alloc | apply pw_below_drewN | apply below_drew1) | exact HB.out)⟩⟩
      · replace c16 := Bool.eq_false_iff.mpr c16
        subst c16
        have H1 : (laws_FnExactPolygonRegion.j0 k l0 t275 t276 t279 t282 t283 true) = some r := by rw [if_neg (show ¬ (false = true) by decide)] at H; exact H
        clear H
        have H := H1
        clear H1
        have H' := Aside0.mk H
        clear H
        obtain ⟨Ao20, co20, eo20⟩ := Kd.R_slice HO285.out
        subst eo20
        obtain ⟨Ao21, co21, eo21⟩ := Kd.R_slice HO278.out
        subst eo21
        go_wp2_with (first | ((with_reducible refine gate_callee (f := 24) rfl ?_); refine goesL_ (some 34) rfl rfl Try.func24 (by kernel_rfl) rfl #[.slice Ao20 t282.length co20, .slice Ao21 t275.length co21] rfl (by (try simp only [List.map_toArray, List.map_cons, List.map_nil]); first | done | rfl | (simp only [List.length_drop, List.length_take]; rfl)) ?_; (with_reducible refine (laws_eqRectS.calls k _ _ t282 _ _ t275 false _ ?side1 ?side2 ?side3 ?side4 A15.out).mono ?_); (case side1 => repeat (first | exact (Kd.R_reads' HO285.out).2.2 | (with_reducible refine Kd.C_alloc ?_ _) | (with_reducible refine Kd.C_drewN ?_ _) | (with_reducible refine Kd.C_drew ?_))); (case side2 => exact (Kd.R_reads' HO285.out).2.1); (case side3 => repeat (first | exact (Kd.R_reads' HO278.out).2.2 | (with_reducible refine Kd.C_alloc ?_ _) | (with_reducible refine Kd.C_drewN ?_ _) | (with_reducible refine Kd.C_drew ?_))); (case side4 => exact (Kd.R_reads' HO278.out).2.1); rintro e w22 ⟨rfl, hb⟩; refine ⟨_, rfl, ?_⟩; have n0_ := Aside0.mk (Kd.R_below (by (with_reducible repeat (first | apply Kd.R_alloc | apply Kd.R_drewN | apply Kd.R_drew)); exact HO274.out) hb); have n1_ := Aside0.mk (Kd.R_below (by (with_reducible repeat (first | apply Kd.R_alloc | apply Kd.R_drewN | apply Kd.R_drew)); exact HO278.out) hb); have n2_ := Aside0.mk (Kd.R_below (by (with_reducible repeat (first | apply Kd.R_alloc | apply Kd.R_drewN | apply Kd.R_drew)); exact HO281.out) hb); have n3_ := Aside0.mk (Kd.R_below (by (with_reducible repeat (first | apply Kd.R_alloc | apply Kd.R_drewN | apply Kd.R_drew)); exact HO285.out) hb); have n4_ := Aside0.mk (below_step (by repeat (first | (with_reducible first | exact HB.out | apply below_alloc | apply pw_below_drewN | apply below_drew1) | exact HB.out)) hb); clear HO274; clear HO278; clear HO281; clear HO285; clear HB; have HO274 := n0_; have HO278 := n1_; have HO281 := n2_; have HO285 := n3_; have HB := n4_; clear n0_ n1_ n2_ n3_ n4_; (try clear hb); (try clear hb2); (try clear hk); (try clear hi)))
        go_meet
        case rel => exact ⟨_, (true), (by first | rfl | (simp; done) | (simp [*]; done)), H', ⟨by first | omega | exact Nat.le_refl _⟩, ⟨by (with_reducible repeat (first | apply Kd.R_alloc | apply Kd.R_drewN | apply Kd.R_drew)); exact Kd.R_mono HO278.out (fun _ hk => hk.2)⟩, ⟨by (with_reducible repeat (first | apply Kd.R_alloc | apply Kd.R_drewN | apply Kd.R_drew)); exact Kd.R_mono HO281.out (fun _ hk => trivial)⟩, ⟨by (with_reducible repeat (first | apply Kd.R_alloc | apply Kd.R_drewN | apply Kd.R_drew)); exact Kd.R_mono HO285.out (fun _ hk => hk.2)⟩, ⟨by repeat (first | (with_reducible first | exact HB.out | apply below_alloc | apply pw_below_drewN | apply below_drew1) | exact HB.out)⟩⟩
    case rest =>
      clear HC8
      try clear c1
      try clear c2
      try clear p2
      try clear c3
      try clear c3b0
      try clear c4
      try clear c16
      try clear c20
      try clear c21
      try clear c22
      obtain ⟨kq, x40_7, rfl, HA, HJ7, HO_4, HO_6, HO_7, HB⟩ := hcut
      cases kq with
      | zero => exact absurd HA.out (by simp [laws_FnExactPolygonRegion.j0])
      | succ kj7 =>
        have H := HA.out
        clear HA
        simp only [laws_FnExactPolygonRegion.j0] at H
        by_cases c23 : x40_7 = true
        · subst c23
          have H1 : (some false) = some r := by rw [if_pos rfl] at H; exact H
          clear H
          have H := H1
          clear H1
          obtain rfl := Option.some.inj H
          go_wp2
          go_ret
          exact ⟨by first | rfl | (simp [errW_none, errW_some] <;> rfl) | (simp [*, errW_none, errW_some] <;> rfl), by repeat (first | (with_reducible first | exact HB.out | apply below_alloc | apply pw_below_drewN | apply below_drew1) | exact HB.out)⟩
        · replace c23 := Bool.eq_false_iff.mpr c23
          subst c23
          have H1 : ((laws_toPointS.f kj7 l0).bind fun t287 => ((laws_eqPointS.f kj7 t279 t287).bind fun t290 => (if t290 = true then ((laws_markPointS.f kj7 t279 1).bind fun bt291 => (if bt291.1 < 0 then (laws_FnExactPolygonRegion.j1 kj7 l0 t275 t276 t282 true) else ((laws_eqRectS.f kj7 t282 t275).bind fun t293 => (if t293 = true then (laws_FnExactPolygonRegion.j1 kj7 l0 t275 t276 t282 (t283 != t276)) else (laws_FnExactPolygonRegion.j1 kj7 l0 t275 t276 t282 true))))) else (some false)))) = some r := by rw [if_neg (show ¬ (false = true) by decide)] at H; exact H
          clear H
          have H := H1
          clear H1
          replace H := Option.bind_eq_some_iff.mp H
          obtain ⟨t287, A240, H⟩ := H
          replace H : ((laws_eqPointS.f kj7 t279 t287).bind fun t290 => (if t290 = true then ((laws_markPointS.f kj7 t279 1).bind fun bt291 => (if bt291.1 < 0 then (laws_FnExactPolygonRegion.j1 kj7 l0 t275 t276 t282 true) else ((laws_eqRectS.f kj7 t282 t275).bind fun t293 => (if t293 = true then (laws_FnExactPolygonRegion.j1 kj7 l0 t275 t276 t282 (t283 != t276)) else (laws_FnExactPolygonRegion.j1 kj7 l0 t275 t276 t282 true))))) else (some false))) = some r := H
          have A24 := Aside0.mk A240
          clear A240
          replace H := Option.bind_eq_some_iff.mp H
          obtain ⟨t290, A250, H⟩ := H
          replace H : (if t290 = true then ((laws_markPointS.f kj7 t279 1).bind fun bt291 => (if bt291.1 < 0 then (laws_FnExactPolygonRegion.j1 kj7 l0 t275 t276 t282 true) else ((laws_eqRectS.f kj7 t282 t275).bind fun t293 => (if t293 = true then (laws_FnExactPolygonRegion.j1 kj7 l0 t275 t276 t282 (t283 != t276)) else (laws_FnExactPolygonRegion.j1 kj7 l0 t275 t276 t282 true))))) else (some false)) = some r := H
          have A25 := Aside0.mk A250
          clear A250
          by_cases c26 : t290 = true
          · subst c26
            have H1 : ((laws_markPointS.f kj7 t279 1).bind fun bt291 => (if bt291.1 < 0 then (laws_FnExactPolygonRegion.j1 kj7 l0 t275 t276 t282 true) else ((laws_eqRectS.f kj7 t282 t275).bind fun t293 => (if t293 = true then (laws_FnExactPolygonRegion.j1 kj7 l0 t275 t276 t282 (t283 != t276)) else (laws_FnExactPolygonRegion.j1 kj7 l0 t275 t276 t282 true))))) = some r := by rw [if_pos rfl] at H; exact H
            clear H
            have H := H1
            clear H1
            replace H := Option.bind_eq_some_iff.mp H
            obtain ⟨⟨t291, t292⟩, A270, H⟩ := H
            replace H : (if t291 < 0 then (laws_FnExactPolygonRegion.j1 kj7 l0 t275 t276 t282 true) else ((laws_eqRectS.f kj7 t282 t275).bind fun t293 => (if t293 = true then (laws_FnExactPolygonRegion.j1 kj7 l0 t275 t276 t282 (t283 != t276)) else (laws_FnExactPolygonRegion.j1 kj7 l0 t275 t276 t282 true)))) = some r := H
            have A27 := Aside0.mk A270
            clear A270
            have HC28 := Aside0.mk H
            clear H
            go_upto_region 14 with (first | ((with_reducible refine gate_callee (f := 22) rfl ?_); refine goesL_ (some 43) rfl rfl Try.func22 (by kernel_rfl) rfl #[.slice A0 l0.length c0] rfl (by (try simp only [List.map_toArray, List.map_cons, List.map_nil]); first | done | rfl | (simp only [List.length_drop, List.length_take]; rfl)) ?_; (with_reducible refine (laws_toPointS.calls kj7 _ _ l0 t287 _ ?side1 ?side2 A24.out).mono ?_); (case side1 => repeat (first | exact (Kd.C_below HR0.out HB.out) | (with_reducible refine Kd.C_alloc ?_ _) | (with_reducible refine Kd.C_drewN ?_ _) | (with_reducible refine Kd.C_drew ?_))); (case side2 => exact HC0.out); rintro e w29 ⟨v288, rfl, ho0, hb⟩; refine ⟨_, rfl, ?_⟩; have n0_ := Aside0.mk (Kd.R_below (by (with_reducible repeat (first | apply Kd.R_alloc | apply Kd.R_drewN | apply Kd.R_drew)); exact HO_4.out) hb); have n1_ := Aside0.mk (Kd.R_elder' (by (with_reducible repeat (first | apply Kd.R_alloc | apply Kd.R_drewN | apply Kd.R_drew)); exact HO_6.out) (Kd.R_base ho0) hb); have n2_ := Aside0.mk (Kd.R_below (by (with_reducible repeat (first | apply Kd.R_alloc | apply Kd.R_drewN | apply Kd.R_drew)); exact HO_7.out) hb); have n3_ := Aside0.mk (Kd.R_lower (Kd.R_new' ho0 (Kd.R_lt (by (with_reducible repeat (first | apply Kd.R_alloc | apply Kd.R_drewN | apply Kd.R_drew)); exact HO_6.out))) (below_size (by repeat (first | (with_reducible first | exact HB.out | apply below_alloc | apply pw_below_drewN | apply below_drew1) | exact HB.out)))); have n4_ := Aside0.mk (below_step (by repeat (first | (with_reducible first | exact HB.out | apply below_alloc | apply pw_below_drewN | apply below_drew1) | exact HB.out)) hb); clear HO_4; clear HO_6; clear HO_7; clear HB; have HO_4 := n0_; have HO_6 := n1_; have HO_7 := n2_; have HO289 := n3_; have HB := n4_; clear n0_ n1_ n2_ n3_ n4_; (try clear hb); (try clear hb2); (try clear hk); (try clear hi); (try clear ho0); obtain ⟨Ao30, co30, eo30⟩ := Kd.R_slice HO289.out; subst eo30) | ((with_reducible refine gate_callee (f := 25) rfl ?_); refine goesL_ (some 44) rfl rfl Try.func25 (by kernel_rfl) rfl #[.slice Ao13 t279.length co13, .slice Ao30 t287.length co30] rfl (by (try simp only [List.map_toArray, List.map_cons, List.map_nil]); first | done | rfl | (simp only [List.length_drop, List.length_take]; rfl)) ?_; (with_reducible refine (laws_eqPointS.calls kj7 _ _ t279 _ _ t287 true _ ?side1 ?side2 ?side3 ?side4 A25.out).mono ?_); (case side1 => repeat (first | exact (Kd.R_reads' HO_6.out).2.2 | (with_reducible refine Kd.C_alloc ?_ _) | (with_reducible refine Kd.C_drewN ?_ _) | (with_reducible refine Kd.C_drew ?_))); (case side2 => exact (Kd.R_reads' HO_6.out).2.1); (case side3 => repeat (first | exact (Kd.R_reads' HO289.out).2.2 | (with_reducible refine Kd.C_alloc ?_ _) | (with_reducible refine Kd.C_drewN ?_ _) | (with_reducible refine Kd.C_drew ?_))); (case side4 => exact (Kd.R_reads' HO289.out).2.1); rintro e w31 ⟨rfl, hb⟩; refine ⟨_, rfl, ?_⟩; have n0_ := Aside0.mk (Kd.R_below (by (with_reducible repeat (first | apply Kd.R_alloc | apply Kd.R_drewN | apply Kd.R_drew)); exact HO_4.out) hb); have n1_ := Aside0.mk (Kd.R_below (by (with_reducible repeat (first | apply Kd.R_alloc | apply Kd.R_drewN | apply Kd.R_drew)); exact HO_6.out) hb); have n2_ := Aside0.mk (Kd.R_below (by (with_reducible repeat (first | apply Kd.R_alloc | apply Kd.R_drewN | apply Kd.R_drew)); exact HO_7.out) hb); have n3_ := Aside0.mk (Kd.R_below (by (with_reducible repeat (first | apply Kd.R_alloc | apply Kd.R_drewN | apply Kd.R_drew)); exact HO289.out) hb); have n4_ := Aside0.mk (below_step (by repeat (first | (with_reducible first | exact HB.out | apply below_alloc | apply pw_below_drewN | apply below_drew1) | exact HB.out)) hb); clear HO_4; clear HO_6; clear HO_7; clear HO289; clear HB; have HO_4 := n0_; have HO_6 := n1_; have HO_7 := n2_; have HO289 := n3_; have HB := n4_; clear n0_ n1_ n2_ n3_ n4_; (try clear hb); (try clear hb2); (try clear hk); (try clear hi)) | ((with_reducible refine gate_callee (f := 26) rfl ?_); refine goesL_ (some 48) rfl rfl Try.func26 (by kernel_rfl) rfl #[.slice Ao13 t279.length co13, .int .i64 1] rfl (by (try simp only [List.map_toArray, List.map_cons, List.map_nil]); first | done | rfl | (simp only [List.length_drop, List.length_take]; rfl)) ?_; (with_reducible refine (laws_markPointS.calls kj7 (fun k_ => some k_ = (.slice Ao13 t279.length co13 : Value).ownBlock) (.slice Ao13 t279.length co13) t279 1 t291 t292 w _ ?side1 ?side2 A27.out).mono ?_); (case side1 => repeat (first | (with_reducible first | exact HB.out | apply below_alloc | apply pw_below_drewN | apply below_drew1) | exact HB.out)); (case side2 => exact Kd.R_tight rfl HO_6.out); rintro e w32 ⟨rfl, hy0, hb, hkp⟩; refine ⟨_, rfl, ?_⟩; have n0_ := Aside0.mk (Kd.R_mono (ok' := fun k_ => some k_ ≠ (v284 : Value).ownBlock) (Kd.R_keptB ((Kd.R_apart' HO_4.out (Kd.R_typed HO_6.out) (by decide))) hkp (fun k_ hk_ hs_ => (hk_.2) hs_)) (fun k_ hk_ => hk_.1.1)); have n1_ := Aside0.mk (Kd.R_reok rfl hy0 (fun k_ e_ => HO_6.out.1 k_ e_)); have n2_ := Aside0.mk (Kd.R_mono (ok' := fun k_ => some k_ ≠ (v277 : Value).ownBlock) (Kd.R_keptB ((Kd.R_apart' HO_7.out (Kd.R_typed HO_6.out) (by decide))) hkp (fun k_ hk_ hs_ => (hk_.2) hs_)) (fun k_ hk_ => hk_.1.1)); have n3_ := Aside0.mk (Kd.R_mono (ok' := fun k_ => some k_ ≠ (.slice Ao13 t279.length co13 : Value).ownBlock) (Kd.R_keptB (HO289.out) hkp (fun k_ hk_ hs_ => (hk_.2) hs_)) (fun k_ hk_ => hk_.1.2)); have n4_ := Aside0.mk (hb); clear HO_4; clear HO_6; clear HO_7; clear HO289; clear HB; have HO_4 := n0_; have HO_6 := n1_; have HO_7 := n2_; have HO289 := n3_; have HB := n4_; clear n0_ n1_ n2_ n3_ n4_; (try clear hb); (try clear hkp); (try clear hy0)))
            (try simp only [Act.put, List.setIfInBounds_toArray, List.set_cons_zero, List.set_cons_succ])
            go_cut [61] (fun v61 wc => ∃ (kq : Nat) (x61_27 : Bool), v61 = .bool x61_27 ∧ Aside0 (laws_FnExactPolygonRegion.j1 kq l0 t275 t276 t282 x61_27 = some r) ∧ Aside0 (kq ≤ kj7) ∧ Aside0 (Kd.R k75 75 wc w.heap.size (fun k_ => some k_ ≠ (v284 : Value).ownBlock) v277 t275) ∧ Aside0 (Kd.R k75 75 wc w.heap.size (fun k_ => some k_ ≠ (v277 : Value).ownBlock) v284 t282) ∧ Aside0 (Below w.heap.size w wc))
            case first =>
              have H := HC28.out
              clear HC28
              by_cases c33 : t291 < 0
              · rw [if_pos c33] at H
                have c33b0 : decide (t291 < 0) = true := decide_eq_true c33
                clear c33
                (first | rw [c33b0] | (simp only [i64_w, i32_w]; rw [c33b0]) | skip)
                have H' := Aside0.mk H
                clear H
                go_wp2
                go_meet
                case rel => exact ⟨_, (true), (by first | rfl | (simp; done) | (simp [*]; done)), H', ⟨by have := HJ7.out; first | omega | exact Nat.le_refl _⟩, ⟨by (with_reducible repeat (first | apply Kd.R_alloc | apply Kd.R_drewN | apply Kd.R_drew)); exact HO_4.out⟩, ⟨by (with_reducible repeat (first | apply Kd.R_alloc | apply Kd.R_drewN | apply Kd.R_drew)); exact HO_7.out⟩, ⟨by repeat (first | (with_reducible first | exact HB.out | apply below_alloc | apply pw_below_drewN | apply below_drew1) | exact HB.out)⟩⟩
              · rw [if_neg c33] at H
                have c33b0 : decide (t291 < 0) = false := decide_eq_false c33
                clear c33
                (first | rw [c33b0] | (simp only [i64_w, i32_w]; rw [c33b0]) | skip)
                replace H := Option.bind_eq_some_iff.mp H
                obtain ⟨t293, A340, H⟩ := H
                replace H : (if t293 = true then (laws_FnExactPolygonRegion.j1 kj7 l0 t275 t276 t282 (t283 != t276)) else (laws_FnExactPolygonRegion.j1 kj7 l0 t275 t276 t282 true)) = some r := H
                have A34 := Aside0.mk A340
                clear A340
                by_cases c35 : t293 = true
                · subst c35
                  have H1 : (laws_FnExactPolygonRegion.j1 kj7 l0 t275 t276 t282 (t283 != t276)) = some r := by rw [if_pos rfl] at H; exact H
                  clear H
                  have H := H1
                  clear H1
                  have H' := Aside0.mk H
                  clear H
                  obtain ⟨Ao36, co36, eo36⟩ := Kd.R_slice HO_7.out
                  subst eo36
                  obtain ⟨Ao37, co37, eo37⟩ := Kd.R_slice HO_4.out
                  subst eo37
                  go_wp2_with (first | (go_at_call 24; (with_reducible refine (laws_eqRectS.calls kj7 _ _ t282 _ _ t275 true _ ?side1 ?side2 ?side3 ?side4 A34.out).mono ?_); (case side1 => repeat (first | exact (Kd.R_reads' HO_7.out).2.2 | (with_reducible refine Kd.C_alloc ?_ _) | (with_reducible refine Kd.C_drewN ?_ _) | (with_reducible refine Kd.C_drew ?_))); (case side2 => exact (Kd.R_reads' HO_7.out).2.1); (case side3 => repeat (first | exact (Kd.R_reads' HO_4.out).2.2 | (with_reducible refine Kd.C_alloc ?_ _) | (with_reducible refine Kd.C_drewN ?_ _) | (with_reducible refine Kd.C_drew ?_))); (case side4 => exact (Kd.R_reads' HO_4.out).2.1); rintro e w38 ⟨rfl, hb⟩; have n0_ := Aside0.mk (Kd.R_below (by (with_reducible repeat (first | apply Kd.R_alloc | apply Kd.R_drewN | apply Kd.R_drew)); exact HO_4.out) hb); have n1_ := Aside0.mk (Kd.R_below (by (with_reducible repeat (first | apply Kd.R_alloc | apply Kd.R_drewN | apply Kd.R_drew)); exact HO_6.out) hb); have n2_ := Aside0.mk (Kd.R_below (by (with_reducible repeat (first | apply Kd.R_alloc | apply Kd.R_drewN | apply Kd.R_drew)); exact HO_7.out) hb); have n3_ := Aside0.mk (Kd.R_below (by (with_reducible repeat (first | apply Kd.R_alloc | apply Kd.R_drewN | apply Kd.R_drew)); exact HO289.out) hb); have n4_ := Aside0.mk (below_step (by repeat (first | (with_reducible first | exact HB.out | apply below_alloc | apply pw_below_drewN | apply below_drew1) | exact HB.out)) hb); clear HO_4; clear HO_6; clear HO_7; clear HO289; clear HB; have HO_4 := n0_; have HO_6 := n1_; have HO_7 := n2_; have HO289 := n3_; have HB := n4_; clear n0_ n1_ n2_ n3_ n4_; (try clear hb); (try clear hb2); (try clear hk); (try clear hi)))
                  go_meet
                  case rel => exact ⟨_, ((t283 != t276)), (by first | rfl | (simp; done) | (simp [*]; done)), H', ⟨by have := HJ7.out; first | omega | exact Nat.le_refl _⟩, ⟨by (with_reducible repeat (first | apply Kd.R_alloc | apply Kd.R_drewN | apply Kd.R_drew)); exact HO_4.out⟩, ⟨by (with_reducible repeat (first | apply Kd.R_alloc | apply Kd.R_drewN | apply Kd.R_drew)); exact HO_7.out⟩, ⟨by repeat (first | (with_reducible first | exact HB.out | apply below_alloc | apply pw_below_drewN | apply below_drew1) | exact HB.out)⟩⟩
                · replace c35 := Bool.eq_false_iff.mpr c35
                  subst c35
                  have H1 : (laws_FnExactPolygonRegion.j1 kj7 l0 t275 t276 t282 true) = some r := by rw [if_neg (show ¬ (false = true) by decide)] at H; exact H
                  clear H
                  have H := H1
                  clear H1
                  have H' := Aside0.mk H
                  clear H
                  obtain ⟨Ao39, co39, eo39⟩ := Kd.R_slice HO_7.out
                  subst eo39
                  obtain ⟨Ao40, co40, eo40⟩ := Kd.R_slice HO_4.out
                  subst eo40
                  go_wp2_with (first | (go_at_call 24; (with_reducible refine (laws_eqRectS.calls kj7 _ _ t282 _ _ t275 false _ ?side1 ?side2 ?side3 ?side4 A34.out).mono ?_); (case side1 => repeat (first | exact (Kd.R_reads' HO_7.out).2.2 | (with_reducible refine Kd.C_alloc ?_ _) | (with_reducible refine Kd.C_drewN ?_ _) | (with_reducible refine Kd.C_drew ?_))); (case side2 => exact (Kd.R_reads' HO_7.out).2.1); (case side3 => repeat (first | exact (Kd.R_reads' HO_4.out).2.2 | (with_reducible refine Kd.C_alloc ?_ _) | (with_reducible refine Kd.C_drewN ?_ _) | (with_reducible refine Kd.C_drew ?_))); (case side4 => exact (Kd.R_reads' HO_4.out).2.1); rintro e w41 ⟨rfl, hb⟩; have n0_ := Aside0.mk (Kd.R_below (by (with_reducible repeat (first | apply Kd.R_alloc | apply Kd.R_drewN | apply Kd.R_drew)); exact HO_4.out) hb); have n1_ := Aside0.mk (Kd.R_below (by (with_reducible repeat (first | apply Kd.R_alloc | apply Kd.R_drewN | apply Kd.R_drew)); exact HO_6.out) hb); have n2_ := Aside0.mk (Kd.R_below (by (with_reducible repeat (first | apply Kd.R_alloc | apply Kd.R_drewN | apply Kd.R_drew)); exact HO_7.out) hb); have n3_ := Aside0.mk (Kd.R_below (by (with_reducible repeat (first | apply Kd.R_alloc | apply Kd.R_drewN | apply Kd.R_drew)); exact HO289.out) hb); have n4_ := Aside0.mk (below_step (by repeat (first | (with_reducible first | exact HB.out | apply below_alloc | apply pw_below_drewN | apply below_drew1) | exact HB.out)) hb); clear HO_4; clear HO_6; clear HO_7; clear HO289; clear HB; have HO_4 := n0_; have HO_6 := n1_; have HO_7 := n2_; have HO289 := n3_; have HB := n4_; clear n0_ n1_ n2_ n3_ n4_; (try clear hb); (try clear hb2); (try clear hk); (try clear hi)))
                  go_meet
                  case rel => exact ⟨_, (true), (by first | rfl | (simp; done) | (simp [*]; done)), H', ⟨by have := HJ7.out; first | omega | exact Nat.le_refl _⟩, ⟨by (with_reducible repeat (first | apply Kd.R_alloc | apply Kd.R_drewN | apply Kd.R_drew)); exact HO_4.out⟩, ⟨by (with_reducible repeat (first | apply Kd.R_alloc | apply Kd.R_drewN | apply Kd.R_drew)); exact HO_7.out⟩, ⟨by repeat (first | (with_reducible first | exact HB.out | apply below_alloc | apply pw_below_drewN | apply below_drew1) | exact HB.out)⟩⟩
            case rest =>
              clear HC28
              try clear c1
              try clear c2
              try clear p2
              try clear c3
              try clear c3b0
              try clear c4
              try clear c16
              try clear c20
              try clear c21
              try clear c22
              try clear c23
              try clear c24
              try clear c25
              try clear c26
              try clear c33
              try clear c33b0
              try clear c35
              try clear p2
              obtain ⟨kq, x61_27, rfl, HA, HJ27, HO_4, HO_7, HB⟩ := hcut
              cases kq with
              | zero => exact absurd HA.out (by simp [laws_FnExactPolygonRegion.j1])
              | succ kj27 =>
                have H := HA.out
                clear HA
                simp only [laws_FnExactPolygonRegion.j1] at H
                by_cases c42 : x61_27 = true
                · subst c42
                  have H1 : (some false) = some r := by rw [if_pos rfl] at H; exact H
                  clear H
                  have H := H1
                  clear H1
                  obtain rfl := Option.some.inj H
                  go_wp2
                  go_ret
                  exact ⟨by first | rfl | (simp [errW_none, errW_some] <;> rfl) | (simp [*, errW_none, errW_some] <;> rfl), by repeat (first | (with_reducible first | exact HB.out | apply below_alloc | apply pw_below_drewN | apply below_drew1) | exact HB.out)⟩
                · replace c42 := Bool.eq_false_iff.mpr c42
                  subst c42
                  have H1 : ((laws_markRectS.f kj27 t282 1).bind fun bt294 => ((laws_heldRectS.f kj27 bt294.2 1).bind fun t296 => (if t296 < 0 then (some false) else (if t296 = bt294.1 then ((laws_toPointS.f kj27 l0).bind fun t297 => ((impl_PolygonRegion.f t297).bind fun bt300 => ((laws_eqRectS.f kj27 bt300.1 t275).bind fun t304 => (if t304 = true then (laws_FnExactPolygonRegion.j2 kj27 bt294.2 bt294.1 (bt300.2 != t276)) else (laws_FnExactPolygonRegion.j2 kj27 bt294.2 bt294.1 true))))) else (some false))))) = some r := by rw [if_neg (show ¬ (false = true) by decide)] at H; exact H
                  clear H
                  have H := H1
                  clear H1
                  replace H := Option.bind_eq_some_iff.mp H
                  obtain ⟨⟨t294, t295⟩, A430, H⟩ := H
                  replace H : ((laws_heldRectS.f kj27 t295 1).bind fun t296 => (if t296 < 0 then (some false) else (if t296 = t294 then ((laws_toPointS.f kj27 l0).bind fun t297 => ((impl_PolygonRegion.f t297).bind fun bt300 => ((laws_eqRectS.f kj27 bt300.1 t275).bind fun t304 => (if t304 = true then (laws_FnExactPolygonRegion.j2 kj27 t295 t294 (bt300.2 != t276)) else (laws_FnExactPolygonRegion.j2 kj27 t295 t294 true))))) else (some false)))) = some r := H
                  have A43 := Aside0.mk A430
                  clear A430
                  replace H := Option.bind_eq_some_iff.mp H
                  obtain ⟨t296, A440, H⟩ := H
                  replace H : (if t296 < 0 then (some false) else (if t296 = t294 then ((laws_toPointS.f kj27 l0).bind fun t297 => ((impl_PolygonRegion.f t297).bind fun bt300 => ((laws_eqRectS.f kj27 bt300.1 t275).bind fun t304 => (if t304 = true then (laws_FnExactPolygonRegion.j2 kj27 t295 t294 (bt300.2 != t276)) else (laws_FnExactPolygonRegion.j2 kj27 t295 t294 true))))) else (some false))) = some r := H
                  have A44 := Aside0.mk A440
                  clear A440
                  by_cases c45 : t296 < 0
                  · rw [if_pos c45] at H
                    have c45b0 : decide (t296 < 0) = true := decide_eq_true c45
                    clear c45
                    obtain rfl := Option.some.inj H
                    obtain ⟨Ao46, co46, eo46⟩ := Kd.R_slice HO_7.out
                    subst eo46
                    go_wp2_with (first | ((with_reducible refine gate_callee (f := 27) rfl ?_); refine goesL_ (some 64) rfl rfl Try.func27 (by kernel_rfl) rfl #[.slice Ao46 t282.length co46, .int .i64 1] rfl (by (try simp only [List.map_toArray, List.map_cons, List.map_nil]); first | done | rfl | (simp only [List.length_drop, List.length_take]; rfl)) ?_; (with_reducible refine (laws_markRectS.calls kj27 (fun k_ => some k_ = (.slice Ao46 t282.length co46 : Value).ownBlock) (.slice Ao46 t282.length co46) t282 1 t294 t295 w _ ?side1 ?side2 A43.out).mono ?_); (case side1 => repeat (first | (with_reducible first | exact HB.out | apply below_alloc | apply pw_below_drewN | apply below_drew1) | exact HB.out)); (case side2 => exact Kd.R_tight rfl HO_7.out); rintro e w47 ⟨rfl, hy0, hb, hkp⟩; refine ⟨_, rfl, ?_⟩; have n0_ := Aside0.mk (Kd.R_mono (ok' := fun k_ => some k_ ≠ (.slice Ao46 t282.length co46 : Value).ownBlock) (Kd.R_keptB (HO_4.out) hkp (fun k_ hk_ hs_ => (hk_) hs_)) (fun k_ hk_ => hk_.1)); have n1_ := Aside0.mk (Kd.R_reok rfl hy0 (fun k_ e_ => HO_7.out.1 k_ e_)); have n2_ := Aside0.mk (hb); clear HO_4; clear HO_7; clear HB; have HO_4 := n0_; have HO_7 := n1_; have HB := n2_; clear n0_ n1_ n2_; (try clear hb); (try clear hkp); (try clear hy0)) | ((with_reducible refine gate_callee (f := 28) rfl ?_); refine goesL_ (some 67) rfl rfl Try.func28 (by kernel_rfl) rfl #[.slice Ao46 t295.length co46, .int .i64 1] rfl (by (try simp only [List.map_toArray, List.map_cons, List.map_nil]); first | done | (rw [show t295.length = t282.length from (Kd.R_reads' HO_7.out).1.symm] <;> rfl) | rfl | (simp only [List.length_drop, List.length_take]; rfl)) ?_; (with_reducible refine (laws_heldRectS.calls kj27 _ _ t295 1 t296 _ ?side1 ?side2 A44.out).mono ?_); (case side1 => repeat (first | exact (Kd.R_reads' HO_7.out).2.2 | (with_reducible refine Kd.C_alloc ?_ _) | (with_reducible refine Kd.C_drewN ?_ _) | (with_reducible refine Kd.C_drew ?_))); (case side2 => rw [show t295.length = t282.length from (Kd.R_reads' HO_7.out).1.symm]; exact (Kd.R_reads' HO_7.out).2.1); rintro e w' ⟨rfl, ⟨nd, rfl⟩⟩; refine ⟨_, rfl, ?_⟩))
                    go_ret
                    exact ⟨by first | rfl | (simp [errW_none, errW_some] <;> rfl) | (simp [*, errW_none, errW_some] <;> rfl), by repeat (first | (with_reducible first | exact HB.out | apply below_alloc | apply pw_below_drewN | apply below_drew1) | exact HB.out)⟩
                  · rw [if_neg c45] at H
                    have c45b0 : decide (t296 < 0) = false := decide_eq_false c45
                    clear c45
                    by_cases c48 : t296 = t294
                    · rw [if_pos c48] at H
                      have c48b0 : (t296 == t294) = true := beq_iff_eq.mpr c48
                      have c48b1 : (t296 != t294) = false := bne_eq_false_iff_eq.mpr c48
                      clear c48
                      replace H := Option.bind_eq_some_iff.mp H
                      obtain ⟨t297, A490, H⟩ := H
                      replace H : ((impl_PolygonRegion.f t297).bind fun bt300 => ((laws_eqRectS.f kj27 bt300.1 t275).bind fun t304 => (if t304 = true then (laws_FnExactPolygonRegion.j2 kj27 t295 t294 (bt300.2 != t276)) else (laws_FnExactPolygonRegion.j2 kj27 t295 t294 true)))) = some r := H
                      have A49 := Aside0.mk A490
                      clear A490
                      replace H := Option.bind_eq_some_iff.mp H
                      obtain ⟨⟨t300, t301⟩, A500, H⟩ := H
                      replace H : ((laws_eqRectS.f kj27 t300 t275).bind fun t304 => (if t304 = true then (laws_FnExactPolygonRegion.j2 kj27 t295 t294 (t301 != t276)) else (laws_FnExactPolygonRegion.j2 kj27 t295 t294 true))) = some r := H
                      have A50 := Aside0.mk A500
                      clear A500
                      have HC51 := Aside0.mk H
                      clear H
                      obtain ⟨Ao52, co52, eo52⟩ := Kd.R_slice HO_7.out
                      subst eo52
                      go_upto_region 25 with (first | ((with_reducible refine gate_callee (f := 27) rfl ?_); refine goesL_ (some 64) rfl rfl Try.func27 (by kernel_rfl) rfl #[.slice Ao52 t282.length co52, .int .i64 1] rfl (by (try simp only [List.map_toArray, List.map_cons, List.map_nil]); first | done | rfl | (simp only [List.length_drop, List.length_take]; rfl)) ?_; (with_reducible refine (laws_markRectS.calls kj27 (fun k_ => some k_ = (.slice Ao52 t282.length co52 : Value).ownBlock) (.slice Ao52 t282.length co52) t282 1 t294 t295 w _ ?side1 ?side2 A43.out).mono ?_); (case side1 => repeat (first | (with_reducible first | exact HB.out | apply below_alloc | apply pw_below_drewN | apply below_drew1) | exact HB.out)); (case side2 => exact Kd.R_tight rfl HO_7.out); rintro e w53 ⟨rfl, hy0, hb, hkp⟩; refine ⟨_, rfl, ?_⟩; have n0_ := Aside0.mk (Kd.R_mono (ok' := fun k_ => some k_ ≠ (.slice Ao52 t282.length co52 : Value).ownBlock) (Kd.R_keptB (HO_4.out) hkp (fun k_ hk_ hs_ => (hk_) hs_)) (fun k_ hk_ => hk_.1)); have n1_ := Aside0.mk (Kd.R_reok rfl hy0 (fun k_ e_ => HO_7.out.1 k_ e_)); have n2_ := Aside0.mk (hb); clear HO_4; clear HO_7; clear HB; have HO_4 := n0_; have HO_7 := n1_; have HB := n2_; clear n0_ n1_ n2_; (try clear hb); (try clear hkp); (try clear hy0)) | ((with_reducible refine gate_callee (f := 28) rfl ?_); refine goesL_ (some 67) rfl rfl Try.func28 (by kernel_rfl) rfl #[.slice Ao52 t295.length co52, .int .i64 1] rfl (by (try simp only [List.map_toArray, List.map_cons, List.map_nil]); first | done | (rw [show t295.length = t282.length from (Kd.R_reads' HO_7.out).1.symm] <;> rfl) | rfl | (simp only [List.length_drop, List.length_take]; rfl)) ?_; (with_reducible refine (laws_heldRectS.calls kj27 _ _ t295 1 t296 _ ?side1 ?side2 A44.out).mono ?_); (case side1 => repeat (first | exact (Kd.R_reads' HO_7.out).2.2 | (with_reducible refine Kd.C_alloc ?_ _) | (with_reducible refine Kd.C_drewN ?_ _) | (with_reducible refine Kd.C_drew ?_))); (case side2 => rw [show t295.length = t282.length from (Kd.R_reads' HO_7.out).1.symm]; exact (Kd.R_reads' HO_7.out).2.1); rintro e w' ⟨rfl, ⟨nd, rfl⟩⟩; refine ⟨_, rfl, ?_⟩) | ((with_reducible refine gate_callee (f := 22) rfl ?_); refine goesL_ (some 75) rfl rfl Try.func22 (by kernel_rfl) rfl #[.slice A0 l0.length c0] rfl (by (try simp only [List.map_toArray, List.map_cons, List.map_nil]); first | done | rfl | (simp only [List.length_drop, List.length_take]; rfl)) ?_; (with_reducible refine (laws_toPointS.calls kj27 _ _ l0 t297 _ ?side1 ?side2 A49.out).mono ?_); (case side1 => repeat (first | exact (Kd.C_below HR0.out (by repeat (first | (with_reducible first | exact HB.out | apply below_alloc | apply pw_below_drewN | apply below_drew1) | exact HB.out))) | (with_reducible refine Kd.C_alloc ?_ _) | (with_reducible refine Kd.C_drewN ?_ _) | (with_reducible refine Kd.C_drew ?_))); (case side2 => exact HC0.out); rintro e w54 ⟨v298, rfl, ho0, hb⟩; refine ⟨_, rfl, ?_⟩; have n0_ := Aside0.mk (Kd.R_below (by (with_reducible repeat (first | apply Kd.R_alloc | apply Kd.R_drewN | apply Kd.R_drew)); exact HO_4.out) hb); have n1_ := Aside0.mk (Kd.R_below (by (with_reducible repeat (first | apply Kd.R_alloc | apply Kd.R_drewN | apply Kd.R_drew)); exact HO_7.out) hb); have n2_ := Aside0.mk (Kd.R_lower ho0 (below_size (by repeat (first | (with_reducible first | exact HB.out | apply below_alloc | apply pw_below_drewN | apply below_drew1) | exact HB.out)))); have n3_ := Aside0.mk (below_step (by repeat (first | (with_reducible first | exact HB.out | apply below_alloc | apply pw_below_drewN | apply below_drew1) | exact HB.out)) hb); clear HO_4; clear HO_7; clear HB; have HO_4 := n0_; have HO_7 := n1_; have HO299 := n2_; have HB := n3_; clear n0_ n1_ n2_ n3_; (try clear hb); (try clear hb2); (try clear hk); (try clear hi); (try clear ho0); obtain ⟨Ao55, co55, eo55⟩ := Kd.R_slice HO299.out; subst eo55) | ((with_reducible refine gate_callee (f := 23) rfl ?_); refine goesL_ (some 76) rfl rfl Try.func23 (by kernel_rfl) rfl #[.slice Ao55 t297.length co55] rfl (by (try simp only [List.map_toArray, List.map_cons, List.map_nil]); first | done | rfl | (simp only [List.length_drop, List.length_take]; rfl)) ?_; (with_reducible refine (impl_PolygonRegion.calls _ _ t297 t300 t301 _ ?side1 ?side2 A50.out).mono ?_); (case side1 => repeat (first | exact (Kd.R_reads' HO299.out).2.2 | (with_reducible refine Kd.C_alloc ?_ _) | (with_reducible refine Kd.C_drewN ?_ _) | (with_reducible refine Kd.C_drew ?_))); (case side2 => exact (Kd.R_reads' HO299.out).2.1); rintro e w56 ⟨v302, rfl, ho0, hb⟩; refine ⟨_, rfl, ?_⟩; have n0_ := Aside0.mk (Kd.R_elder' (by (with_reducible repeat (first | apply Kd.R_alloc | apply Kd.R_drewN | apply Kd.R_drew)); exact HO_4.out) (Kd.R_base ho0) hb); have n1_ := Aside0.mk (Kd.R_elder' (by (with_reducible repeat (first | apply Kd.R_alloc | apply Kd.R_drewN | apply Kd.R_drew)); exact HO_7.out) (Kd.R_base ho0) hb); have n2_ := Aside0.mk (Kd.R_below (by (with_reducible repeat (first | apply Kd.R_alloc | apply Kd.R_drewN | apply Kd.R_drew)); exact HO299.out) hb); have n3_ := Aside0.mk (Kd.R_lower (Kd.R_new' (Kd.R_new' ho0 (Kd.R_lt (by (with_reducible repeat (first | apply Kd.R_alloc | apply Kd.R_drewN | apply Kd.R_drew)); exact HO_4.out))) (Kd.R_lt (by (with_reducible repeat (first | apply Kd.R_alloc | apply Kd.R_drewN | apply Kd.R_drew)); exact HO_7.out))) (below_size (by repeat (first | (with_reducible first | exact HB.out | apply below_alloc | apply pw_below_drewN | apply below_drew1) | exact HB.out)))); have n4_ := Aside0.mk (below_step (by repeat (first | (with_reducible first | exact HB.out | apply below_alloc | apply pw_below_drewN | apply below_drew1) | exact HB.out)) hb); clear HO_4; clear HO_7; clear HO299; clear HB; have HO_4 := n0_; have HO_7 := n1_; have HO299 := n2_; have HO303 := n3_; have HB := n4_; clear n0_ n1_ n2_ n3_ n4_; (try clear hb); (try clear hb2); (try clear hk); (try clear hi); (try clear ho0)))
                      (try simp only [Act.put, List.setIfInBounds_toArray, List.set_cons_zero, List.set_cons_succ])
                      go_cut [87] (fun v87 wc => ∃ (kq : Nat) (x87_50 : Bool), v87 = .bool x87_50 ∧ Aside0 (laws_FnExactPolygonRegion.j2 kq t295 t294 x87_50 = some r) ∧ Aside0 (kq ≤ kj27) ∧ Aside0 (Kd.R k75 75 wc w.heap.size (fun _ => True) (.slice Ao52 t282.length co52) t295) ∧ Aside0 (Below w.heap.size w wc))
                      case first =>
                        have H := HC51.out
                        clear HC51
                        replace H := Option.bind_eq_some_iff.mp H
                        obtain ⟨t304, A570, H⟩ := H
                        replace H : (if t304 = true then (laws_FnExactPolygonRegion.j2 kj27 t295 t294 (t301 != t276)) else (laws_FnExactPolygonRegion.j2 kj27 t295 t294 true)) = some r := H
                        have A57 := Aside0.mk A570
                        clear A570
                        by_cases c58 : t304 = true
                        · subst c58
                          have H1 : (laws_FnExactPolygonRegion.j2 kj27 t295 t294 (t301 != t276)) = some r := by rw [if_pos rfl] at H; exact H
                          clear H
                          have H := H1
                          clear H1
                          have H' := Aside0.mk H
                          clear H
                          obtain ⟨Ao59, co59, eo59⟩ := Kd.R_slice HO303.out
                          subst eo59
                          obtain ⟨Ao60, co60, eo60⟩ := Kd.R_slice HO_4.out
                          subst eo60
                          go_wp2_with (first | ((with_reducible refine gate_callee (f := 24) rfl ?_); refine goesL_ (some 81) rfl rfl Try.func24 (by kernel_rfl) rfl #[.slice Ao59 t300.length co59, .slice Ao60 t275.length co60] rfl (by (try simp only [List.map_toArray, List.map_cons, List.map_nil]); first | done | rfl | (simp only [List.length_drop, List.length_take]; rfl)) ?_; (with_reducible refine (laws_eqRectS.calls kj27 _ _ t300 _ _ t275 true _ ?side1 ?side2 ?side3 ?side4 A57.out).mono ?_); (case side1 => repeat (first | exact (Kd.R_reads' HO303.out).2.2 | (with_reducible refine Kd.C_alloc ?_ _) | (with_reducible refine Kd.C_drewN ?_ _) | (with_reducible refine Kd.C_drew ?_))); (case side2 => exact (Kd.R_reads' HO303.out).2.1); (case side3 => repeat (first | exact (Kd.R_reads' HO_4.out).2.2 | (with_reducible refine Kd.C_alloc ?_ _) | (with_reducible refine Kd.C_drewN ?_ _) | (with_reducible refine Kd.C_drew ?_))); (case side4 => exact (Kd.R_reads' HO_4.out).2.1); rintro e w61 ⟨rfl, hb⟩; refine ⟨_, rfl, ?_⟩; have n0_ := Aside0.mk (Kd.R_below (by (with_reducible repeat (first | apply Kd.R_alloc | apply Kd.R_drewN | apply Kd.R_drew)); exact HO_4.out) hb); have n1_ := Aside0.mk (Kd.R_below (by (with_reducible repeat (first | apply Kd.R_alloc | apply Kd.R_drewN | apply Kd.R_drew)); exact HO_7.out) hb); have n2_ := Aside0.mk (Kd.R_below (by (with_reducible repeat (first | apply Kd.R_alloc | apply Kd.R_drewN | apply Kd.R_drew)); exact HO299.out) hb); have n3_ := Aside0.mk (Kd.R_below (by (with_reducible repeat (first | apply Kd.R_alloc | apply Kd.R_drewN | apply Kd.R_drew)); exact HO303.out) hb); have n4_ := Aside0.mk (below_step (by repeat (first | (with_reducible first | exact HB.out | apply below_alloc | apply pw_below_drewN | apply below_drew1) | exact HB.out)) hb); clear HO_4; clear HO_7; clear HO299; clear HO303; clear HB; have HO_4 := n0_; have HO_7 := n1_; have HO299 := n2_; have HO303 := n3_; have HB := n4_; clear n0_ n1_ n2_ n3_ n4_; (try clear hb); (try clear hb2); (try clear hk); (try clear hi)))
                          go_meet
                          case rel => exact ⟨_, ((t301 != t276)), (by first | rfl | (simp; done) | (simp [*]; done)), H', ⟨by have := HJ7.out; have := HJ27.out; first | omega | exact Nat.le_refl _⟩, ⟨by (with_reducible repeat (first | apply Kd.R_alloc | apply Kd.R_drewN | apply Kd.R_drew)); exact Kd.R_mono HO_7.out (fun _ hk => trivial)⟩, ⟨by repeat (first | (with_reducible first | exact HB.out | apply below_alloc | apply pw_below_drewN | apply below_drew1) | exact HB.out)⟩⟩
                        · replace c58 := Bool.eq_false_iff.mpr c58
                          subst c58
                          have H1 : (laws_FnExactPolygonRegion.j2 kj27 t295 t294 true) = some r := by rw [if_neg (show ¬ (false = true) by decide)] at H; exact H
                          clear H
                          have H := H1
                          clear H1
                          have H' := Aside0.mk H
                          clear H
                          obtain ⟨Ao62, co62, eo62⟩ := Kd.R_slice HO303.out
                          subst eo62
                          obtain ⟨Ao63, co63, eo63⟩ := Kd.R_slice HO_4.out
                          subst eo63
                          go_wp2_with (first | ((with_reducible refine gate_callee (f := 24) rfl ?_); refine goesL_ (some 81) rfl rfl Try.func24 (by kernel_rfl) rfl #[.slice Ao62 t300.length co62, .slice Ao63 t275.length co63] rfl (by (try simp only [List.map_toArray, List.map_cons, List.map_nil]); first | done | rfl | (simp only [List.length_drop, List.length_take]; rfl)) ?_; (with_reducible refine (laws_eqRectS.calls kj27 _ _ t300 _ _ t275 false _ ?side1 ?side2 ?side3 ?side4 A57.out).mono ?_); (case side1 => repeat (first | exact (Kd.R_reads' HO303.out).2.2 | (with_reducible refine Kd.C_alloc ?_ _) | (with_reducible refine Kd.C_drewN ?_ _) | (with_reducible refine Kd.C_drew ?_))); (case side2 => exact (Kd.R_reads' HO303.out).2.1); (case side3 => repeat (first | exact (Kd.R_reads' HO_4.out).2.2 | (with_reducible refine Kd.C_alloc ?_ _) | (with_reducible refine Kd.C_drewN ?_ _) | (with_reducible refine Kd.C_drew ?_))); (case side4 => exact (Kd.R_reads' HO_4.out).2.1); rintro e w64 ⟨rfl, hb⟩; refine ⟨_, rfl, ?_⟩; have n0_ := Aside0.mk (Kd.R_below (by (with_reducible repeat (first | apply Kd.R_alloc | apply Kd.R_drewN | apply Kd.R_drew)); exact HO_4.out) hb); have n1_ := Aside0.mk (Kd.R_below (by (with_reducible repeat (first | apply Kd.R_alloc | apply Kd.R_drewN | apply Kd.R_drew)); exact HO_7.out) hb); have n2_ := Aside0.mk (Kd.R_below (by (with_reducible repeat (first | apply Kd.R_alloc | apply Kd.R_drewN | apply Kd.R_drew)); exact HO299.out) hb); have n3_ := Aside0.mk (Kd.R_below (by (with_reducible repeat (first | apply Kd.R_alloc | apply Kd.R_drewN | apply Kd.R_drew)); exact HO303.out) hb); have n4_ := Aside0.mk (below_step (by repeat (first | (with_reducible first | exact HB.out | apply below_alloc | apply pw_below_drewN | apply below_drew1) | exact HB.out)) hb); clear HO_4; clear HO_7; clear HO299; clear HO303; clear HB; have HO_4 := n0_; have HO_7 := n1_; have HO299 := n2_; have HO303 := n3_; have HB := n4_; clear n0_ n1_ n2_ n3_ n4_; (try clear hb); (try clear hb2); (try clear hk); (try clear hi)))
                          go_meet
                          case rel => exact ⟨_, (true), (by first | rfl | (simp; done) | (simp [*]; done)), H', ⟨by have := HJ7.out; have := HJ27.out; first | omega | exact Nat.le_refl _⟩, ⟨by (with_reducible repeat (first | apply Kd.R_alloc | apply Kd.R_drewN | apply Kd.R_drew)); exact Kd.R_mono HO_7.out (fun _ hk => trivial)⟩, ⟨by repeat (first | (with_reducible first | exact HB.out | apply below_alloc | apply pw_below_drewN | apply below_drew1) | exact HB.out)⟩⟩
                      case rest =>
                        clear HC51
                        try clear c1
                        try clear c2
                        try clear p2
                        try clear c3
                        try clear c3b0
                        try clear c4
                        try clear c5
                        try clear c16
                        try clear c20
                        try clear c21
                        try clear c22
                        try clear c23
                        try clear c24
                        try clear c25
                        try clear c26
                        try clear c27
                        try clear c28
                        try clear c33
                        try clear c33b0
                        try clear c35
                        try clear c42
                        try clear c45
                        try clear c45b0
                        try clear c48
                        try clear c48b0
                        try clear c48b1
                        try clear c58
                        try clear p2
                        obtain ⟨kq, x87_50, rfl, HA, HJ50, HO_7, HB⟩ := hcut
                        have hl7_50 := (Kd.R_reads' HO_7.out).1
                        rw [hl7_50] at HO_7
                        (try simp only [hl7_50])
                        cases kq with
                        | zero => exact absurd HA.out (by simp [laws_FnExactPolygonRegion.j2])
                        | succ kj50 =>
                          have H := HA.out
                          clear HA
                          simp only [laws_FnExactPolygonRegion.j2] at H
                          by_cases c65 : x87_50 = true
                          · subst c65
                            have H1 : (some false) = some r := by rw [if_pos rfl] at H; exact H
                            clear H
                            have H := H1
                            clear H1
                            obtain rfl := Option.some.inj H
                            go_wp2
                            go_ret
                            exact ⟨by first | rfl | (simp [errW_none, errW_some] <;> rfl) | (simp [*, errW_none, errW_some] <;> rfl), by repeat (first | (with_reducible first | exact HB.out | apply below_alloc | apply pw_below_drewN | apply below_drew1) | exact HB.out)⟩
                          · replace c65 := Bool.eq_false_iff.mpr c65
                            subst c65
                            have H1 : ((laws_heldRectS.f kj50 t295 1).bind fun t305 => (if t305 < 0 then (some false) else (if t305 = t294 then (some true) else (some false)))) = some r := by rw [if_neg (show ¬ (false = true) by decide)] at H; exact H
                            clear H
                            have H := H1
                            clear H1
                            replace H := Option.bind_eq_some_iff.mp H
                            obtain ⟨t305, A660, H⟩ := H
                            replace H : (if t305 < 0 then (some false) else (if t305 = t294 then (some true) else (some false))) = some r := H
                            have A66 := Aside0.mk A660
                            clear A660
                            by_cases c67 : t305 < 0
                            · rw [if_pos c67] at H
                              have c67b0 : decide (t305 < 0) = true := decide_eq_true c67
                              clear c67
                              obtain rfl := Option.some.inj H
                              go_wp2_with (first | ((with_reducible refine gate_callee (f := 28) rfl ?_); refine goesL_ (some 90) rfl rfl Try.func28 (by kernel_rfl) rfl #[.slice Ao52 t295.length co52, .int .i64 1] rfl (by (try simp only [List.map_toArray, List.map_cons, List.map_nil]); first | done | rfl | (simp only [List.length_drop, List.length_take]; rfl)) ?_; (with_reducible refine (laws_heldRectS.calls kj50 _ _ t295 1 t305 _ ?side1 ?side2 A66.out).mono ?_); (case side1 => repeat (first | exact (Kd.R_reads' HO_7.out).2.2 | (with_reducible refine Kd.C_alloc ?_ _) | (with_reducible refine Kd.C_drewN ?_ _) | (with_reducible refine Kd.C_drew ?_))); (case side2 => exact (Kd.R_reads' HO_7.out).2.1); rintro e w' ⟨rfl, ⟨nd, rfl⟩⟩; refine ⟨_, rfl, ?_⟩))
                              go_ret
                              exact ⟨by first | rfl | (simp [errW_none, errW_some] <;> rfl) | (simp [*, errW_none, errW_some] <;> rfl), by repeat (first | (with_reducible first | exact HB.out | apply below_alloc | apply pw_below_drewN | apply below_drew1) | exact HB.out)⟩
                            · rw [if_neg c67] at H
                              have c67b0 : decide (t305 < 0) = false := decide_eq_false c67
                              clear c67
                              by_cases c68 : t305 = t294
                              · rw [if_pos c68] at H
                                have c68b0 : (t305 == t294) = true := beq_iff_eq.mpr c68
                                have c68b1 : (t305 != t294) = false := bne_eq_false_iff_eq.mpr c68
                                clear c68
                                obtain rfl := Option.some.inj H
                                go_wp2_with (first | ((with_reducible refine gate_callee (f := 28) rfl ?_); refine goesL_ (some 90) rfl rfl Try.func28 (by kernel_rfl) rfl #[.slice Ao52 t295.length co52, .int .i64 1] rfl (by (try simp only [List.map_toArray, List.map_cons, List.map_nil]); first | done | rfl | (simp only [List.length_drop, List.length_take]; rfl)) ?_; (with_reducible refine (laws_heldRectS.calls kj50 _ _ t295 1 t305 _ ?side1 ?side2 A66.out).mono ?_); (case side1 => repeat (first | exact (Kd.R_reads' HO_7.out).2.2 | (with_reducible refine Kd.C_alloc ?_ _) | (with_reducible refine Kd.C_drewN ?_ _) | (with_reducible refine Kd.C_drew ?_))); (case side2 => exact (Kd.R_reads' HO_7.out).2.1); rintro e w' ⟨rfl, ⟨nd, rfl⟩⟩; refine ⟨_, rfl, ?_⟩))
                                go_ret
                                exact ⟨by first | rfl | (simp [errW_none, errW_some] <;> rfl) | (simp [*, errW_none, errW_some] <;> rfl), by repeat (first | (with_reducible first | exact HB.out | apply below_alloc | apply pw_below_drewN | apply below_drew1) | exact HB.out)⟩
                              · rw [if_neg c68] at H
                                have c68b0 : (t305 == t294) = false := beq_eq_false_iff_ne.mpr c68
                                have c68b1 : (t305 != t294) = true := bne_iff_ne.mpr c68
                                obtain rfl := Option.some.inj H
                                go_wp2_with (first | ((with_reducible refine gate_callee (f := 28) rfl ?_); refine goesL_ (some 90) rfl rfl Try.func28 (by kernel_rfl) rfl #[.slice Ao52 t295.length co52, .int .i64 1] rfl (by (try simp only [List.map_toArray, List.map_cons, List.map_nil]); first | done | rfl | (simp only [List.length_drop, List.length_take]; rfl)) ?_; (with_reducible refine (laws_heldRectS.calls kj50 _ _ t295 1 t305 _ ?side1 ?side2 A66.out).mono ?_); (case side1 => repeat (first | exact (Kd.R_reads' HO_7.out).2.2 | (with_reducible refine Kd.C_alloc ?_ _) | (with_reducible refine Kd.C_drewN ?_ _) | (with_reducible refine Kd.C_drew ?_))); (case side2 => exact (Kd.R_reads' HO_7.out).2.1); rintro e w' ⟨rfl, ⟨nd, rfl⟩⟩; refine ⟨_, rfl, ?_⟩))
                                go_ret
                                exact ⟨by first | rfl | (simp [errW_none, errW_some] <;> rfl) | (simp [*, errW_none, errW_some] <;> rfl), by repeat (first | (with_reducible first | exact HB.out | apply below_alloc | apply pw_below_drewN | apply below_drew1) | exact HB.out)⟩
                    · rw [if_neg c48] at H
                      have c48b0 : (t296 == t294) = false := beq_eq_false_iff_ne.mpr c48
                      have c48b1 : (t296 != t294) = true := bne_iff_ne.mpr c48
                      obtain rfl := Option.some.inj H
                      obtain ⟨Ao69, co69, eo69⟩ := Kd.R_slice HO_7.out
                      subst eo69
                      go_wp2_with (first | ((with_reducible refine gate_callee (f := 27) rfl ?_); refine goesL_ (some 64) rfl rfl Try.func27 (by kernel_rfl) rfl #[.slice Ao69 t282.length co69, .int .i64 1] rfl (by (try simp only [List.map_toArray, List.map_cons, List.map_nil]); first | done | rfl | (simp only [List.length_drop, List.length_take]; rfl)) ?_; (with_reducible refine (laws_markRectS.calls kj27 (fun k_ => some k_ = (.slice Ao69 t282.length co69 : Value).ownBlock) (.slice Ao69 t282.length co69) t282 1 t294 t295 w _ ?side1 ?side2 A43.out).mono ?_); (case side1 => repeat (first | (with_reducible first | exact HB.out | apply below_alloc | apply pw_below_drewN | apply below_drew1) | exact HB.out)); (case side2 => exact Kd.R_tight rfl HO_7.out); rintro e w70 ⟨rfl, hy0, hb, hkp⟩; refine ⟨_, rfl, ?_⟩; have n0_ := Aside0.mk (Kd.R_mono (ok' := fun k_ => some k_ ≠ (.slice Ao69 t282.length co69 : Value).ownBlock) (Kd.R_keptB (HO_4.out) hkp (fun k_ hk_ hs_ => (hk_) hs_)) (fun k_ hk_ => hk_.1)); have n1_ := Aside0.mk (Kd.R_reok rfl hy0 (fun k_ e_ => HO_7.out.1 k_ e_)); have n2_ := Aside0.mk (hb); clear HO_4; clear HO_7; clear HB; have HO_4 := n0_; have HO_7 := n1_; have HB := n2_; clear n0_ n1_ n2_; (try clear hb); (try clear hkp); (try clear hy0)) | ((with_reducible refine gate_callee (f := 28) rfl ?_); refine goesL_ (some 67) rfl rfl Try.func28 (by kernel_rfl) rfl #[.slice Ao69 t295.length co69, .int .i64 1] rfl (by (try simp only [List.map_toArray, List.map_cons, List.map_nil]); first | done | (rw [show t295.length = t282.length from (Kd.R_reads' HO_7.out).1.symm] <;> rfl) | rfl | (simp only [List.length_drop, List.length_take]; rfl)) ?_; (with_reducible refine (laws_heldRectS.calls kj27 _ _ t295 1 t296 _ ?side1 ?side2 A44.out).mono ?_); (case side1 => repeat (first | exact (Kd.R_reads' HO_7.out).2.2 | (with_reducible refine Kd.C_alloc ?_ _) | (with_reducible refine Kd.C_drewN ?_ _) | (with_reducible refine Kd.C_drew ?_))); (case side2 => rw [show t295.length = t282.length from (Kd.R_reads' HO_7.out).1.symm]; exact (Kd.R_reads' HO_7.out).2.1); rintro e w' ⟨rfl, ⟨nd, rfl⟩⟩; refine ⟨_, rfl, ?_⟩))
                      go_ret
                      exact ⟨by first | rfl | (simp [errW_none, errW_some] <;> rfl) | (simp [*, errW_none, errW_some] <;> rfl), by repeat (first | (with_reducible first | exact HB.out | apply below_alloc | apply pw_below_drewN | apply below_drew1) | exact HB.out)⟩
          · replace c26 := Bool.eq_false_iff.mpr c26
            subst c26
            have H1 : (some false) = some r := by rw [if_neg (show ¬ (false = true) by decide)] at H; exact H
            clear H
            have H := H1
            clear H1
            obtain rfl := Option.some.inj H
            go_wp2_with (first | ((with_reducible refine gate_callee (f := 22) rfl ?_); refine goesL_ (some 43) rfl rfl Try.func22 (by kernel_rfl) rfl #[.slice A0 l0.length c0] rfl (by (try simp only [List.map_toArray, List.map_cons, List.map_nil]); first | done | rfl | (simp only [List.length_drop, List.length_take]; rfl)) ?_; (with_reducible refine (laws_toPointS.calls kj7 _ _ l0 t287 _ ?side1 ?side2 A24.out).mono ?_); (case side1 => repeat (first | exact (Kd.C_below HR0.out HB.out) | (with_reducible refine Kd.C_alloc ?_ _) | (with_reducible refine Kd.C_drewN ?_ _) | (with_reducible refine Kd.C_drew ?_))); (case side2 => exact HC0.out); rintro e w71 ⟨v288, rfl, ho0, hb⟩; refine ⟨_, rfl, ?_⟩; have n0_ := Aside0.mk (Kd.R_below (by (with_reducible repeat (first | apply Kd.R_alloc | apply Kd.R_drewN | apply Kd.R_drew)); exact HO_4.out) hb); have n1_ := Aside0.mk (Kd.R_elder' (by (with_reducible repeat (first | apply Kd.R_alloc | apply Kd.R_drewN | apply Kd.R_drew)); exact HO_6.out) (Kd.R_base ho0) hb); have n2_ := Aside0.mk (Kd.R_below (by (with_reducible repeat (first | apply Kd.R_alloc | apply Kd.R_drewN | apply Kd.R_drew)); exact HO_7.out) hb); have n3_ := Aside0.mk (Kd.R_lower (Kd.R_new' ho0 (Kd.R_lt (by (with_reducible repeat (first | apply Kd.R_alloc | apply Kd.R_drewN | apply Kd.R_drew)); exact HO_6.out))) (below_size (by repeat (first | (with_reducible first | exact HB.out | apply below_alloc | apply pw_below_drewN | apply below_drew1) | exact HB.out)))); have n4_ := Aside0.mk (below_step (by repeat (first | (with_reducible first | exact HB.out | apply below_alloc | apply pw_below_drewN | apply below_drew1) | exact HB.out)) hb); clear HO_4; clear HO_6; clear HO_7; clear HB; have HO_4 := n0_; have HO_6 := n1_; have HO_7 := n2_; have HO289 := n3_; have HB := n4_; clear n0_ n1_ n2_ n3_ n4_; (try clear hb); (try clear hb2); (try clear hk); (try clear hi); (try clear ho0); obtain ⟨Ao72, co72, eo72⟩ := Kd.R_slice HO289.out; subst eo72) | ((with_reducible refine gate_callee (f := 25) rfl ?_); refine goesL_ (some 44) rfl rfl Try.func25 (by kernel_rfl) rfl #[.slice Ao13 t279.length co13, .slice Ao72 t287.length co72] rfl (by (try simp only [List.map_toArray, List.map_cons, List.map_nil]); first | done | rfl | (simp only [List.length_drop, List.length_take]; rfl)) ?_; (with_reducible refine (laws_eqPointS.calls kj7 _ _ t279 _ _ t287 false _ ?side1 ?side2 ?side3 ?side4 A25.out).mono ?_); (case side1 => repeat (first | exact (Kd.R_reads' HO_6.out).2.2 | (with_reducible refine Kd.C_alloc ?_ _) | (with_reducible refine Kd.C_drewN ?_ _) | (with_reducible refine Kd.C_drew ?_))); (case side2 => exact (Kd.R_reads' HO_6.out).2.1); (case side3 => repeat (first | exact (Kd.R_reads' HO289.out).2.2 | (with_reducible refine Kd.C_alloc ?_ _) | (with_reducible refine Kd.C_drewN ?_ _) | (with_reducible refine Kd.C_drew ?_))); (case side4 => exact (Kd.R_reads' HO289.out).2.1); rintro e w73 ⟨rfl, hb⟩; refine ⟨_, rfl, ?_⟩; have n0_ := Aside0.mk (Kd.R_below (by (with_reducible repeat (first | apply Kd.R_alloc | apply Kd.R_drewN | apply Kd.R_drew)); exact HO_4.out) hb); have n1_ := Aside0.mk (Kd.R_below (by (with_reducible repeat (first | apply Kd.R_alloc | apply Kd.R_drewN | apply Kd.R_drew)); exact HO_6.out) hb); have n2_ := Aside0.mk (Kd.R_below (by (with_reducible repeat (first | apply Kd.R_alloc | apply Kd.R_drewN | apply Kd.R_drew)); exact HO_7.out) hb); have n3_ := Aside0.mk (Kd.R_below (by (with_reducible repeat (first | apply Kd.R_alloc | apply Kd.R_drewN | apply Kd.R_drew)); exact HO289.out) hb); have n4_ := Aside0.mk (below_step (by repeat (first | (with_reducible first | exact HB.out | apply below_alloc | apply pw_below_drewN | apply below_drew1) | exact HB.out)) hb); clear HO_4; clear HO_6; clear HO_7; clear HO289; clear HB; have HO_4 := n0_; have HO_6 := n1_; have HO_7 := n2_; have HO289 := n3_; have HB := n4_; clear n0_ n1_ n2_ n3_ n4_; (try clear hb); (try clear hb2); (try clear hk); (try clear hi)))
            go_ret
            exact ⟨by first | rfl | (simp [errW_none, errW_some] <;> rfl) | (simp [*, errW_none, errW_some] <;> rfl), by repeat (first | (with_reducible first | exact HB.out | apply below_alloc | apply pw_below_drewN | apply below_drew1) | exact HB.out)⟩

end Go.Proofs.Ytncjjplpenjghaa.P
