/- Walks and plain lemmas for the law FnExactNearestEntry, part c. -/
import Derived.Test.YteepckjegpnffaaMFnExactNearestEntrya
import Derived.Test.YteepckjegpnffaaMFnExactNearestEntryb
import Derived.Deep.RegionHeld3
/-! ### Px28 -/
namespace Go.Proofs.Yteepckjegpnffaa.P
open Go.RowKit Go.Proofs.YteepckjegpnffaaW.PrintWords Go.Proofs.YteepckjegpnffaaW.PrintLast Go.Proofs.YteepckjegpnffaaW.PrintMore
attribute [local go_sem] max2_int min2_int max_two min_two max_three min_three max_four min_four   -- for this text's walks alone
set_option linter.unusedVariables false
set_option linter.unusedSimpArgs false

/-! ### impl_buckets: function 106 -/
mutual
def impl_buckets.l0 : Nat → List Int → Int → Int → Int → Int → Int → Option (List Int)
  | 0, _, _, _, _, _, _ => none
  | k + 1, x3, x4, x195000, x195001, x195002, x195003 => if x4 ≤ (wrap64 (Int.tdiv (wrap64 ((wrap64 (x195003 - 1)) + 40)) 16)) then (impl_buckets.l1 k x3 x4 (wrap64 (Int.tdiv (wrap64 (x195000 + 40)) 16)) x195000 x195001 x195002 x195003) else (some x3)
def impl_buckets.l1 : Nat → List Int → Int → Int → Int → Int → Int → Int → Option (List Int)
  | 0, _, _, _, _, _, _, _ => none
  | k + 1, x3, x4, x5, x195000, x195001, x195002, x195003 => if x5 ≤ (wrap64 (Int.tdiv (wrap64 ((wrap64 (x195002 - 1)) + 40)) 16)) then (if x3.length < 17592186044416 then (impl_buckets.l1 k (x3 ++ [wrap64 ((wrap64 (5 * x4)) + x5)]) x4 (wrap64 (x5 + 1)) x195000 x195001 x195002 x195003) else (none)) else (impl_buckets.l0 k x3 (wrap64 (x4 + 1)) x195000 x195001 x195002 x195003)
end
def impl_buckets.f (k : Nat) (a0_0 : Int) (a0_1 : Int) (a0_2 : Int) (a0_3 : Int) : Option (List Int) := impl_buckets.l0 k (([] : List Int)) (wrap64 (Int.tdiv (wrap64 (a0_1 + 40)) 16)) a0_0 a0_1 a0_2 a0_3
theorem impl_buckets.mono_l : ∀ k, (∀ y0 y1 y2 y3 y4 y5, LeO (impl_buckets.l0 k y0 y1 y2 y3 y4 y5) (impl_buckets.l0 (k + 1) y0 y1 y2 y3 y4 y5)) ∧ (∀ y0 y1 y2 y3 y4 y5 y6, LeO (impl_buckets.l1 k y0 y1 y2 y3 y4 y5 y6) (impl_buckets.l1 (k + 1) y0 y1 y2 y3 y4 y5 y6))
  | 0 => ⟨fun _ _ _ _ _ _ r h => by simp [impl_buckets.l0] at h, fun _ _ _ _ _ _ _ r h => by simp [impl_buckets.l1] at h⟩
  | k + 1 => by
    obtain ⟨ih0, ih1⟩ := impl_buckets.mono_l k
    refine ⟨?_, ?_⟩
    · intro y0 y1 y2 y3 y4 y5
      unfold impl_buckets.l0
      repeat' first
      | (with_reducible exact ih0 _ _ _ _ _ _)
      | (with_reducible exact ih1 _ _ _ _ _ _ _)
      | (with_reducible exact LeO.refl _)
      | (with_reducible exact LeO.none _)
      | (with_reducible refine LeO.ite ?_ ?_)
      | (with_reducible refine LeO.bind ?_ (fun _ => ?_))
      | exact ih0 _ _ _ _ _ _
      | exact ih1 _ _ _ _ _ _ _
      | exact LeO.none _
      | refine LeO.ite ?_ ?_
      | refine LeO.bind ?_ (fun _ => ?_)
    · intro y0 y1 y2 y3 y4 y5 y6
      unfold impl_buckets.l1
      repeat' first
      | (with_reducible exact ih0 _ _ _ _ _ _)
      | (with_reducible exact ih1 _ _ _ _ _ _ _)
      | (with_reducible exact LeO.refl _)
      | (with_reducible exact LeO.none _)
      | (with_reducible refine LeO.ite ?_ ?_)
      | (with_reducible refine LeO.bind ?_ (fun _ => ?_))
      | exact ih0 _ _ _ _ _ _
      | exact ih1 _ _ _ _ _ _ _
      | exact LeO.none _
      | refine LeO.ite ?_ ?_
      | refine LeO.bind ?_ (fun _ => ?_)
theorem impl_buckets.mono : ∀ a0 a1 a2 a3 k, LeO (impl_buckets.f k a0 a1 a2 a3) (impl_buckets.f (k + 1) a0 a1 a2 a3) := by
  intro a0 a1 a2 a3 k
  obtain ⟨ih0, ih1⟩ := impl_buckets.mono_l k
  unfold impl_buckets.f
  repeat' first
      | (with_reducible exact ih0 _ _ _ _ _ _)
      | (with_reducible exact ih1 _ _ _ _ _ _ _)
      | (with_reducible exact LeO.refl _)
      | (with_reducible exact LeO.none _)
      | (with_reducible refine LeO.ite ?_ ?_)
      | (with_reducible refine LeO.bind ?_ (fun _ => ?_))
      | exact ih0 _ _ _ _ _ _
      | exact ih1 _ _ _ _ _ _ _
      | exact LeO.none _
      | refine LeO.ite ?_ ?_
      | refine LeO.bind ?_ (fun _ => ?_)
set_option maxHeartbeats 8000000 in
set_option maxRecDepth 100000 in
theorem impl_buckets.calls (k : Nat) (a0_0 : Int) (a0_1 : Int) (a0_2 : Int) (a0_3 : Int) (r : List Int) (w : World) (h : impl_buckets.f k a0_0 a0_1 a0_2 a0_3 = some r) :
    Calls Try.prog 106 #[.agg #[.int .i64 a0_0, .int .i64 a0_1, .int .i64 a0_2, .int .i64 a0_3]] w fun e w' => ∃ v0_ : Value, e = .returned (v0_) ∧ Kd.R (Kd.int .i64) 2 w' w.heap.size (fun _ => True) v0_ r ∧ Below w.heap.size w w' := by
  have hu65 := Try.underlying65
  have HB := Aside0.mk (Below.refl w.heap.size w)
  have H : (impl_buckets.l0 k (([] : List Int)) (wrap64 (Int.tdiv (wrap64 (a0_1 + 40)) 16)) a0_0 a0_1 a0_2 a0_3) = some r := h
  clear h
  obtain ⟨y195, hy195⟩ : ∃ y_ : List Int, y_ = (([] : List Int)) := ⟨_, rfl⟩
  replace H : (impl_buckets.l0 k y195 (wrap64 (Int.tdiv (wrap64 (a0_1 + 40)) 16)) a0_0 a0_1 a0_2 a0_3) = some r := by first | (rw [hy195]; with_reducible exact H) | (have H2_ := (Option.bind_some _ _).symm.trans H; rw [hy195]; with_reducible exact H2_) | (have H2_ := (Option.bind_some _ _).symm.trans H; with_reducible exact H2_) | with_reducible exact H | (rw [hy195]; exact H) | exact H
  have Ny195 := Aside0.mk hy195
  clear hy195
  have H' := Aside0.mk H
  clear H
  go_enter Try.func106, Try.ntmps106
  go_wp2_with (first | ((with_reducible refine gate_dst (N := 1) rfl ?_); refine box_event ?hg (N := 1) ?hd (cs := #[.int .i64 a0_0, .int .i64 a0_1, .int .i64 a0_2, .int .i64 a0_3]) (t := 65) ?hr ?_; (case hd => rfl); (case hg => rfl); (case hr => first | (go_simp; done) | (go_simp; rfl)); intro gb194 hg w2 hbox hb; have n0_ := Aside0.mk (below_step (by repeat (first | (with_reducible first | exact HB.out | apply below_alloc | apply pw_below_drewN | apply below_drew1) | exact HB.out)) hb); have n1_ := Aside0.mk (hbox); have n2_ := Aside0.mk ((by rw [hg]; exact (below_size (by repeat (first | (with_reducible first | exact HB.out | apply below_alloc | apply pw_below_drewN | apply below_drew1) | exact HB.out))) : w.heap.size ≤ gb194)); have n3_ := Aside0.mk ((by rw [hg]; exact (below_size (by repeat (first | (with_reducible first | exact HB.out | apply below_alloc | apply pw_below_drewN | apply below_drew1) | exact HB.out))) : w.heap.size ≤ gb194)); clear HB; have HB := n0_; have BK194 := n1_; have GW194 := n2_; have GE194 := n3_; clear n0_ n1_ n2_ n3_; clear hb hbox hg) | ((with_reducible refine gate_dst (N := 6) rfl ?_); refine Kd.R_lit (Kd.int .i64) _ 2 ?hg (N := 6) ?hd (xs := ([] : List Int)) (inner := []) (ok := fun _ => True) (okp := fun _ => True) ?hr ?hp (fun _ hk => hk) trivial (Below.refl _ _) (Nat.le_refl _) (by simp) ?_; (case hd => rfl); (case hg => rfl); (case hr => first | (go_simp; done) | (go_simp; rfl)); (case hp => exact (Reps.none _ _)); intro v196 w3 ho4 hb hg_ hnew_; clear hg_ hnew_; (first | rw [← Ny195.out] at ho4 | (simp only [Int.reduceToNat] at ho4; rw [← Ny195.out] at ho4)); have n0_ := Aside0.mk (Kd.R_lower ho4 (below_size (by repeat (first | (with_reducible first | exact HB.out | apply below_alloc | apply pw_below_drewN | apply below_drew1 | refine below_set ?_ GE194.out) | exact HB.out)))); have n1_ := Aside0.mk (blk_below (g := gb194) (o := .cells #[.int .i64 a0_0, .int .i64 a0_1, .int .i64 a0_2, .int .i64 a0_3] 65 (0, 0)) (by (with_reducible repeat (first | refine blk_drewN ?_ _ | refine blk_drew ?_ | refine blk_alloc ?_ _)); exact BK194.out) hb); have n2_ := Aside0.mk (below_step (by repeat (first | (with_reducible first | exact HB.out | apply below_alloc | apply pw_below_drewN | apply below_drew1 | refine below_set ?_ GE194.out) | exact HB.out)) hb); clear BK194; clear HB; have HO197 := n0_; have BK194 := n1_; have HB := n2_; clear n0_ n1_ n2_; clear hb ho4; have hcz5_0 : w3.cell? ⟨gb194, 0, none⟩ = some (.int .i64 a0_0) := (blk_cell BK194.out 0).trans rfl; have hcz5_1 : w3.cell? ⟨gb194, 1, none⟩ = some (.int .i64 a0_1) := (blk_cell BK194.out 1).trans rfl; have hcz5_2 : w3.cell? ⟨gb194, 2, none⟩ = some (.int .i64 a0_2) := (blk_cell BK194.out 2).trans rfl; have hcz5_3 : w3.cell? ⟨gb194, 3, none⟩ = some (.int .i64 a0_3) := (blk_cell BK194.out 3).trans rfl; have hfz5_0 := blk_frozen BK194.out 0; have hfz5_1 := blk_frozen BK194.out 1; have hfz5_2 := blk_frozen BK194.out 2; have hfz5_3 := blk_frozen BK194.out 3))
  go_loopg [3, 4] k (fun kq v3 v4 w' => ∃ (x3_1 : List Int) (x4_1 : Int), v4 = .int .i64 x4_1 ∧ Aside0 (impl_buckets.l0 kq x3_1 x4_1 a0_0 a0_1 a0_2 a0_3 = some r) ∧ Aside0 (kq ≤ k) ∧ Aside0 (Kd.R (Kd.int .i64) 2 w' w.heap.size (fun _ => True) v3 x3_1) ∧ Aside0 (w'.heap[gb194]? = some (.cells #[.int .i64 a0_0, .int .i64 a0_1, .int .i64 a0_2, .int .i64 a0_3] 65 (0, 0))) ∧ Aside0 (Below w.heap.size w w'))
  case atStart => exact ⟨(y195), (wrap64 (Int.tdiv (wrap64 (a0_1 + 40)) 16)), (by first | rfl | (simp; done) | (simp [*]; done)), H', ⟨Nat.le_refl _⟩, ⟨by (with_reducible repeat (first | apply Kd.R_alloc | apply Kd.R_drewN | apply Kd.R_drew)); exact HO197.out⟩, ⟨by (with_reducible repeat (first | refine blk_drewN ?_ _ | refine blk_drew ?_ | refine blk_alloc ?_ _)); exact BK194.out⟩, ⟨by repeat (first | (with_reducible first | exact HB.out | apply below_alloc | apply pw_below_drewN | apply below_drew1 | refine below_set ?_ GE194.out) | exact HB.out)⟩⟩
  case round =>
    clear H'
    try clear c1
    try clear p2
    try clear hcz5_0
    try clear hcz5_1
    try clear hcz5_2
    try clear hcz5_3
    try clear hfz5_0
    try clear hfz5_1
    try clear hfz5_2
    try clear hfz5_3
    obtain ⟨x3_1, x4_1, rfl, HA, HK1, HO_3, BK194, HB⟩ := hrel
    cases gk with
    | zero => exact absurd HA.out (by simp [impl_buckets.l0])
    | succ k1 =>
      have H := HA.out
      clear HA
      simp only [impl_buckets.l0] at H
      by_cases c6 : x4_1 ≤ (wrap64 (Int.tdiv (wrap64 ((wrap64 (a0_3 - 1)) + 40)) 16))
      · rw [if_pos c6] at H
        have c6b0 : decide (x4_1 ≤ (wrap64 (Int.tdiv (wrap64 ((wrap64 (a0_3 - 1)) + 40)) 16))) = true := decide_eq_true c6
        clear c6
        have H' := Aside0.mk H
        clear H
        have hcz7_0 : wr.cell? ⟨gb194, 0, none⟩ = some (.int .i64 a0_0) := (blk_cell BK194.out 0).trans rfl
        have hcz7_1 : wr.cell? ⟨gb194, 1, none⟩ = some (.int .i64 a0_1) := (blk_cell BK194.out 1).trans rfl
        have hcz7_2 : wr.cell? ⟨gb194, 2, none⟩ = some (.int .i64 a0_2) := (blk_cell BK194.out 2).trans rfl
        have hcz7_3 : wr.cell? ⟨gb194, 3, none⟩ = some (.int .i64 a0_3) := (blk_cell BK194.out 3).trans rfl
        have hfz7_0 := blk_frozen BK194.out 0
        have hfz7_1 := blk_frozen BK194.out 1
        have hfz7_2 := blk_frozen BK194.out 2
        have hfz7_3 := blk_frozen BK194.out 3
        go_wp2
        go_loopg [3, 5] k1 (fun kq v3 v5 w' => ∃ (x3_2 : List Int) (x5_2 : Int), v5 = .int .i64 x5_2 ∧ Aside0 (impl_buckets.l1 kq x3_2 x4_1 x5_2 a0_0 a0_1 a0_2 a0_3 = some r) ∧ Aside0 (kq ≤ k1) ∧ Aside0 (Kd.R (Kd.int .i64) 2 w' w.heap.size (fun _ => True) v3 x3_2) ∧ Aside0 (w'.heap[gb194]? = some (.cells #[.int .i64 a0_0, .int .i64 a0_1, .int .i64 a0_2, .int .i64 a0_3] 65 (0, 0))) ∧ Aside0 (Below w.heap.size w w'))
        case atStart => exact ⟨(x3_1), (wrap64 (Int.tdiv (wrap64 (a0_0 + 40)) 16)), (by first | rfl | (simp; done) | (simp [*]; done)), H', ⟨Nat.le_refl _⟩, ⟨by (with_reducible repeat (first | apply Kd.R_alloc | apply Kd.R_drewN | apply Kd.R_drew)); exact HO_3.out⟩, ⟨by (with_reducible repeat (first | refine blk_drewN ?_ _ | refine blk_drew ?_ | refine blk_alloc ?_ _)); exact BK194.out⟩, ⟨by repeat (first | (with_reducible first | exact HB.out | apply below_alloc | apply pw_below_drewN | apply below_drew1 | refine below_set ?_ GE194.out) | exact HB.out)⟩⟩
        case round =>
          clear H'
          try clear c1
          try clear p2
          try clear c6
          try clear c6b0
          try clear p6
          try clear hcz5_0
          try clear hcz5_1
          try clear hcz5_2
          try clear hcz5_3
          try clear hcz7_0
          try clear hcz7_1
          try clear hcz7_2
          try clear hcz7_3
          try clear hfz5_0
          try clear hfz5_1
          try clear hfz5_2
          try clear hfz5_3
          try clear hfz7_0
          try clear hfz7_1
          try clear hfz7_2
          try clear hfz7_3
          try clear p2
          obtain ⟨x3_2, x5_2, rfl, HA, HK2, HO_3, BK194, HB⟩ := hrel
          cases gk with
          | zero => exact absurd HA.out (by simp [impl_buckets.l1])
          | succ k2 =>
            have H := HA.out
            clear HA
            simp only [impl_buckets.l1] at H
            by_cases c8 : x5_2 ≤ (wrap64 (Int.tdiv (wrap64 ((wrap64 (a0_2 - 1)) + 40)) 16))
            · rw [if_pos c8] at H
              have c8b0 : decide (x5_2 ≤ (wrap64 (Int.tdiv (wrap64 ((wrap64 (a0_2 - 1)) + 40)) 16))) = true := decide_eq_true c8
              clear c8
              by_cases c9 : x3_2.length < 17592186044416
              · rw [if_pos c9] at H
                have LMc9 := Aside0.mk c9
                clear c9
                obtain ⟨y198, hy198⟩ : ∃ y_ : List Int, y_ = (x3_2 ++ [wrap64 ((wrap64 (5 * x4_1)) + x5_2)]) := ⟨_, rfl⟩
                replace H : (impl_buckets.l1 k2 y198 x4_1 (wrap64 (x5_2 + 1)) a0_0 a0_1 a0_2 a0_3) = some r := by first | (rw [hy198]; with_reducible exact H) | (have H2_ := (Option.bind_some _ _).symm.trans H; rw [hy198]; with_reducible exact H2_) | (have H2_ := (Option.bind_some _ _).symm.trans H; with_reducible exact H2_) | with_reducible exact H | (rw [hy198]; exact H) | exact H
                have Ny198 := Aside0.mk hy198
                clear hy198
                have H' := Aside0.mk H
                clear H
                have hcz10_0 : wr.cell? ⟨gb194, 0, none⟩ = some (.int .i64 a0_0) := (blk_cell BK194.out 0).trans rfl
                have hcz10_1 : wr.cell? ⟨gb194, 1, none⟩ = some (.int .i64 a0_1) := (blk_cell BK194.out 1).trans rfl
                have hcz10_2 : wr.cell? ⟨gb194, 2, none⟩ = some (.int .i64 a0_2) := (blk_cell BK194.out 2).trans rfl
                have hcz10_3 : wr.cell? ⟨gb194, 3, none⟩ = some (.int .i64 a0_3) := (blk_cell BK194.out 3).trans rfl
                have hfz10_0 := blk_frozen BK194.out 0
                have hfz10_1 := blk_frozen BK194.out 1
                have hfz10_2 := blk_frozen BK194.out 2
                have hfz10_3 := blk_frozen BK194.out 3
                go_wp2_with (first | ((with_reducible refine gate_builtin (b := .append) (xs := #[.tmp 33, .tmp 38]) rfl ?_); at_builtin; refine Kd.R_append (Kd.int .i64) (w0 := w) w.heap.size rfl (.tmp 33) (.tmp 38) 62 2 (.int .i64 0) 8 rfl Try.underlying62 info2 rfl (by decide) (by omega) u3 x3_2 (wrap64 ((wrap64 (5 * x4_1)) + x5_2)) [.int .i64 (wrap64 ((wrap64 (5 * x4_1)) + x5_2))] (fun _ => True) (fun _ => False) rfl rfl ?aP (fun _ hk => hk.elim) ?aF ?aO ?aB ?aS ?aL ?_; (case aP => exact rfl); (case aB => exact (by repeat (first | (with_reducible first | exact HB.out | apply below_alloc | apply pw_below_drewN | apply below_drew1 | refine below_set ?_ GE194.out) | exact HB.out))); (case aF => exact (fun _ _ => trivial)); (case aO => exact (by (with_reducible repeat (first | apply Kd.R_alloc | apply Kd.R_drewN | apply Kd.R_drew)); exact HO_3.out)); (case aS => exact (below_size (by repeat (first | (with_reducible first | exact HB.out | apply below_alloc | apply pw_below_drewN | apply below_drew1 | refine below_set ?_ GE194.out) | exact HB.out)))); (case aL => have := LMc9.out; omega); intro v199 w11 ho hb hg hat; rw [← Ny198.out] at ho; have n0_ := Aside0.mk (blk_grown (g := gb194) (o := .cells #[.int .i64 a0_0, .int .i64 a0_1, .int .i64 a0_2, .int .i64 a0_3] 65 (0, 0)) (by (with_reducible repeat (first | refine blk_drewN ?_ _ | refine blk_drew ?_ | refine blk_alloc ?_ _)); exact BK194.out) hg (Kd.R_ne HO_3.out BK194.out (by decide))); have n1_ := Aside0.mk (hb); have n2_ := Aside0.mk (ho); clear BK194; clear HB; clear HO_3; have BK194 := n0_; have HB := n1_; have HO200 := n2_; clear n0_ n1_ n2_; clear ho hb hg hat))
                go_roundg k2
                case measure => have := HK1.out; have := HK2.out; omega
                case rel => exact ⟨(y198), (wrap64 (x5_2 + 1)), (by first | rfl | (simp; done) | (simp [*]; done)), H', ⟨by have := HK1.out; have := HK2.out; omega⟩, ⟨by (with_reducible repeat (first | apply Kd.R_alloc | apply Kd.R_drewN | apply Kd.R_drew)); exact HO200.out⟩, ⟨by (with_reducible repeat (first | refine blk_drewN ?_ _ | refine blk_drew ?_ | refine blk_alloc ?_ _)); exact BK194.out⟩, ⟨by repeat (first | (with_reducible first | exact HB.out | apply below_alloc | apply pw_below_drewN | apply below_drew1 | refine below_set ?_ GE194.out) | exact HB.out)⟩⟩
              · rw [if_neg c9] at H
                exact absurd H (by simp)
            · rw [if_neg c8] at H
              have c8b0 : decide (x5_2 ≤ (wrap64 (Int.tdiv (wrap64 ((wrap64 (a0_2 - 1)) + 40)) 16))) = false := decide_eq_false c8
              clear c8
              have H' := Aside0.mk H
              clear H
              have hcz12_0 : wr.cell? ⟨gb194, 0, none⟩ = some (.int .i64 a0_0) := (blk_cell BK194.out 0).trans rfl
              have hcz12_1 : wr.cell? ⟨gb194, 1, none⟩ = some (.int .i64 a0_1) := (blk_cell BK194.out 1).trans rfl
              have hcz12_2 : wr.cell? ⟨gb194, 2, none⟩ = some (.int .i64 a0_2) := (blk_cell BK194.out 2).trans rfl
              have hcz12_3 : wr.cell? ⟨gb194, 3, none⟩ = some (.int .i64 a0_3) := (blk_cell BK194.out 3).trans rfl
              have hfz12_0 := blk_frozen BK194.out 0
              have hfz12_1 := blk_frozen BK194.out 1
              have hfz12_2 := blk_frozen BK194.out 2
              have hfz12_3 := blk_frozen BK194.out 3
              go_wp2
              go_roundg k2
              case measure => have := HK1.out; have := HK2.out; omega
              case rel => exact ⟨(x3_2), (wrap64 (x4_1 + 1)), (by first | rfl | (simp; done) | (simp [*]; done)), H', ⟨by have := HK1.out; have := HK2.out; omega⟩, ⟨by (with_reducible repeat (first | apply Kd.R_alloc | apply Kd.R_drewN | apply Kd.R_drew)); exact HO_3.out⟩, ⟨by (with_reducible repeat (first | refine blk_drewN ?_ _ | refine blk_drew ?_ | refine blk_alloc ?_ _)); exact BK194.out⟩, ⟨by repeat (first | (with_reducible first | exact HB.out | apply below_alloc | apply pw_below_drewN | apply below_drew1 | refine below_set ?_ GE194.out) | exact HB.out)⟩⟩
      · rw [if_neg c6] at H
        have c6b0 : decide (x4_1 ≤ (wrap64 (Int.tdiv (wrap64 ((wrap64 (a0_3 - 1)) + 40)) 16))) = false := decide_eq_false c6
        clear c6
        obtain rfl := Option.some.inj H
        have hcz13_0 : wr.cell? ⟨gb194, 0, none⟩ = some (.int .i64 a0_0) := (blk_cell BK194.out 0).trans rfl
        have hcz13_1 : wr.cell? ⟨gb194, 1, none⟩ = some (.int .i64 a0_1) := (blk_cell BK194.out 1).trans rfl
        have hcz13_2 : wr.cell? ⟨gb194, 2, none⟩ = some (.int .i64 a0_2) := (blk_cell BK194.out 2).trans rfl
        have hcz13_3 : wr.cell? ⟨gb194, 3, none⟩ = some (.int .i64 a0_3) := (blk_cell BK194.out 3).trans rfl
        have hfz13_0 := blk_frozen BK194.out 0
        have hfz13_1 := blk_frozen BK194.out 1
        have hfz13_2 := blk_frozen BK194.out 2
        have hfz13_3 := blk_frozen BK194.out 3
        go_wp2
        go_ret
        exact ⟨_, by first | rfl | (simp [errW_none, errW_some] <;> rfl) | (simp [*, errW_none, errW_some] <;> rfl), by (with_reducible repeat (first | apply Kd.R_alloc | apply Kd.R_drewN | apply Kd.R_drew)); exact HO_3.out, by repeat (first | (with_reducible first | exact HB.out | apply below_alloc | apply pw_below_drewN | apply below_drew1 | refine below_set ?_ GE194.out) | exact HB.out)⟩

end Go.Proofs.Yteepckjegpnffaa.P

/-! ### Px29 -/
namespace Go.Proofs.Yteepckjegpnffaa.P
open Go.RowKit Go.Proofs.YteepckjegpnffaaW.PrintWords Go.Proofs.YteepckjegpnffaaW.PrintLast Go.Proofs.YteepckjegpnffaaW.PrintMore
attribute [local go_sem] max2_int min2_int max_two min_two max_three min_three max_four min_four   -- for this text's walks alone
set_option linter.unusedVariables false
set_option linter.unusedSimpArgs false

/-! ### impl_indexOf: function 95 -/
mutual
def impl_indexOf.l0 : Nat → List (S94) → Int → Int → List (S94) → List (List Int) → Option ((List (S94)) × (List (List Int)))
  | 0, _, _, _, _, _ => none
  | k + 1, x9, x10, x11, x209000, x209001 => if x11 < x10 then (if 0 ≤ x11 then (if x11 < (x9.length : Int) then (if x209000.length < 3518437208883 then ((impl_buckets.f k ((rd_T94 x9 x11).f1.f0) ((rd_T94 x9 x11).f1.f1) ((rd_T94 x9 x11).f1.f2) ((rd_T94 x9 x11).f1.f3)).bind fun t214 => (impl_indexOf.l1 k x9 x10 x11 t214 (t214.length : Int) 0 (x209000 ++ [(⟨(rd_T94 x9 x11).f0, (⟨(rd_T94 x9 x11).f1.f0, (rd_T94 x9 x11).f1.f1, (rd_T94 x9 x11).f1.f2, (rd_T94 x9 x11).f1.f3⟩ : S65)⟩ : S94)]) x209001 ((rd_T94 x9 x11).f0) ((rd_T94 x9 x11).f1.f0) ((rd_T94 x9 x11).f1.f1) ((rd_T94 x9 x11).f1.f2) ((rd_T94 x9 x11).f1.f3))) else (none)) else (none)) else (none)) else (some (x209000, x209001))
def impl_indexOf.l1 : Nat → List (S94) → Int → Int → List Int → Int → Int → List (S94) → List (List Int) → Int → Int → Int → Int → Int → Option ((List (S94)) × (List (List Int)))
  | 0, _, _, _, _, _, _, _, _, _, _, _, _, _ => none
  | k + 1, x9, x10, x11, x23, x24, x25, x209000, x209001, x211000, x211001, x211002, x211003, x211004 => if x25 < x24 then (if 0 ≤ x25 then (if x25 < (x23.length : Int) then (if 0 ≤ (rd x23 x25) then (if (rd x23 x25) < (x209001.length : Int) then (if (rd_L3 x209001 (rd x23 x25)).length < 17592186044416 then (impl_indexOf.l1 k x9 x10 x11 x23 x24 (wrap64 (x25 + 1)) x209000 (x209001.set ((rd x23 x25) : Int).toNat ((rd_L3 x209001 (rd x23 x25)) ++ [x211000])) x211000 x211001 x211002 x211003 x211004) else (none)) else (none)) else (none)) else (none)) else (none)) else (impl_indexOf.l0 k x9 x10 (wrap64 (x11 + 1)) x209000 x209001)
end
def impl_indexOf.f (k : Nat) (l0 : List (S94)) : Option ((List (S94)) × (List (List Int))) := (impl_EmptyIndex.f).bind fun bt202 => (impl_indexOf.l0 k l0 (l0.length : Int) 0 bt202.1 bt202.2)
theorem impl_indexOf.mono_l : ∀ k, (∀ y0 y1 y2 y3 y4, LeO (impl_indexOf.l0 k y0 y1 y2 y3 y4) (impl_indexOf.l0 (k + 1) y0 y1 y2 y3 y4)) ∧ (∀ y0 y1 y2 y3 y4 y5 y6 y7 y8 y9 y10 y11 y12, LeO (impl_indexOf.l1 k y0 y1 y2 y3 y4 y5 y6 y7 y8 y9 y10 y11 y12) (impl_indexOf.l1 (k + 1) y0 y1 y2 y3 y4 y5 y6 y7 y8 y9 y10 y11 y12))
  | 0 => ⟨fun _ _ _ _ _ r h => by simp [impl_indexOf.l0] at h, fun _ _ _ _ _ _ _ _ _ _ _ _ _ r h => by simp [impl_indexOf.l1] at h⟩
  | k + 1 => by
    obtain ⟨ih0, ih1⟩ := impl_indexOf.mono_l k
    refine ⟨?_, ?_⟩
    · intro y0 y1 y2 y3 y4
      unfold impl_indexOf.l0
      repeat' first
      | (with_reducible exact ih0 _ _ _ _ _)
      | (with_reducible exact ih1 _ _ _ _ _ _ _ _ _ _ _ _ _)
      | (with_reducible exact impl_buckets.mono _ _ _ _ _)
      | (with_reducible exact LeO.refl _)
      | (with_reducible exact LeO.none _)
      | (with_reducible refine LeO.ite ?_ ?_)
      | (with_reducible refine LeO.bind ?_ (fun _ => ?_))
      | exact ih0 _ _ _ _ _
      | exact ih1 _ _ _ _ _ _ _ _ _ _ _ _ _
      | exact impl_buckets.mono _ _ _ _ _
      | exact LeO.none _
      | refine LeO.ite ?_ ?_
      | refine LeO.bind ?_ (fun _ => ?_)
    · intro y0 y1 y2 y3 y4 y5 y6 y7 y8 y9 y10 y11 y12
      unfold impl_indexOf.l1
      repeat' first
      | (with_reducible exact ih0 _ _ _ _ _)
      | (with_reducible exact ih1 _ _ _ _ _ _ _ _ _ _ _ _ _)
      | (with_reducible exact impl_buckets.mono _ _ _ _ _)
      | (with_reducible exact LeO.refl _)
      | (with_reducible exact LeO.none _)
      | (with_reducible refine LeO.ite ?_ ?_)
      | (with_reducible refine LeO.bind ?_ (fun _ => ?_))
      | exact ih0 _ _ _ _ _
      | exact ih1 _ _ _ _ _ _ _ _ _ _ _ _ _
      | exact impl_buckets.mono _ _ _ _ _
      | exact LeO.none _
      | refine LeO.ite ?_ ?_
      | refine LeO.bind ?_ (fun _ => ?_)
theorem impl_indexOf.mono : ∀ a0 k, LeO (impl_indexOf.f k a0) (impl_indexOf.f (k + 1) a0) := by
  intro a0 k
  obtain ⟨ih0, ih1⟩ := impl_indexOf.mono_l k
  unfold impl_indexOf.f
  repeat' first
      | (with_reducible exact ih0 _ _ _ _ _)
      | (with_reducible exact ih1 _ _ _ _ _ _ _ _ _ _ _ _ _)
      | (with_reducible exact impl_buckets.mono _ _ _ _ _)
      | (with_reducible exact LeO.refl _)
      | (with_reducible exact LeO.none _)
      | (with_reducible refine LeO.ite ?_ ?_)
      | (with_reducible refine LeO.bind ?_ (fun _ => ?_))
      | exact ih0 _ _ _ _ _
      | exact ih1 _ _ _ _ _ _ _ _ _ _ _ _ _
      | exact impl_buckets.mono _ _ _ _ _
      | exact LeO.none _
      | refine LeO.ite ?_ ?_
      | refine LeO.bind ?_ (fun _ => ?_)
def impl_indexOf.T9 : Bool × List (List Nat × List Nat) := (true, [([], []), ([0], [0]), ([], []), ([], []), ([3], [3]), ([], []), ([4, 5], [4, 5]), ([6], [6]), ([], []), ([8], [8]), ([9], [9]), ([7, 10], [7, 10]), ([1, 2, 0, 1, 2, 3, 4, 5, 6, 7, 8, 9, 10, 11], [1, 2]), ([12, 11, 11, 0, 1, 2, 3, 4, 5, 6, 7, 8, 9, 10, 11], [11, 12])])
def impl_indexOf.B9 : List Nat := [0, 1, 0, 0, 8, 0, 56, 120, 0, 256, 768, 2040, 4095, 8191]
theorem impl_indexOf.tab9 : rtab .any (opsOf Try.f95 9) = impl_indexOf.T9 := by kernel_rfl
theorem impl_indexOf.bits9 : waitsOk impl_indexOf.T9.2 impl_indexOf.B9 = true := by kernel_rfl
set_option maxHeartbeats 8000000 in
set_option maxRecDepth 100000 in
theorem impl_indexOf.calls (k : Nat) (A0 : Option Addr) (c0 : Nat) (l0 : List (S94)) (r1 : List (S94)) (r2 : List (List Int)) (w : World) (hr0 : Kd.C k94 w A0 l0.length l0) (hc0 : l0.length ≤ c0) (h : impl_indexOf.f k l0 = some (r1, r2)) :
    Calls Try.prog 95 #[.slice A0 l0.length c0] w fun e w' => ∃ v0_ v1_ : Value, e = .returned (.agg #[v0_, v1_]) ∧ Kd.R k94 94 w' w.heap.size (fun _ => True) v0_ r1 ∧ Kd.S (Kd.slice 2 (Kd.int .i64)) 62 w' w.heap.size (fun _ => True) v1_ r2 ∧ Below w.heap.size w w' := by
  have hu42 := Try.underlying42
  have hu94 := Try.underlying94
  have hu65 := Try.underlying65
  have HR0 := Aside0.mk hr0
  have HC0 := Aside0.mk hc0
  clear hr0 hc0
  have HB := Aside0.mk (Below.refl w.heap.size w)
  have H : ((impl_EmptyIndex.f).bind fun bt202 => (impl_indexOf.l0 k l0 (l0.length : Int) 0 bt202.1 bt202.2)) = some (r1, r2) := h
  clear h
  replace H := Option.bind_eq_some_iff.mp H
  obtain ⟨⟨t202, t205⟩, A20, H⟩ := H
  replace H : (impl_indexOf.l0 k l0 (l0.length : Int) 0 t202 t205) = some (r1, r2) := H
  have A2 := Aside0.mk A20
  clear A20
  have H' := Aside0.mk H
  clear H
  go_enter Try.func95, Try.ntmps95
  go_wp2_with (first | ((with_reducible refine gate_dst (N := 2) rfl ?_); refine box_event ?hg (N := 2) ?hd (cs := #[.slice none 0 0, .slice none 0 0]) (t := 42) ?hr ?_; (case hd => rfl); (case hg => rfl); (case hr => first | (go_simp; done) | (go_simp; rfl)); intro gb201 hg w3 hbox hb; have n0_ := Aside0.mk (below_step (by repeat (first | (with_reducible first | exact HB.out | apply below_alloc | apply pw_below_drewN | apply below_drew1) | exact HB.out)) hb); have n1_ := Aside0.mk (hbox); have n2_ := Aside0.mk ((by rw [hg]; exact (below_size (by repeat (first | (with_reducible first | exact HB.out | apply below_alloc | apply pw_below_drewN | apply below_drew1) | exact HB.out))) : w.heap.size ≤ gb201)); have n3_ := Aside0.mk ((by rw [hg]; exact (below_size (by repeat (first | (with_reducible first | exact HB.out | apply below_alloc | apply pw_below_drewN | apply below_drew1) | exact HB.out))) : w.heap.size ≤ gb201)); clear HB; have HB := n0_; have BK201 := n1_; have GW201 := n2_; have GE201 := n3_; clear n0_ n1_ n2_ n3_; clear hb hbox hg) | ((with_reducible refine gate_callee (f := 22) rfl ?_); refine goesL_ (some 8) rfl rfl Try.func22 (by kernel_rfl) rfl #[] rfl (by (try simp only [List.map_toArray, List.map_cons, List.map_nil]); first | done | rfl | (simp only [List.length_drop, List.length_take]; rfl)) ?_; (with_reducible refine (impl_EmptyIndex.calls  t202 t205 _ A2.out).mono ?_); rintro e w4 ⟨v203, v206, rfl, ho0, ho1, hb⟩; refine ⟨_, rfl, ?_⟩; have n0_ := Aside0.mk (Kd.R_lower ho0 (below_size (by repeat (first | (with_reducible first | exact HB.out | apply below_alloc | apply pw_below_drewN | apply below_drew1 | refine below_set ?_ GE201.out) | exact HB.out)))); have n1_ := Aside0.mk (Kd.S_lower ho1 (below_size (by repeat (first | (with_reducible first | exact HB.out | apply below_alloc | apply pw_below_drewN | apply below_drew1 | refine below_set ?_ GE201.out) | exact HB.out)))); have n2_ := Aside0.mk (blk_below (g := gb201) (o := .cells #[.slice none 0 0, .slice none 0 0] 42 (0, 0)) (by (with_reducible repeat (first | refine blk_drewN ?_ _ | refine blk_drew ?_ | refine blk_alloc ?_ _)); exact BK201.out) hb); have n3_ := Aside0.mk (below_step (by repeat (first | (with_reducible first | exact HB.out | apply below_alloc | apply pw_below_drewN | apply below_drew1 | refine below_set ?_ GE201.out) | exact HB.out)) hb); clear BK201; clear HB; have HO204 := n0_; have HO207 := n1_; have BK201 := n2_; have HB := n3_; clear n0_ n1_ n2_ n3_; (try clear hb); (try clear hb2); (try clear hk); (try clear hi); (try clear ho0); (try clear ho1)) | ((with_reducible refine gate_dst (N := 3) rfl ?_); refine box_event ?hg (N := 3) ?hd (cs := #[.slice none 0 0, .slice none 0 0]) (t := 42) ?hr ?_; (case hd => rfl); (case hg => rfl); (case hr => first | (go_simp; done) | (go_simp; rfl)); intro gb208 hg w5 hbox hb; have n0_ := Aside0.mk (Kd.R_below (by (with_reducible repeat (first | apply Kd.R_alloc | apply Kd.R_drewN | apply Kd.R_drew)); exact HO204.out) hb); have n1_ := Aside0.mk (Kd.S_below (by (with_reducible repeat (first | apply Kd.S_alloc | apply Kd.S_drewN | apply Kd.S_drew)); exact HO207.out) hb); have n2_ := Aside0.mk (blk_below (g := gb201) (o := .cells #[.slice none 0 0, .slice none 0 0] 42 (0, 0)) (by (with_reducible repeat (first | refine blk_drewN ?_ _ | refine blk_drew ?_ | refine blk_alloc ?_ _)); exact BK201.out) hb); have n3_ := Aside0.mk (below_step (by repeat (first | (with_reducible first | exact HB.out | apply below_alloc | apply pw_below_drewN | apply below_drew1 | refine below_set ?_ GE201.out) | exact HB.out)) hb); have n4_ := Aside0.mk (hbox); have n5_ := Aside0.mk ((by rw [hg]; exact (below_size (by repeat (first | (with_reducible first | exact HB.out | apply below_alloc | apply pw_below_drewN | apply below_drew1 | refine below_set ?_ GE201.out) | exact HB.out))) : w.heap.size ≤ gb208)); have n6_ := Aside0.mk ((by rw [hg]; exact (below_size (by repeat (first | (with_reducible first | exact HB.out | apply below_alloc | apply pw_below_drewN | apply below_drew1 | refine below_set ?_ GE201.out) | exact HB.out))) : w.heap.size ≤ gb208)); have n7_ := Aside0.mk ((by rw [hg]; exact Nat.ne_of_lt (blk_lt (g := gb201) (o := .cells #[.slice none 0 0, .slice none 0 0] 42 (0, 0)) (by (with_reducible repeat (first | refine blk_drewN ?_ _ | refine blk_drew ?_ | refine blk_alloc ?_ _)); exact BK201.out)) : gb201 ≠ gb208)); have n8_ := Aside0.mk ((by rw [hg]; exact Nat.ne_of_gt (blk_lt (g := gb201) (o := .cells #[.slice none 0 0, .slice none 0 0] 42 (0, 0)) (by (with_reducible repeat (first | refine blk_drewN ?_ _ | refine blk_drew ?_ | refine blk_alloc ?_ _)); exact BK201.out)) : gb208 ≠ gb201)); clear HO204; clear HO207; clear BK201; clear HB; have HO204 := n0_; have HO207 := n1_; have BK201 := n2_; have HB := n3_; have BK208 := n4_; have GW208 := n5_; have GE208 := n6_; have NB201_208 := n7_; have NB208_201 := n8_; clear n0_ n1_ n2_ n3_ n4_ n5_ n6_ n7_ n8_; clear hb hbox hg; obtain ⟨Ao6, co6, eo6⟩ := Kd.R_slice HO204.out; subst eo6; have hnb7 := NB208_201.out; have hnc7 := NB201_208.out; have hcz8_0 : w5.cell? ⟨gb208, 0, none⟩ = some (.slice none 0 0) := (blk_cell BK208.out 0).trans rfl; have hcz8_1 : w5.cell? ⟨gb208, 1, none⟩ = some (.slice none 0 0) := (blk_cell BK208.out 1).trans rfl; have hfz8_0 := blk_frozen BK208.out 0; have hfz8_1 := blk_frozen BK208.out 1; obtain ⟨Ao9, co9, eo9⟩ := Kd.S_slice HO207.out; subst eo9))
  go_loopg [11] k (fun kq v11 w' => ∃ (x11_1 : Int) (x209000_1 : List (S94)) (x209001_1 : List (List Int)) (u209000 : Value) (u209001 : Value), v11 = .int .i64 x11_1 ∧ Aside0 (impl_indexOf.l0 kq l0 (l0.length : Int) x11_1 x209000_1 x209001_1 = some (r1, r2)) ∧ Aside0 (kq ≤ k) ∧ Aside0 (Kd.R k94 94 w' w.heap.size (fun _ => True) u209000 x209000_1) ∧ Aside0 (Kd.S (Kd.slice 2 (Kd.int .i64)) 62 w' w.heap.size (fun _ => True) u209001 x209001_1) ∧ Aside0 (w'.heap[gb201]? = some (.cells #[(.slice none 0 0), (.slice none 0 0)] 42 (0, 0))) ∧ Aside0 (w'.heap[gb208]? = some (.cells #[u209000, u209001] 42 (0, 0))) ∧ Aside0 (Below w.heap.size w w'))
  case atStart => exact ⟨(0), (t202), (t205), (.slice Ao6 t202.length co6), (.slice Ao9 t205.length co9), (by first | rfl | (simp; done) | (simp [*]; done)), H', ⟨Nat.le_refl _⟩, ⟨by (with_reducible repeat (first | apply Kd.R_alloc | apply Kd.R_drewN | apply Kd.R_drew)); exact Kd.R_mono (Kd.R_far (p := ⟨gb208, 1, none⟩) (Kd.R_far (p := ⟨gb208, 0, none⟩) (Kd.R_types HO204.out BK208.out (by decide)) (fun _ hk => hk.2) (.slice Ao6 t202.length co6)) (fun _ hk => hk.2) (.slice Ao9 t205.length co9)) (fun _ hk => trivial)⟩, ⟨by (with_reducible repeat (first | apply Kd.S_alloc | apply Kd.S_drewN | apply Kd.S_drew)); exact Kd.S_mono (Kd.S_far (p := ⟨gb208, 1, none⟩) (Kd.S_far (p := ⟨gb208, 0, none⟩) (Kd.S_types HO207.out BK208.out (by decide)) (fun _ hk => hk.2) (.slice Ao6 t202.length co6)) (fun _ hk => hk.2) (.slice Ao9 t205.length co9)) (fun _ hk => trivial)⟩, ⟨by (with_reducible repeat (first | refine blk_drewN ?_ _ | refine blk_drew ?_ | refine blk_alloc ?_ _)); refine blk_far ?_ NB201_208.out _; (with_reducible repeat (first | refine blk_drewN ?_ _ | refine blk_drew ?_ | refine blk_alloc ?_ _)); refine blk_far ?_ NB201_208.out _; (with_reducible repeat (first | refine blk_drewN ?_ _ | refine blk_drew ?_ | refine blk_alloc ?_ _)); exact BK201.out⟩, ⟨by (with_reducible repeat (first | refine blk_drewN ?_ _ | refine blk_drew ?_ | refine blk_alloc ?_ _)); refine blk_put (cs := #[.slice Ao6 t202.length co6, .slice none 0 0]) ?_ 1 _ rfl; (with_reducible repeat (first | refine blk_drewN ?_ _ | refine blk_drew ?_ | refine blk_alloc ?_ _)); refine blk_put (cs := #[.slice none 0 0, .slice none 0 0]) ?_ 0 _ rfl; (with_reducible repeat (first | refine blk_drewN ?_ _ | refine blk_drew ?_ | refine blk_alloc ?_ _)); exact BK208.out⟩, ⟨by repeat (first | (with_reducible first | exact HB.out | apply below_alloc | apply pw_below_drewN | apply below_drew1 | refine below_set ?_ GE201.out | refine below_set ?_ GE208.out) | exact HB.out)⟩⟩
  case round =>
    clear H'
    try clear c2
    try clear p2
    try clear c7
    try clear c9
    try clear hcz8_0
    try clear hcz8_1
    try clear hfz8_0
    try clear hfz8_1
    obtain ⟨x11_1, x209000_1, x209001_1, u209000, u209001, rfl, HA, HK1, HO_209000, HO_209001, BK201, BK208, HB⟩ := hrel
    cases gk with
    | zero => exact absurd HA.out (by simp [impl_indexOf.l0])
    | succ k1 =>
      have H := HA.out
      clear HA
      simp only [impl_indexOf.l0] at H
      by_cases c10 : x11_1 < (l0.length : Int)
      · rw [if_pos c10] at H
        have c10b0 : decide (x11_1 < (l0.length : Int)) = true := decide_eq_true c10
        clear c10
        by_cases c11 : 0 ≤ x11_1
        · rw [if_pos c11] at H
          have c11b0 : decide (0 ≤ x11_1) = true := decide_eq_true c11
          clear c11
          by_cases c12 : x11_1 < (l0.length : Int)
          · rw [if_pos c12] at H
            have c12b0 : decide (x11_1 < (l0.length : Int)) = true := decide_eq_true c12
            clear c12
            by_cases c13 : x209000_1.length < 3518437208883
            · rw [if_pos c13] at H
              have LMc13 := Aside0.mk c13
              clear c13
              obtain ⟨y211, hy211⟩ : ∃ y_ : List (S94), y_ = (x209000_1 ++ [(⟨(rd_T94 l0 x11_1).f0, (⟨(rd_T94 l0 x11_1).f1.f0, (rd_T94 l0 x11_1).f1.f1, (rd_T94 l0 x11_1).f1.f2, (rd_T94 l0 x11_1).f1.f3⟩ : S65)⟩ : S94)]) := ⟨_, rfl⟩
              replace H : ((impl_buckets.f k1 ((rd_T94 l0 x11_1).f1.f0) ((rd_T94 l0 x11_1).f1.f1) ((rd_T94 l0 x11_1).f1.f2) ((rd_T94 l0 x11_1).f1.f3)).bind fun t214 => (impl_indexOf.l1 k1 l0 (l0.length : Int) x11_1 t214 (t214.length : Int) 0 y211 x209001_1 ((rd_T94 l0 x11_1).f0) ((rd_T94 l0 x11_1).f1.f0) ((rd_T94 l0 x11_1).f1.f1) ((rd_T94 l0 x11_1).f1.f2) ((rd_T94 l0 x11_1).f1.f3))) = some (r1, r2) := by first | (rw [hy211]; with_reducible exact H) | (have H2_ := (Option.bind_some _ _).symm.trans H; rw [hy211]; with_reducible exact H2_) | (have H2_ := (Option.bind_some _ _).symm.trans H; with_reducible exact H2_) | with_reducible exact H | (rw [hy211]; exact H) | exact H
              have Ny211 := Aside0.mk hy211
              clear hy211
              replace H := Option.bind_eq_some_iff.mp H
              obtain ⟨t214, A140, H⟩ := H
              replace H : (impl_indexOf.l1 k1 l0 (l0.length : Int) x11_1 t214 (t214.length : Int) 0 y211 x209001_1 ((rd_T94 l0 x11_1).f0) ((rd_T94 l0 x11_1).f1.f0) ((rd_T94 l0 x11_1).f1.f1) ((rd_T94 l0 x11_1).f1.f2) ((rd_T94 l0 x11_1).f1.f3)) = some (r1, r2) := H
              have A14 := Aside0.mk A140
              clear A140
              have H' := Aside0.mk H
              clear H
              have p209 : 0 ≤ (x11_1 : Int) := of_decide_eq_true (by first | (with_reducible assumption) | assumption)
              have q209 : x11_1 < (l0.length : Int) := of_decide_eq_true (by first | (with_reducible assumption) | assumption)
              obtain ⟨ad209, e209, hx209_0, hx209_1, hx209_2, hx209_3, hx209_4⟩ := at_T94 HR0.out x11_1 p209 q209
              cases e209
              replace hx209_0 := (HB.out.cell (World.block_lt_of_cell? _ _ hx209_0)).trans hx209_0
              replace hx209_1 := (HB.out.cell (World.block_lt_of_cell? _ _ hx209_1)).trans hx209_1
              replace hx209_2 := (HB.out.cell (World.block_lt_of_cell? _ _ hx209_2)).trans hx209_2
              replace hx209_3 := (HB.out.cell (World.block_lt_of_cell? _ _ hx209_3)).trans hx209_3
              replace hx209_4 := (HB.out.cell (World.block_lt_of_cell? _ _ hx209_4)).trans hx209_4
              replace p209 := eq_true p209
              replace q209 := eq_true q209
              go_wp2_with (first | ((with_reducible refine gate_dst (N := 5) rfl ?_); refine box_event ?hg (N := 5) ?hd (cs := #[.int .i64 0, .int .i64 0, .int .i64 0, .int .i64 0, .int .i64 0]) (t := 94) ?hr ?_; (case hd => rfl); (case hg => rfl); (case hr => first | (go_simp; done) | (go_simp; rfl)); intro gb210 hg w15 hbox hb; have n0_ := Aside0.mk (Kd.R_below (Kd.R_elderB (by (with_reducible repeat (first | apply Kd.R_alloc | apply Kd.R_drewN | apply Kd.R_drew)); exact HO_209000.out) gb210 (Nat.le_of_eq hg.symm)) hb); have n1_ := Aside0.mk (Kd.S_below (by (with_reducible repeat (first | apply Kd.S_alloc | apply Kd.S_drewN | apply Kd.S_drew)); exact HO_209001.out) hb); have n2_ := Aside0.mk (blk_below (g := gb201) (o := .cells #[.slice none 0 0, .slice none 0 0] 42 (0, 0)) (by (with_reducible repeat (first | refine blk_drewN ?_ _ | refine blk_drew ?_ | refine blk_alloc ?_ _)); exact BK201.out) hb); have n3_ := Aside0.mk (blk_below (g := gb208) (o := .cells #[u209000, u209001] 42 (0, 0)) (by (with_reducible repeat (first | refine blk_drewN ?_ _ | refine blk_drew ?_ | refine blk_alloc ?_ _)); exact BK208.out) hb); have n4_ := Aside0.mk (below_step (by repeat (first | (with_reducible first | exact HB.out | apply below_alloc | apply pw_below_drewN | apply below_drew1 | refine below_set ?_ GE201.out | refine below_set ?_ GE208.out) | exact HB.out)) hb); have n5_ := Aside0.mk (hbox); have n6_ := Aside0.mk ((by rw [hg]; exact (below_size (by repeat (first | (with_reducible first | exact HB.out | apply below_alloc | apply pw_below_drewN | apply below_drew1 | refine below_set ?_ GE201.out | refine below_set ?_ GE208.out) | exact HB.out))) : w.heap.size ≤ gb210)); have n7_ := Aside0.mk ((by rw [hg]; exact (below_size (by repeat (first | (with_reducible first | exact HB.out | apply below_alloc | apply pw_below_drewN | apply below_drew1 | refine below_set ?_ GE201.out | refine below_set ?_ GE208.out) | exact HB.out))) : w.heap.size ≤ gb210)); have n8_ := Aside0.mk ((by rw [hg]; exact Nat.ne_of_lt (blk_lt (g := gb201) (o := .cells #[.slice none 0 0, .slice none 0 0] 42 (0, 0)) (by (with_reducible repeat (first | refine blk_drewN ?_ _ | refine blk_drew ?_ | refine blk_alloc ?_ _)); exact BK201.out)) : gb201 ≠ gb210)); have n9_ := Aside0.mk ((by rw [hg]; exact Nat.ne_of_gt (blk_lt (g := gb201) (o := .cells #[.slice none 0 0, .slice none 0 0] 42 (0, 0)) (by (with_reducible repeat (first | refine blk_drewN ?_ _ | refine blk_drew ?_ | refine blk_alloc ?_ _)); exact BK201.out)) : gb210 ≠ gb201)); have n10_ := Aside0.mk ((by rw [hg]; exact Nat.ne_of_lt (blk_lt (g := gb208) (o := .cells #[u209000, u209001] 42 (0, 0)) (by (with_reducible repeat (first | refine blk_drewN ?_ _ | refine blk_drew ?_ | refine blk_alloc ?_ _)); exact BK208.out)) : gb208 ≠ gb210)); have n11_ := Aside0.mk ((by rw [hg]; exact Nat.ne_of_gt (blk_lt (g := gb208) (o := .cells #[u209000, u209001] 42 (0, 0)) (by (with_reducible repeat (first | refine blk_drewN ?_ _ | refine blk_drew ?_ | refine blk_alloc ?_ _)); exact BK208.out)) : gb210 ≠ gb208)); clear HO_209000; clear HO_209001; clear BK201; clear BK208; clear HB; have HO_209000 := n0_; have HO_209001 := n1_; have BK201 := n2_; have BK208 := n3_; have HB := n4_; have BK210 := n5_; have GW210 := n6_; have GE210 := n7_; have NB201_210 := n8_; have NB210_201 := n9_; have NB208_210 := n10_; have NB210_208 := n11_; clear n0_ n1_ n2_ n3_ n4_ n5_ n6_ n7_ n8_ n9_ n10_ n11_; clear hb hbox hg; have hnb16 := NB210_201.out; have hnc16 := NB201_210.out; have hnb17 := NB210_208.out; have hnc17 := NB208_210.out; have hcz18_0 : w15.cell? ⟨gb210, 0, none⟩ = some (.int .i64 0) := (blk_cell BK210.out 0).trans rfl; have hcz18_1 : w15.cell? ⟨gb210, 1, none⟩ = some (.int .i64 0) := (blk_cell BK210.out 1).trans rfl; have hcz18_2 : w15.cell? ⟨gb210, 2, none⟩ = some (.int .i64 0) := (blk_cell BK210.out 2).trans rfl; have hcz18_3 : w15.cell? ⟨gb210, 3, none⟩ = some (.int .i64 0) := (blk_cell BK210.out 3).trans rfl; have hcz18_4 : w15.cell? ⟨gb210, 4, none⟩ = some (.int .i64 0) := (blk_cell BK210.out 4).trans rfl; have hfz18_0 := blk_frozen BK210.out 0; have hfz18_1 := blk_frozen BK210.out 1; have hfz18_2 := blk_frozen BK210.out 2; have hfz18_3 := blk_frozen BK210.out 3; have hfz18_4 := blk_frozen BK210.out 4; have hnb19 := NB208_201.out; have hnc19 := NB201_208.out; have hcz20_0 : w15.cell? ⟨gb208, 0, none⟩ = some (u209000) := (blk_cell BK208.out 0).trans rfl; have hcz20_1 : w15.cell? ⟨gb208, 1, none⟩ = some (u209001) := (blk_cell BK208.out 1).trans rfl; have hfz20_0 := blk_frozen BK208.out 0; have hfz20_1 := blk_frozen BK208.out 1) | ((with_reducible refine gate_builtin (b := .append) (xs := #[.tmp 16, .tmp 18]) rfl ?_); at_builtin; refine Kd.R_append k94 (w0 := w) w.heap.size rfl (.tmp 16) (.tmp 18) 39 94 (.agg #[(.int .i64 0), (.int .i64 0), (.int .i64 0), (.int .i64 0), (.int .i64 0)]) 40 rfl Try.underlying39 info94 rfl (by decide) (by omega) u209000 x209000_1 (⟨(rd_T94 l0 x11_1).f0, (⟨(rd_T94 l0 x11_1).f1.f0, (rd_T94 l0 x11_1).f1.f1, (rd_T94 l0 x11_1).f1.f2, (rd_T94 l0 x11_1).f1.f3⟩ : S65)⟩ : S94) [.int .i64 ((rd_T94 l0 x11_1).f0), .int .i64 ((rd_T94 l0 x11_1).f1.f0), .int .i64 ((rd_T94 l0 x11_1).f1.f1), .int .i64 ((rd_T94 l0 x11_1).f1.f2), .int .i64 ((rd_T94 l0 x11_1).f1.f3)] (fun k_ => k_ ≠ gb210) (fun _ => False) rfl (by first | (go_simp; done) | (go_simp; rfl)) ?aP (fun _ hk => hk.elim) ?aF ?aO ?aB ?aS ?aL ?_; (case aP => exact k94_mkM _ _ _ (⟨(rd_T94 l0 x11_1).f0, (⟨(rd_T94 l0 x11_1).f1.f0, (rd_T94 l0 x11_1).f1.f1, (rd_T94 l0 x11_1).f1.f2, (rd_T94 l0 x11_1).f1.f3⟩ : S65)⟩ : S94)); (case aB => exact (by repeat (first | (with_reducible first | exact HB.out | apply below_alloc | apply pw_below_drewN | apply below_drew1 | refine below_set ?_ GE201.out | refine below_set ?_ GE208.out | refine below_set ?_ GE210.out) | exact HB.out))); (case aF => exact (fun k_ hk => Kd.freshB (g := gb210) (o := .cells #[.int .i64 ((rd_T94 l0 x11_1).f0), .int .i64 ((rd_T94 l0 x11_1).f1.f0), .int .i64 ((rd_T94 l0 x11_1).f1.f1), .int .i64 ((rd_T94 l0 x11_1).f1.f2), .int .i64 ((rd_T94 l0 x11_1).f1.f3)] 94 (0, 0)) (by (with_reducible repeat (first | refine blk_drewN ?_ _ | refine blk_drew ?_ | refine blk_alloc ?_ _)); refine blk_put (cs := #[.int .i64 ((rd_T94 l0 x11_1).f0), .int .i64 ((rd_T94 l0 x11_1).f1.f0), .int .i64 ((rd_T94 l0 x11_1).f1.f1), .int .i64 ((rd_T94 l0 x11_1).f1.f2), .int .i64 0]) ?_ 4 _ rfl; (with_reducible repeat (first | refine blk_drewN ?_ _ | refine blk_drew ?_ | refine blk_alloc ?_ _)); refine blk_put (cs := #[.int .i64 ((rd_T94 l0 x11_1).f0), .int .i64 ((rd_T94 l0 x11_1).f1.f0), .int .i64 ((rd_T94 l0 x11_1).f1.f1), .int .i64 0, .int .i64 0]) ?_ 3 _ rfl; (with_reducible repeat (first | refine blk_drewN ?_ _ | refine blk_drew ?_ | refine blk_alloc ?_ _)); refine blk_put (cs := #[.int .i64 ((rd_T94 l0 x11_1).f0), .int .i64 ((rd_T94 l0 x11_1).f1.f0), .int .i64 0, .int .i64 0, .int .i64 0]) ?_ 2 _ rfl; (with_reducible repeat (first | refine blk_drewN ?_ _ | refine blk_drew ?_ | refine blk_alloc ?_ _)); refine blk_put (cs := #[.int .i64 ((rd_T94 l0 x11_1).f0), .int .i64 0, .int .i64 0, .int .i64 0, .int .i64 0]) ?_ 1 _ rfl; (with_reducible repeat (first | refine blk_drewN ?_ _ | refine blk_drew ?_ | refine blk_alloc ?_ _)); refine blk_put (cs := #[.int .i64 0, .int .i64 0, .int .i64 0, .int .i64 0, .int .i64 0]) ?_ 0 _ rfl; (with_reducible repeat (first | refine blk_drewN ?_ _ | refine blk_drew ?_ | refine blk_alloc ?_ _)); exact BK210.out) k_ hk)); (case aO => exact (by (with_reducible repeat (first | apply Kd.R_alloc | apply Kd.R_drewN | apply Kd.R_drew)); exact Kd.R_mono (Kd.R_far (p := ⟨gb210, 4, none⟩) (Kd.R_far (p := ⟨gb210, 3, none⟩) (Kd.R_far (p := ⟨gb210, 2, none⟩) (Kd.R_far (p := ⟨gb210, 1, none⟩) (Kd.R_far (p := ⟨gb210, 0, none⟩) (Kd.R_mono HO_209000.out (fun k_ hk => (⟨hk, hk.2⟩ : _ ∧ k_ ≠ gb210))) (fun _ hk => hk.2) (.int .i64 ((rd_T94 l0 x11_1).f0))) (fun _ hk => hk.2) (.int .i64 ((rd_T94 l0 x11_1).f1.f0))) (fun _ hk => hk.2) (.int .i64 ((rd_T94 l0 x11_1).f1.f1))) (fun _ hk => hk.2) (.int .i64 ((rd_T94 l0 x11_1).f1.f2))) (fun _ hk => hk.2) (.int .i64 ((rd_T94 l0 x11_1).f1.f3))) (fun _ hk => hk.1.2))); (case aS => exact (below_size (by repeat (first | (with_reducible first | exact HB.out | apply below_alloc | apply pw_below_drewN | apply below_drew1 | refine below_set ?_ GE201.out | refine below_set ?_ GE208.out | refine below_set ?_ GE210.out) | exact HB.out)))); (case aL => have := LMc13.out; omega); intro v212 w21 ho hb hg hat; rw [← Ny211.out] at ho; have n0_ := Aside0.mk (Kd.S_over' (by (with_reducible repeat (first | apply Kd.S_alloc | apply Kd.S_drewN | apply Kd.S_drew)); exact (Kd.S_mono (Kd.S_far (p := ⟨gb210, 4, none⟩) (Kd.S_far (p := ⟨gb210, 3, none⟩) (Kd.S_far (p := ⟨gb210, 2, none⟩) (Kd.S_far (p := ⟨gb210, 1, none⟩) (Kd.S_far (p := ⟨gb210, 0, none⟩) (Kd.S_types HO_209001.out BK210.out (by decide)) (fun _ hk => hk.2) (.int .i64 ((rd_T94 l0 x11_1).f0))) (fun _ hk => hk.2) (.int .i64 ((rd_T94 l0 x11_1).f1.f0))) (fun _ hk => hk.2) (.int .i64 ((rd_T94 l0 x11_1).f1.f1))) (fun _ hk => hk.2) (.int .i64 ((rd_T94 l0 x11_1).f1.f2))) (fun _ hk => hk.2) (.int .i64 ((rd_T94 l0 x11_1).f1.f3))) (fun _ h_ => h_.1))) (Kd.R_typed (by (with_reducible repeat (first | apply Kd.R_alloc | apply Kd.R_drewN | apply Kd.R_drew)); exact (Kd.R_mono (Kd.R_far (p := ⟨gb210, 4, none⟩) (Kd.R_far (p := ⟨gb210, 3, none⟩) (Kd.R_far (p := ⟨gb210, 2, none⟩) (Kd.R_far (p := ⟨gb210, 1, none⟩) (Kd.R_far (p := ⟨gb210, 0, none⟩) (Kd.R_mono HO_209000.out (fun k_ hk => (⟨hk, hk.2⟩ : _ ∧ k_ ≠ gb210))) (fun _ hk => hk.2) (.int .i64 ((rd_T94 l0 x11_1).f0))) (fun _ hk => hk.2) (.int .i64 ((rd_T94 l0 x11_1).f1.f0))) (fun _ hk => hk.2) (.int .i64 ((rd_T94 l0 x11_1).f1.f1))) (fun _ hk => hk.2) (.int .i64 ((rd_T94 l0 x11_1).f1.f2))) (fun _ hk => hk.2) (.int .i64 ((rd_T94 l0 x11_1).f1.f3))) (fun _ h_ => h_.1)))) (by decide) hg); have n1_ := Aside0.mk (blk_grown (g := gb201) (o := .cells #[.slice none 0 0, .slice none 0 0] 42 (0, 0)) (by (with_reducible repeat (first | refine blk_drewN ?_ _ | refine blk_drew ?_ | refine blk_alloc ?_ _)); refine blk_far ?_ NB201_210.out _; (with_reducible repeat (first | refine blk_drewN ?_ _ | refine blk_drew ?_ | refine blk_alloc ?_ _)); refine blk_far ?_ NB201_210.out _; (with_reducible repeat (first | refine blk_drewN ?_ _ | refine blk_drew ?_ | refine blk_alloc ?_ _)); refine blk_far ?_ NB201_210.out _; (with_reducible repeat (first | refine blk_drewN ?_ _ | refine blk_drew ?_ | refine blk_alloc ?_ _)); refine blk_far ?_ NB201_210.out _; (with_reducible repeat (first | refine blk_drewN ?_ _ | refine blk_drew ?_ | refine blk_alloc ?_ _)); refine blk_far ?_ NB201_210.out _; (with_reducible repeat (first | refine blk_drewN ?_ _ | refine blk_drew ?_ | refine blk_alloc ?_ _)); exact BK201.out) hg (Kd.R_ne HO_209000.out BK201.out (by decide))); have n2_ := Aside0.mk (blk_grown (g := gb208) (o := .cells #[u209000, u209001] 42 (0, 0)) (by (with_reducible repeat (first | refine blk_drewN ?_ _ | refine blk_drew ?_ | refine blk_alloc ?_ _)); refine blk_far ?_ NB208_210.out _; (with_reducible repeat (first | refine blk_drewN ?_ _ | refine blk_drew ?_ | refine blk_alloc ?_ _)); refine blk_far ?_ NB208_210.out _; (with_reducible repeat (first | refine blk_drewN ?_ _ | refine blk_drew ?_ | refine blk_alloc ?_ _)); refine blk_far ?_ NB208_210.out _; (with_reducible repeat (first | refine blk_drewN ?_ _ | refine blk_drew ?_ | refine blk_alloc ?_ _)); refine blk_far ?_ NB208_210.out _; (with_reducible repeat (first | refine blk_drewN ?_ _ | refine blk_drew ?_ | refine blk_alloc ?_ _)); refine blk_far ?_ NB208_210.out _; (with_reducible repeat (first | refine blk_drewN ?_ _ | refine blk_drew ?_ | refine blk_alloc ?_ _)); exact BK208.out) hg (Kd.R_ne HO_209000.out BK208.out (by decide))); have n3_ := Aside0.mk (blk_grown (g := gb210) (o := .cells #[.int .i64 ((rd_T94 l0 x11_1).f0), .int .i64 ((rd_T94 l0 x11_1).f1.f0), .int .i64 ((rd_T94 l0 x11_1).f1.f1), .int .i64 ((rd_T94 l0 x11_1).f1.f2), .int .i64 ((rd_T94 l0 x11_1).f1.f3)] 94 (0, 0)) (by (with_reducible repeat (first | refine blk_drewN ?_ _ | refine blk_drew ?_ | refine blk_alloc ?_ _)); refine blk_put (cs := #[.int .i64 ((rd_T94 l0 x11_1).f0), .int .i64 ((rd_T94 l0 x11_1).f1.f0), .int .i64 ((rd_T94 l0 x11_1).f1.f1), .int .i64 ((rd_T94 l0 x11_1).f1.f2), .int .i64 0]) ?_ 4 _ rfl; (with_reducible repeat (first | refine blk_drewN ?_ _ | refine blk_drew ?_ | refine blk_alloc ?_ _)); refine blk_put (cs := #[.int .i64 ((rd_T94 l0 x11_1).f0), .int .i64 ((rd_T94 l0 x11_1).f1.f0), .int .i64 ((rd_T94 l0 x11_1).f1.f1), .int .i64 0, .int .i64 0]) ?_ 3 _ rfl; (with_reducible repeat (first | refine blk_drewN ?_ _ | refine blk_drew ?_ | refine blk_alloc ?_ _)); refine blk_put (cs := #[.int .i64 ((rd_T94 l0 x11_1).f0), .int .i64 ((rd_T94 l0 x11_1).f1.f0), .int .i64 0, .int .i64 0, .int .i64 0]) ?_ 2 _ rfl; (with_reducible repeat (first | refine blk_drewN ?_ _ | refine blk_drew ?_ | refine blk_alloc ?_ _)); refine blk_put (cs := #[.int .i64 ((rd_T94 l0 x11_1).f0), .int .i64 0, .int .i64 0, .int .i64 0, .int .i64 0]) ?_ 1 _ rfl; (with_reducible repeat (first | refine blk_drewN ?_ _ | refine blk_drew ?_ | refine blk_alloc ?_ _)); refine blk_put (cs := #[.int .i64 0, .int .i64 0, .int .i64 0, .int .i64 0, .int .i64 0]) ?_ 0 _ rfl; (with_reducible repeat (first | refine blk_drewN ?_ _ | refine blk_drew ?_ | refine blk_alloc ?_ _)); exact BK210.out) hg (Kd.R_away HO_209000.out (fun _ hk => hk.2))); have n4_ := Aside0.mk (hb); have n5_ := Aside0.mk (ho); clear HO_209001; clear BK201; clear BK208; clear BK210; clear HB; clear HO_209000; have HO_209001 := n0_; have BK201 := n1_; have BK208 := n2_; have BK210 := n3_; have HB := n4_; have HO213 := n5_; clear n0_ n1_ n2_ n3_ n4_ n5_; clear ho hb hg hat; obtain ⟨Ao22, co22, eo22⟩ := Kd.R_slice HO213.out; subst eo22; have hcz23_0 : w21.cell? ⟨gb208, 0, none⟩ = some (u209000) := (blk_cell BK208.out 0).trans rfl; have hcz23_1 : w21.cell? ⟨gb208, 1, none⟩ = some (u209001) := (blk_cell BK208.out 1).trans rfl; have hfz23_0 := blk_frozen BK208.out 0; have hfz23_1 := blk_frozen BK208.out 1; have hcz24_0 : w21.cell? ⟨gb210, 0, none⟩ = some (.int .i64 ((rd_T94 l0 x11_1).f0)) := (blk_cell BK210.out 0).trans rfl; have hcz24_1 : w21.cell? ⟨gb210, 1, none⟩ = some (.int .i64 ((rd_T94 l0 x11_1).f1.f0)) := (blk_cell BK210.out 1).trans rfl; have hcz24_2 : w21.cell? ⟨gb210, 2, none⟩ = some (.int .i64 ((rd_T94 l0 x11_1).f1.f1)) := (blk_cell BK210.out 2).trans rfl; have hcz24_3 : w21.cell? ⟨gb210, 3, none⟩ = some (.int .i64 ((rd_T94 l0 x11_1).f1.f2)) := (blk_cell BK210.out 3).trans rfl; have hcz24_4 : w21.cell? ⟨gb210, 4, none⟩ = some (.int .i64 ((rd_T94 l0 x11_1).f1.f3)) := (blk_cell BK210.out 4).trans rfl; have hfz24_0 := blk_frozen BK210.out 0; have hfz24_1 := blk_frozen BK210.out 1; have hfz24_2 := blk_frozen BK210.out 2; have hfz24_3 := blk_frozen BK210.out 3; have hfz24_4 := blk_frozen BK210.out 4) | ((with_reducible refine gate_callee (f := 106) rfl ?_); refine goesL_ (some 23) rfl rfl Try.func106 (by kernel_rfl) rfl #[.agg #[.int .i64 ((rd_T94 l0 x11_1).f1.f0), .int .i64 ((rd_T94 l0 x11_1).f1.f1), .int .i64 ((rd_T94 l0 x11_1).f1.f2), .int .i64 ((rd_T94 l0 x11_1).f1.f3)]] rfl (by (try simp only [List.map_toArray, List.map_cons, List.map_nil]); first | done | rfl | (simp only [List.length_drop, List.length_take]; rfl)) ?_; (with_reducible refine (impl_buckets.calls k1 ((rd_T94 l0 x11_1).f1.f0) ((rd_T94 l0 x11_1).f1.f1) ((rd_T94 l0 x11_1).f1.f2) ((rd_T94 l0 x11_1).f1.f3) t214 _ A14.out).mono ?_); rintro e w25 ⟨v215, rfl, ho0, hb⟩; refine ⟨_, rfl, ?_⟩; have n0_ := Aside0.mk (Kd.S_elder' (by (with_reducible repeat (first | apply Kd.S_alloc | apply Kd.S_drewN | apply Kd.S_drew)); exact (Kd.S_mono (Kd.S_far (p := ⟨gb208, 0, none⟩) (Kd.S_types HO_209001.out BK208.out (by decide)) (fun _ hk => hk.2) (.slice Ao22 y211.length co22)) (fun _ h_ => h_.1))) (Kd.R_base ho0) hb); have n1_ := Aside0.mk (Kd.R_below (by (with_reducible repeat (first | apply Kd.R_alloc | apply Kd.R_drewN | apply Kd.R_drew)); exact (Kd.R_mono (Kd.R_far (p := ⟨gb208, 0, none⟩) (Kd.R_types HO213.out BK208.out (by decide)) (fun _ hk => hk.2) (.slice Ao22 y211.length co22)) (fun _ h_ => h_.1))) hb); have n2_ := Aside0.mk (Kd.R_lower ho0 (below_size (by repeat (first | (with_reducible first | exact HB.out | apply below_alloc | apply pw_below_drewN | apply below_drew1 | refine below_set ?_ GE201.out | refine below_set ?_ GE208.out | refine below_set ?_ GE210.out) | exact HB.out)))); have n3_ := Aside0.mk (blk_below (g := gb201) (o := .cells #[.slice none 0 0, .slice none 0 0] 42 (0, 0)) (by (with_reducible repeat (first | refine blk_drewN ?_ _ | refine blk_drew ?_ | refine blk_alloc ?_ _)); refine blk_far ?_ NB201_208.out _; (with_reducible repeat (first | refine blk_drewN ?_ _ | refine blk_drew ?_ | refine blk_alloc ?_ _)); exact BK201.out) hb); have n4_ := Aside0.mk (blk_below (g := gb208) (o := .cells #[.slice Ao22 y211.length co22, u209001] 42 (0, 0)) (by (with_reducible repeat (first | refine blk_drewN ?_ _ | refine blk_drew ?_ | refine blk_alloc ?_ _)); refine blk_put (cs := #[u209000, u209001]) ?_ 0 _ rfl; (with_reducible repeat (first | refine blk_drewN ?_ _ | refine blk_drew ?_ | refine blk_alloc ?_ _)); exact BK208.out) hb); have n5_ := Aside0.mk (blk_below (g := gb210) (o := .cells #[.int .i64 ((rd_T94 l0 x11_1).f0), .int .i64 ((rd_T94 l0 x11_1).f1.f0), .int .i64 ((rd_T94 l0 x11_1).f1.f1), .int .i64 ((rd_T94 l0 x11_1).f1.f2), .int .i64 ((rd_T94 l0 x11_1).f1.f3)] 94 (0, 0)) (by (with_reducible repeat (first | refine blk_drewN ?_ _ | refine blk_drew ?_ | refine blk_alloc ?_ _)); refine blk_far ?_ NB210_208.out _; (with_reducible repeat (first | refine blk_drewN ?_ _ | refine blk_drew ?_ | refine blk_alloc ?_ _)); exact BK210.out) hb); have n6_ := Aside0.mk (below_step (by repeat (first | (with_reducible first | exact HB.out | apply below_alloc | apply pw_below_drewN | apply below_drew1 | refine below_set ?_ GE201.out | refine below_set ?_ GE208.out | refine below_set ?_ GE210.out) | exact HB.out)) hb); clear HO_209001; clear HO213; clear BK201; clear BK208; clear BK210; clear HB; have HO_209001 := n0_; have HO213 := n1_; have HO216 := n2_; have BK201 := n3_; have BK208 := n4_; have BK210 := n5_; have HB := n6_; clear n0_ n1_ n2_ n3_ n4_ n5_ n6_; (try clear hb); (try clear hb2); (try clear hk); (try clear hi); (try clear ho0); obtain ⟨Ao26, co26, eo26⟩ := Kd.R_slice HO216.out; subst eo26))
              go_loopg [25] k1 (fun kq v25 w' => ∃ (x25_2 : Int) (x209001_2 : List (List Int)) (u209001 : Value), v25 = .int .i64 x25_2 ∧ Aside0 (impl_indexOf.l1 kq l0 (l0.length : Int) x11_1 t214 (t214.length : Int) x25_2 y211 x209001_2 ((rd_T94 l0 x11_1).f0) ((rd_T94 l0 x11_1).f1.f0) ((rd_T94 l0 x11_1).f1.f1) ((rd_T94 l0 x11_1).f1.f2) ((rd_T94 l0 x11_1).f1.f3) = some (r1, r2)) ∧ Aside0 (kq ≤ k1) ∧ Aside0 (Kd.R (Kd.int .i64) 2 w' w.heap.size (fun _ => True) (.slice Ao26 t214.length co26) t214) ∧ Aside0 (Kd.R k94 94 w' w.heap.size (fun k_ => k_ ≠ gb210) (.slice Ao22 y211.length co22) y211) ∧ Aside0 (Kd.S (Kd.slice 2 (Kd.int .i64)) 62 w' w.heap.size (fun k_ => some k_ ≠ ((.slice Ao26 t214.length co26) : Value).ownBlock) u209001 x209001_2) ∧ Aside0 (w'.heap[gb201]? = some (.cells #[(.slice none 0 0), (.slice none 0 0)] 42 (0, 0))) ∧ Aside0 (w'.heap[gb208]? = some (.cells #[(.slice Ao22 y211.length co22), u209001] 42 (0, 0))) ∧ Aside0 (w'.heap[gb210]? = some (.cells #[.int .i64 ((rd_T94 l0 x11_1).f0), .int .i64 ((rd_T94 l0 x11_1).f1.f0), .int .i64 ((rd_T94 l0 x11_1).f1.f1), .int .i64 ((rd_T94 l0 x11_1).f1.f2), .int .i64 ((rd_T94 l0 x11_1).f1.f3)] 94 (0, 0))) ∧ Aside0 (Below w.heap.size w w'))
              case atStart => exact ⟨(0), (x209001_1), (u209001), (by first | rfl | (simp; done) | (simp [*]; done)), H', ⟨Nat.le_refl _⟩, ⟨by (with_reducible repeat (first | apply Kd.R_alloc | apply Kd.R_drewN | apply Kd.R_drew)); exact HO216.out⟩, ⟨by (with_reducible repeat (first | apply Kd.R_alloc | apply Kd.R_drewN | apply Kd.R_drew)); exact HO213.out⟩, ⟨by (with_reducible repeat (first | apply Kd.S_alloc | apply Kd.S_drewN | apply Kd.S_drew)); exact Kd.S_mono HO_209001.out (fun _ hk => hk.2)⟩, ⟨by (with_reducible repeat (first | refine blk_drewN ?_ _ | refine blk_drew ?_ | refine blk_alloc ?_ _)); exact BK201.out⟩, ⟨by (with_reducible repeat (first | refine blk_drewN ?_ _ | refine blk_drew ?_ | refine blk_alloc ?_ _)); exact BK208.out⟩, ⟨by (with_reducible repeat (first | refine blk_drewN ?_ _ | refine blk_drew ?_ | refine blk_alloc ?_ _)); exact BK210.out⟩, ⟨by repeat (first | (with_reducible first | exact HB.out | apply below_alloc | apply pw_below_drewN | apply below_drew1 | refine below_set ?_ GE201.out | refine below_set ?_ GE208.out | refine below_set ?_ GE210.out) | exact HB.out)⟩⟩
              case round =>
                clear H'
                try clear c1
                try clear c2
                try clear p2
                try clear q2
                try clear hx2
                try clear c7
                try clear c9
                try clear c10
                try clear c10b0
                try clear c11
                try clear c11b0
                try clear c12
                try clear c12b0
                try clear c13
                try clear c16
                try clear c17
                try clear c19
                try clear p20
                try clear q20
                try clear hx20
                try clear c22
                try clear hcz18_0
                try clear hcz18_1
                try clear hcz18_2
                try clear hcz18_3
                try clear hcz18_4
                try clear hcz20_0
                try clear hcz20_1
                try clear hcz23_0
                try clear hcz23_1
                try clear hcz24_0
                try clear hcz24_1
                try clear hcz24_2
                try clear hcz24_3
                try clear hcz24_4
                try clear hcz8_0
                try clear hcz8_1
                try clear hfz18_0
                try clear hfz18_1
                try clear hfz18_2
                try clear hfz18_3
                try clear hfz18_4
                try clear hfz20_0
                try clear hfz20_1
                try clear hfz23_0
                try clear hfz23_1
                try clear hfz24_0
                try clear hfz24_1
                try clear hfz24_2
                try clear hfz24_3
                try clear hfz24_4
                try clear hfz8_0
                try clear hfz8_1
                try clear hx209_0
                try clear hx209_1
                try clear hx209_2
                try clear hx209_3
                try clear hx209_4
                try clear p2
                try clear p209
                try clear q209
                obtain ⟨x25_2, x209001_2, u209001, rfl, HA, HK2, HO_23, HO_209000, HO_209001, BK201, BK208, BK210, HB⟩ := hrel
                cases gk with
                | zero => exact absurd HA.out (by simp [impl_indexOf.l1])
                | succ k2 =>
                  have H := HA.out
                  clear HA
                  simp only [impl_indexOf.l1] at H
                  by_cases c27 : x25_2 < (t214.length : Int)
                  · rw [if_pos c27] at H
                    have c27b0 : decide (x25_2 < (t214.length : Int)) = true := decide_eq_true c27
                    clear c27
                    by_cases c28 : 0 ≤ x25_2
                    · rw [if_pos c28] at H
                      have c28b0 : decide (0 ≤ x25_2) = true := decide_eq_true c28
                      clear c28
                      by_cases c29 : x25_2 < (t214.length : Int)
                      · rw [if_pos c29] at H
                        have c29b0 : decide (x25_2 < (t214.length : Int)) = true := decide_eq_true c29
                        clear c29
                        by_cases c30 : 0 ≤ (rd t214 x25_2)
                        · rw [if_pos c30] at H
                          have c30b0 : decide (0 ≤ (rd t214 x25_2)) = true := decide_eq_true c30
                          clear c30
                          by_cases c31 : (rd t214 x25_2) < (x209001_2.length : Int)
                          · rw [if_pos c31] at H
                            have c31b0 : decide ((rd t214 x25_2) < (x209001_2.length : Int)) = true := decide_eq_true c31
                            clear c31
                            by_cases c32 : (rd_L3 x209001_2 (rd t214 x25_2)).length < 17592186044416
                            · rw [if_pos c32] at H
                              have LMc32 := Aside0.mk c32
                              clear c32
                              obtain ⟨y219, hy219⟩ : ∃ y_ : List Int, y_ = ((rd_L3 x209001_2 (rd t214 x25_2)) ++ [((rd_T94 l0 x11_1).f0)]) := ⟨_, rfl⟩
                              replace H : (impl_indexOf.l1 k2 l0 (l0.length : Int) x11_1 t214 (t214.length : Int) (wrap64 (x25_2 + 1)) y211 (x209001_2.set ((rd t214 x25_2) : Int).toNat y219) ((rd_T94 l0 x11_1).f0) ((rd_T94 l0 x11_1).f1.f0) ((rd_T94 l0 x11_1).f1.f1) ((rd_T94 l0 x11_1).f1.f2) ((rd_T94 l0 x11_1).f1.f3)) = some (r1, r2) := by first | (rw [hy219]; with_reducible exact H) | (have H2_ := (Option.bind_some _ _).symm.trans H; rw [hy219]; with_reducible exact H2_) | (have H2_ := (Option.bind_some _ _).symm.trans H; with_reducible exact H2_) | with_reducible exact H | (rw [hy219]; exact H) | exact H
                              have Ny219 := Aside0.mk hy219
                              clear hy219
                              obtain ⟨y222, hy222⟩ : ∃ y_ : List (List Int), y_ = (x209001_2.set ((rd t214 x25_2) : Int).toNat y219) := ⟨_, rfl⟩
                              replace H : (impl_indexOf.l1 k2 l0 (l0.length : Int) x11_1 t214 (t214.length : Int) (wrap64 (x25_2 + 1)) y211 y222 ((rd_T94 l0 x11_1).f0) ((rd_T94 l0 x11_1).f1.f0) ((rd_T94 l0 x11_1).f1.f1) ((rd_T94 l0 x11_1).f1.f2) ((rd_T94 l0 x11_1).f1.f3)) = some (r1, r2) := by first | (rw [hy222]; with_reducible exact H) | (have H2_ := (Option.bind_some _ _).symm.trans H; rw [hy222]; with_reducible exact H2_) | (have H2_ := (Option.bind_some _ _).symm.trans H; with_reducible exact H2_) | with_reducible exact H | (rw [hy222]; exact H) | exact H
                              have Ny222 := Aside0.mk hy222
                              clear hy222
                              have H' := Aside0.mk H
                              clear H
                              have p217 : 0 ≤ (x25_2 : Int) := of_decide_eq_true (by first | (with_reducible assumption) | assumption)
                              have q217 : x25_2 < (t214.length : Int) := of_decide_eq_true (by first | (with_reducible assumption) | assumption)
                              obtain ⟨ad217, e217, hx217_0⟩ := Kd.at_int (Kd.R_reads' HO_23.out).2.2 x25_2 p217 q217
                              cases e217
                              replace p217 := eq_true p217
                              replace q217 := eq_true q217
                              try go_wp2
                              have n0_ := Aside0.mk (Kd.R_drew HO_23.out)
                              have n1_ := Aside0.mk (Kd.R_drew HO_209000.out)
                              have n2_ := Aside0.mk (Kd.S_drew HO_209001.out)
                              have n3_ := Aside0.mk (blk_drew BK201.out)
                              have n4_ := Aside0.mk (blk_drew BK208.out)
                              have n5_ := Aside0.mk (blk_drew BK210.out)
                              have n6_ := Aside0.mk (below_drew1 HB.out)
                              clear HO_23
                              clear HO_209000
                              clear HO_209001
                              clear BK201
                              clear BK208
                              clear BK210
                              clear HB
                              have HO_23 := n0_
                              have HO_209000 := n1_
                              have HO_209001 := n2_
                              have BK201 := n3_
                              have BK208 := n4_
                              have BK210 := n5_
                              have HB := n6_
                              clear n0_ n1_ n2_ n3_ n4_ n5_ n6_
                              obtain ⟨Ao35, co35, eo35⟩ := Kd.S_slice HO_209001.out
                              (first | subst eo35 | (injection eo35 with f1_ f2_ f3_; have f4_ := f1_.symm; have f5_ := f3_.symm; clear f1_ f2_ f3_; subst f4_; subst f5_))
                              have p218 : 0 ≤ ((rd t214 x25_2) : Int) := of_decide_eq_true (by first | (with_reducible assumption) | assumption)
                              have q218 : (rd t214 x25_2) < (x209001_2.length : Int) := of_decide_eq_true (by first | (with_reducible assumption) | assumption)
                              obtain ⟨ad218, A218_0, c218_0, e218, hx218_0, hl218_0, hi218_0⟩ := at_L3 (Kd.S_reads' HO_209001.out).2.2 (rd t214 x25_2) p218 q218
                              cases e218
                              obtain ⟨ce218, hce218, hMe218, hcc218⟩ := Kd.S_get HO_209001.out [] (rd t214 x25_2) p218 (by first | exact q218 | exact of_decide_eq_true (by first | (with_reducible assumption) | assumption) | (have e_ := (Kd.S_reads' HO_209001.out).1; omega))
                              obtain ⟨ve218_0, rfl, ge218_0⟩ := hMe218
                              have hv218_0 := hcc218 0 _ rfl
                              rw [Nat.add_zero, show ((Kd.slice 2 (Kd.int .i64))).sz = 1 from rfl, Nat.mul_one] at hv218_0
                              replace hv218_0 := Option.some.inj (hv218_0.symm.trans hx218_0)
                              rw [hv218_0] at ge218_0
                              have HL218_0 := Aside0.mk (show Kd.R (Kd.int .i64) 2 _ _ _ _ (rd_L3 x209001_2 (rd t214 x25_2)) from ge218_0)
                              clear hv218_0 ge218_0
                              have HX218_0 := Aside0.mk hx218_0
                              clear hcc218 hce218
                              have HR218_0 := Aside0.mk hi218_0
                              have HC218_0 := Aside0.mk hl218_0
                              clear hi218_0 hl218_0
                              replace p218 := eq_true p218
                              replace q218 := eq_true q218
                              obtain ⟨go36, co36, eo36, gb36, gl36, cl36, HG36⟩ := Kd.S_form HO_209001.out (by have h_ : ((rd t214 x25_2) : Int) < ((x209001_2.length : Int) : Int) := of_decide_eq_true (by first | (with_reducible assumption) | assumption); have h2_ : 0 ≤ ((rd t214 x25_2) : Int) := (of_decide_eq_true (by first | (with_reducible assumption) | assumption)); omega)
                              (first | cases eo36 | (injection eo36 with ea_ en_ ec_; (first | subst ea_ | (injection ea_ with ea_; subst ea_)); subst ec_; clear en_))
                              have GB36 := Aside0.mk gb36
                              have GG36 := Aside0.mk HG36
                              clear gb36 gl36 HG36
                              (first | simp only [add_plain] at hx218_0 | skip)
                              obtain ⟨oki36, ce36, hcl36, hM36, hcc36, _, _, hH36⟩ := Kd.S_elem HO_209001.out [] ((rd t214 x25_2) : Int) (of_decide_eq_true (by first | (with_reducible assumption) | assumption)) (by have h_ : ((rd t214 x25_2) : Int) < ((x209001_2.length : Int) : Int) := of_decide_eq_true (by first | (with_reducible assumption) | assumption); first | exact h_ | (have e_ := (Kd.S_reads' HO_209001.out).1; omega) | simpa using h_)
                              obtain ⟨ve36_0, rfl, ge36_0⟩ := hM36
                              have hv36 := hcc36 0 _ rfl
                              have hX36 := HX218_0.out
                              (try simp only [add_plain] at hX36)
                              (try simp only [Nat.add_zero] at hv36)
                              (try rw [show ((Kd.slice 2 (Kd.int .i64))).sz = 1 from rfl, Nat.mul_one] at hv36)
                              replace hv36 := Option.some.inj (hv36.symm.trans hX36)
                              subst hv36
                              clear hX36 hcc36 hcl36
                              have UU36 := Aside0.mk (show Kd.R (Kd.int .i64) 2 _ w.heap.size oki36 (.slice A218_0 (rd_L3 x209001_2 (rd t214 x25_2)).length c218_0) (rd_L3 x209001_2 (rd t214 x25_2)) from ge36_0)
                              have HH36 := Aside0.mk hH36
                              have HN36 := Aside0.mk (Kd.S_reads' HO_209001.out).1
                              clear hH36 ge36_0
                              refine start_ (n := 14) (S := fun w' => w'.cell? ⟨gb208, 0, none⟩ = some (.slice Ao22 y211.length co22) ∧ w'.cell? ⟨gb208, 1, none⟩ = some (.slice (some ⟨go36, 0, none⟩) x209001_2.length co35) ∧ w'.cell? ⟨gb210, 0, none⟩ = some (.int .i64 ((rd_T94 l0 x11_1).f0)) ∧ w'.cell? ⟨gb210, 1, none⟩ = some (.int .i64 ((rd_T94 l0 x11_1).f1.f0)) ∧ w'.cell? ⟨gb210, 2, none⟩ = some (.int .i64 ((rd_T94 l0 x11_1).f1.f1)) ∧ w'.cell? ⟨gb210, 3, none⟩ = some (.int .i64 ((rd_T94 l0 x11_1).f1.f2)) ∧ w'.cell? ⟨gb210, 4, none⟩ = some (.int .i64 ((rd_T94 l0 x11_1).f1.f3)) ∧ w'.cell? ⟨go36, ((rd t214 x25_2)).toNat, none⟩ = some (.slice A218_0 (rd_L3 x209001_2 (rd t214 x25_2)).length c218_0)) (ds := [13]) #[false, false, false, false, false, false, false, false, false, false, false, false, false, false] (by kernel_rfl) rfl rfl ⟨(blk_cell BK208.out 0).trans rfl, (blk_cell BK208.out 1).trans rfl, (blk_cell BK210.out 0).trans rfl, (blk_cell BK210.out 1).trans rfl, (blk_cell BK210.out 2).trans rfl, (blk_cell BK210.out 3).trans rfl, (blk_cell BK210.out 4).trans rfl, hx218_0⟩ (fun hHeld => ?_); refine with_tabW impl_indexOf.tab9 impl_indexOf.bits9 (fun HT_ HW_ => ?_)
                              generalize wr.drew = w34 at HO_23 HO_209000 HO_209001 BK201 BK208 BK210 HB GG36 HH36 HL218_0 HR218_0 HX218_0 UU36 hx218_0 hHeld ⊢
                              refine pure_ (i := 0) (N := some 29) (v := ?_) (a' := ?_) #[true, false, false, false, false, false, false, false, false, false, false, false, false, false] rfl rfl (any_of HT_.out (by kernel_rfl)) (fun _ _ _ h => h) (Or.inl ⟨by rfl, ?_⟩) ?_ ?_
                              rotate_left
                              · intro w'
                                go_simp
                                with_reducible rfl
                              rotate_left
                              · simp only [Act.put, List.setIfInBounds_toArray, List.set_cons_zero, List.set_cons_succ, i64_w, i32_w]
                                rfl
                              refine pure_ (i := 2) (N := some 31) (v := ?_) (a' := ?_) #[true, false, true, false, false, false, false, false, false, false, false, false, false, false] rfl rfl (any_of HT_.out (by kernel_rfl)) (fun _ _ _ h => h) (Or.inl ⟨by rfl, ?_⟩) ?_ ?_
                              rotate_left
                              · intro w'
                                go_simp
                                with_reducible rfl
                              rotate_left
                              · simp only [Act.put, List.setIfInBounds_toArray, List.set_cons_zero, List.set_cons_succ, i64_w, i32_w]
                                rfl
                              refine pure_ (i := 3) (N := some 32) (v := ?_) (a' := ?_) #[true, false, true, true, false, false, false, false, false, false, false, false, false, false] rfl rfl (any_of HT_.out (by kernel_rfl)) (fun _ _ _ h => h) (Or.inl ⟨by rfl, ?_⟩) ?_ ?_
                              rotate_left
                              · intro w'
                                go_simp
                                with_reducible rfl
                              rotate_left
                              · simp only [Act.put, List.setIfInBounds_toArray, List.set_cons_zero, List.set_cons_succ, i64_w, i32_w]
                                rfl
                              refine pure_ (i := 5) (N := some 34) (v := ?_) (a' := ?_) #[true, false, true, true, false, true, false, false, false, false, false, false, false, false] rfl rfl (any_of HT_.out (by kernel_rfl)) (fun _ _ _ h => h) (Or.inl ⟨by rfl, ?_⟩) ?_ ?_
                              rotate_left
                              · intro w'
                                go_simp
                                with_reducible rfl
                              rotate_left
                              · simp only [Act.put, List.setIfInBounds_toArray, List.set_cons_zero, List.set_cons_succ, i64_w, i32_w]
                                rfl
                              refine pure_ (i := 8) (N := some 37) (v := ?_) (a' := ?_) #[true, false, true, true, false, true, false, false, true, false, false, false, false, false] rfl rfl (any_of HT_.out (by kernel_rfl)) (fun _ _ _ h => h) (Or.inl ⟨by rfl, ?_⟩) ?_ ?_
                              rotate_left
                              · intro w'
                                go_simp
                                with_reducible rfl
                              rotate_left
                              · simp only [Act.put, List.setIfInBounds_toArray, List.set_cons_zero, List.set_cons_succ, i64_w, i32_w]
                                rfl
                              refine take_ (i := 1) (N := some 30) (v := ?_) (a' := ?_) #[true, true, true, true, false, true, false, false, true, false, false, false, false, false] rfl rfl (take_ofW HT_.out HW_.out (by kernel_rfl)) (fun _ _ _ h => h) (Or.inl ⟨by rfl, ?_⟩) hHeld ?_ ?_
                              rotate_left
                              · rintro w' ⟨s0, s1, s2, s3, s4, s5, s6, s7⟩
                                go_simp
                                with_reducible rfl
                              rotate_left
                              · simp only [Act.put, List.setIfInBounds_toArray, List.set_cons_zero, List.set_cons_succ, i64_w, i32_w]
                                rfl
                              refine take_ (i := 4) (N := some 33) (v := ?_) (a' := ?_) #[true, true, true, true, true, true, false, false, true, false, false, false, false, false] rfl rfl (take_ofW HT_.out HW_.out (by kernel_rfl)) (fun _ _ _ h => h) (Or.inl ⟨by rfl, ?_⟩) hHeld ?_ ?_
                              rotate_left
                              · rintro w' ⟨s0, s1, s2, s3, s4, s5, s6, s7⟩
                                go_simp
                                with_reducible rfl
                              rotate_left
                              · simp only [Act.put, List.setIfInBounds_toArray, List.set_cons_zero, List.set_cons_succ, i64_w, i32_w]
                                rfl
                              refine pure_ (i := 6) (N := some 35) (v := ?_) (a' := ?_) #[true, true, true, true, true, true, true, false, true, false, false, false, false, false] rfl rfl (any_of HT_.out (by kernel_rfl)) (fun _ _ _ h => h) (Or.inl ⟨by rfl, ?_⟩) ?_ ?_
                              rotate_left
                              · intro w'
                                go_simp
                                with_reducible rfl
                              rotate_left
                              · simp only [Act.put, List.setIfInBounds_toArray, List.set_cons_zero, List.set_cons_succ, i64_w, i32_w]
                                rfl
                              refine take_ (i := 7) (N := some 36) (v := ?_) (a' := ?_) #[true, true, true, true, true, true, true, true, true, false, false, false, false, false] rfl rfl (take_ofW HT_.out HW_.out (by kernel_rfl)) (fun _ _ _ h => h) (Or.inl ⟨by rfl, ?_⟩) hHeld ?_ ?_
                              rotate_left
                              · rintro w' ⟨s0, s1, s2, s3, s4, s5, s6, s7⟩
                                go_simp
                                with_reducible rfl
                              rotate_left
                              · simp only [Act.put, List.setIfInBounds_toArray, List.set_cons_zero, List.set_cons_succ, i64_w, i32_w]
                                rfl
                              refine take_ (i := 9) (N := some 38) (v := ?_) (a' := ?_) #[true, true, true, true, true, true, true, true, true, true, false, false, false, false] rfl rfl (take_ofW HT_.out HW_.out (by kernel_rfl)) (fun _ _ _ h => h) (Or.inl ⟨by rfl, ?_⟩) hHeld ?_ ?_
                              rotate_left
                              · rintro w' ⟨s0, s1, s2, s3, s4, s5, s6, s7⟩
                                go_simp
                                with_reducible rfl
                              rotate_left
                              · simp only [Act.put, List.setIfInBounds_toArray, List.set_cons_zero, List.set_cons_succ, i64_w, i32_w]
                                rfl
                              refine one_ (i := 10) (N := some 39) #[true, true, true, true, true, true, true, true, true, true, true, false, false, false] rfl rfl (one_of HT_.out (by kernel_rfl)) (by decide) (fun K hK => ?_)
                              refine value_ (w1 := ?_) (v := ?_) (by rfl) rfl ?_ ?_
                              rotate_left 2
                              · go_simp
                                constructor
                                · rfl
                                · rfl
                              refine hK.out _ _ ⟨(blk_cell (blk_alloc BK208.out _) 0).trans rfl, (blk_cell (blk_alloc BK208.out _) 1).trans rfl, (blk_cell (blk_alloc BK210.out _) 0).trans rfl, (blk_cell (blk_alloc BK210.out _) 1).trans rfl, (blk_cell (blk_alloc BK210.out _) 2).trans rfl, (blk_cell (blk_alloc BK210.out _) 3).trans rfl, (blk_cell (blk_alloc BK210.out _) 4).trans rfl, (World.cell?_alloc_lt _ _ _ (World.block_lt_of_cell? _ _ (hHeld.2.2.2.2.2.2.2))).trans (hHeld.2.2.2.2.2.2.2)⟩ (fun hHeld => ?_)
                              clear hK K
                              refine norm_ (a' := ?_) ?_ ?_
                              rotate_left
                              · show Act.put _ (some 39) _ = _
                                simp only [Act.put, List.setIfInBounds_toArray, List.set_cons_zero, List.set_cons_succ, i64_w, i32_w]
                                rfl
                              refine one_ (i := 11) (N := some 40) #[true, true, true, true, true, true, true, true, true, true, true, true, false, false] rfl rfl (one_of HT_.out (by kernel_rfl)) (by decide) (fun K hK => ?_)
                              refine Kd.R_append_step (Kd.int .i64) (w0 := w) w.heap.size (by rfl) (.tmp 36) (.tmp 39) 62 2 (.int .i64 0) 8 rfl Try.underlying62 info2 rfl (by decide) (by omega) (.slice A218_0 (rd_L3 x209001_2 (rd t214 x25_2)).length c218_0) (rd_L3 x209001_2 (rd t214 x25_2)) ((rd_T94 l0 x11_1).f0) [.int .i64 ((rd_T94 l0 x11_1).f0)] (fun k_ => oki36 k_ ∨ ((fun k_ => some k_ ≠ (.slice (some ad217) t214.length co26 : Value).ownBlock)) k_ ∧ w34.heap.size ≤ k_) (fun _ => False) rfl rfl ?aP (fun _ hk => hk.elim) ?aF ?aO ?aB ?aS ?aL ?_
                              (case aP => exact rfl)
                              (case aB => exact (by repeat (first | (with_reducible first | exact HB.out | apply below_alloc | apply pw_below_drewN | apply below_drew1 | refine below_set ?_ GE201.out | refine below_set ?_ GE208.out | refine below_set ?_ GE210.out) | exact HB.out)))
                              (case aF => exact (fun k_ hk => .inr ⟨Kd.fresh' (Kd.R_lt (by (with_reducible repeat (first | apply Kd.R_alloc | apply Kd.R_drewN | apply Kd.R_drew)); exact HO_23.out)) k_ hk, hk⟩))
                              (case aO => exact (by (with_reducible repeat (first | apply Kd.R_alloc | apply Kd.R_drewN | apply Kd.R_drew)); exact Kd.R_mono UU36.out (fun _ hk => .inl hk)))
                              (case aS => exact (below_size (by repeat (first | (with_reducible first | exact HB.out | apply below_alloc | apply pw_below_drewN | apply below_drew1 | refine below_set ?_ GE201.out | refine below_set ?_ GE208.out | refine below_set ?_ GE210.out) | exact HB.out))))
                              (case aL => have := LMc32.out; omega)
                              intro v220 w37 ho hb hg hat
                              (first | have HS7_ := cell_grown hg (hHeld.2.2.2.2.2.2.2) (by first | (rw [add_block]; exact (fun e_ => ((HL218_0.out.1 _ e_.symm).2) rfl)) | (show some (Addr.add _ _).block ≠ _; rw [add_block]; exact (fun e_ => ((HL218_0.out.1 _ e_.symm).2) rfl)) | exact (fun e_ => ((HL218_0.out.1 _ e_.symm).2) rfl)) | have HS7_ := cell_grown hg (cell_unalloc (hHeld.2.2.2.2.2.2.2) (by first | (rw [add_block]; exact Kd.S_lt HO_209001.out _ rfl) | (show (Addr.add _ _).block < _; rw [add_block]; exact Kd.S_lt HO_209001.out _ rfl) | exact Kd.S_lt HO_209001.out _ rfl)) (by first | (rw [add_block]; exact (fun e_ => ((HL218_0.out.1 _ e_.symm).2) rfl)) | (show some (Addr.add _ _).block ≠ _; rw [add_block]; exact (fun e_ => ((HL218_0.out.1 _ e_.symm).2) rfl)) | exact (fun e_ => ((HL218_0.out.1 _ e_.symm).2) rfl)))
                              rw [← Ny219.out] at ho
                              have n0_ := Aside0.mk (Kd.R_grown2 (by (with_reducible repeat (first | apply Kd.R_alloc | apply Kd.R_drewN | apply Kd.R_drew)); exact HO_23.out) rfl hg (fun k_ e_ => (HL218_0.out.1 k_ e_).1))
                              have n1_ := Aside0.mk (Kd.R_over' (v := (.slice A218_0 (rd_L3 x209001_2 (rd t214 x25_2)).length c218_0)) (by (with_reducible repeat (first | apply Kd.R_alloc | apply Kd.R_drewN | apply Kd.R_drew)); exact HO_209000.out) (Kd.R_typed HL218_0.out) (by decide) hg)
                              have n2_ := Aside0.mk (blk_grown (g := gb201) (o := .cells #[.slice none 0 0, .slice none 0 0] 42 (0, 0)) (by (with_reducible repeat (first | refine blk_drewN ?_ _ | refine blk_drew ?_ | refine blk_alloc ?_ _)); exact BK201.out) hg (Kd.R_ne HL218_0.out BK201.out (by decide)))
                              have n3_ := Aside0.mk (blk_grown (g := gb208) (o := .cells #[.slice Ao22 y211.length co22, .slice (some ⟨go36, 0, none⟩) x209001_2.length co35] 42 (0, 0)) (by (with_reducible repeat (first | refine blk_drewN ?_ _ | refine blk_drew ?_ | refine blk_alloc ?_ _)); exact BK208.out) hg (Kd.R_ne HL218_0.out BK208.out (by decide)))
                              have n4_ := Aside0.mk (blk_grown (g := gb210) (o := .cells #[.int .i64 ((rd_T94 l0 x11_1).f0), .int .i64 ((rd_T94 l0 x11_1).f1.f0), .int .i64 ((rd_T94 l0 x11_1).f1.f1), .int .i64 ((rd_T94 l0 x11_1).f1.f2), .int .i64 ((rd_T94 l0 x11_1).f1.f3)] 94 (0, 0)) (by (with_reducible repeat (first | refine blk_drewN ?_ _ | refine blk_drew ?_ | refine blk_alloc ?_ _)); exact BK210.out) hg (Kd.R_ne HL218_0.out BK210.out (by decide)))
                              have n5_ := Aside0.mk (hb)
                              have n6_ := Aside0.mk (Kd.H_grown (Kd.H_widen (by repeat (first | exact HH36.out | refine Kd.H_alloc ?_ _ | refine Kd.H_drewN ?_ _ | refine Kd.H_drew ?_))) hg (fun k_ e_ => .inl (UU36.out.1 k_ e_)))
                              have n7_ := Aside0.mk (ho)
                              clear HO_23
                              clear HO_209000
                              clear BK201
                              clear BK208
                              clear BK210
                              clear HB
                              clear HH36
                              clear HO_209001
                              clear UU36
                              clear HL218_0
                              have HO_23 := n0_
                              have HO_209000 := n1_
                              have BK201 := n2_
                              have BK208 := n3_
                              have BK210 := n4_
                              have HB := n5_
                              have HH36 := n6_
                              have HO221 := n7_
                              clear n0_ n1_ n2_ n3_ n4_ n5_ n6_ n7_
                              clear ho hb hg hat
                              have p33 : 0 ≤ ((rd t214 x25_2) : Int) := of_decide_eq_true (by first | (with_reducible assumption) | assumption)
                              have q33 : ((rd t214 x25_2) : Int) < ((x209001_2.length : Int) : Int) := of_decide_eq_true (by first | (with_reducible assumption) | assumption)
                              replace p33 := eq_true p33
                              replace q33 := eq_true q33
                              obtain ⟨Ao40, co40, eo40⟩ := Kd.R_slice HO221.out
                              (first | subst eo40 | (injection eo40 with f1_ f2_ f3_; have f4_ := f1_.symm; have f5_ := f3_.symm; clear f1_ f2_ f3_; subst f4_; subst f5_))
                              obtain ⟨_, _, hraw38, _, _, hcc38, _⟩ := Kd.H_raw HH36.out (of_decide_eq_true (by first | (with_reducible assumption) | assumption)) (by have h_ : ((rd t214 x25_2) : Int) < ((x209001_2.length : Int) : Int) := of_decide_eq_true (by first | (with_reducible assumption) | assumption); first | exact h_ | (have e_ := (HN36.out); omega) | simpa using h_)
                              obtain ⟨_, hfr38⟩ := Kd.H_at HH36.out (of_decide_eq_true (by first | (with_reducible assumption) | assumption)) (by have h_ : ((rd t214 x25_2) : Int) < ((x209001_2.length : Int) : Int) := of_decide_eq_true (by first | (with_reducible assumption) | assumption); first | exact h_ | (have e_ := (HN36.out); omega) | simpa using h_)
                              have hx38_0 := hcc38 0 _ rfl
                              have hf38_0 := hfr38 0
                              (try simp only [Nat.add_zero] at hx38_0 hf38_0)
                              (try rw [show ((Kd.slice 2 (Kd.int .i64))).sz = 1 from rfl, Nat.mul_one] at hx38_0)
                              (try rw [show ((Kd.slice 2 (Kd.int .i64))).sz = 1 from rfl, Nat.mul_one] at hf38_0)
                              have HP38 := Kd.S_seg0 HH36.out (of_decide_eq_true (by first | (with_reducible assumption) | assumption)) (by have h_ : ((rd t214 x25_2) : Int) < ((x209001_2.length : Int) : Int) := of_decide_eq_true (by first | (with_reducible assumption) | assumption); first | exact h_ | (have e_ := (HN36.out); omega) | simpa using h_) (seg := [.slice Ao40 y219.length co40]) (j := 0) (show 1 ≤ 1 from by decide) (x' := y219) (Kd.M_row HO221.out) (fun _ hk => hk)
                              (try simp only [show ((Kd.slice 2 (Kd.int .i64))).sz = 1 from rfl, Nat.mul_one, Nat.add_zero] at HP38)
                              clear hcc38 hfr38
                              have HNB201_go36 := Aside0.mk (show gb201 ≠ go36 from by have h_ := Kd.R_ne hraw38 BK201.out (by decide); intro e_; exact h_ (by rw [e_]; rfl))
                              have HNB208_go36 := Aside0.mk (show gb208 ≠ go36 from by have h_ := Kd.R_ne hraw38 BK208.out (by decide); intro e_; exact h_ (by rw [e_]; rfl))
                              have HNB210_go36 := Aside0.mk (show gb210 ≠ go36 from by have h_ := Kd.R_ne hraw38 BK210.out (by decide); intro e_; exact h_ (by rw [e_]; rfl))
                              have HS38 := HP38.1
                              rw [← Ny222.out] at HS38
                              have HQ38 := Aside0.mk HS38
                              obtain ⟨_, hgg38⟩ := Kd.R_typed hraw38 go36 rfl
                              have GG38_ := Aside0.mk hgg38
                              clear HP38 HS38 hgg38
                              refine hK.out _ _ ⟨(blk_cell BK208.out 0).trans rfl, (blk_cell BK208.out 1).trans rfl, (blk_cell BK210.out 0).trans rfl, (blk_cell BK210.out 1).trans rfl, (blk_cell BK210.out 2).trans rfl, (blk_cell BK210.out 3).trans rfl, (blk_cell BK210.out 4).trans rfl, HS7_⟩ (fun hHeld => ?_)
                              clear hK K
                              refine norm_ (a' := ?_) ?_ ?_
                              rotate_left
                              · show Act.put _ (some 40) _ = _
                                simp only [Act.put, List.setIfInBounds_toArray, List.set_cons_zero, List.set_cons_succ, i64_w, i32_w]
                                rfl
                              refine pure_ (i := 12) (N := some 41) (v := ?_) (a' := ?_) #[true, true, true, true, true, true, true, true, true, true, true, true, true, false] rfl rfl (any_of HT_.out (by kernel_rfl)) (fun _ _ _ h => h) (Or.inl ⟨by rfl, ?_⟩) ?_ ?_
                              rotate_left
                              · intro w'
                                go_simp
                                with_reducible rfl
                              rotate_left
                              · simp only [Act.put, List.setIfInBounds_toArray, List.set_cons_zero, List.set_cons_succ, i64_w, i32_w]
                                rfl
                              refine last_ (i := 13) (N := none) #[true, true, true, true, true, true, true, true, true, true, true, true, true, true] rfl rfl (one_of HT_.out (by kernel_rfl)) (by decide) (fun K hK => ?_)
                              refine skip_ (w1 := ?_) (by rfl) rfl ?_ ?_
                              rotate_left
                              · go_simp
                                rfl
                              refine hK.out _ _ ?_
                              clear hK K
                              refine done_ (done_of HT_.out (by kernel_rfl)) ?_
                              try go_wp2
                              go_roundg k2
                              case measure => have := HK1.out; have := HK2.out; omega
                              case rel => exact ⟨(wrap64 (x25_2 + 1)), (y222), (.slice (some ⟨go36, 0, none⟩) x209001_2.length co35), (by first | rfl | (simp; done) | (simp [*]; done)), H', ⟨by have := HK1.out; have := HK2.out; omega⟩, ⟨by (with_reducible repeat (first | apply Kd.R_alloc | apply Kd.R_drewN | apply Kd.R_drew)); exact Kd.R_mono (Kd.R_far (p := ⟨go36, ((rd t214 x25_2) : Int).toNat, none⟩) (Kd.R_types HO_23.out GG38_.out (by decide)) (fun _ hk => hk.2) (.slice Ao40 y219.length co40)) (fun _ hk => trivial)⟩, ⟨by (with_reducible repeat (first | apply Kd.R_alloc | apply Kd.R_drewN | apply Kd.R_drew)); exact Kd.R_mono (Kd.R_far (p := ⟨go36, ((rd t214 x25_2) : Int).toNat, none⟩) (Kd.R_types HO_209000.out GG38_.out (by decide)) (fun _ hk => hk.2) (.slice Ao40 y219.length co40)) (fun _ hk => hk.1)⟩, ⟨by (with_reducible repeat (first | apply Kd.S_alloc | apply Kd.S_drewN | apply Kd.S_drew)); exact HQ38.out⟩, ⟨by (with_reducible repeat (first | refine blk_drewN ?_ _ | refine blk_drew ?_ | refine blk_alloc ?_ _)); refine blk_far ?_ HNB201_go36.out _; (with_reducible repeat (first | refine blk_drewN ?_ _ | refine blk_drew ?_ | refine blk_alloc ?_ _)); exact BK201.out⟩, ⟨by (with_reducible repeat (first | refine blk_drewN ?_ _ | refine blk_drew ?_ | refine blk_alloc ?_ _)); refine blk_far ?_ HNB208_go36.out _; (with_reducible repeat (first | refine blk_drewN ?_ _ | refine blk_drew ?_ | refine blk_alloc ?_ _)); exact BK208.out⟩, ⟨by (with_reducible repeat (first | refine blk_drewN ?_ _ | refine blk_drew ?_ | refine blk_alloc ?_ _)); refine blk_far ?_ HNB210_go36.out _; (with_reducible repeat (first | refine blk_drewN ?_ _ | refine blk_drew ?_ | refine blk_alloc ?_ _)); exact BK210.out⟩, ⟨by repeat (first | (with_reducible first | exact HB.out | apply below_alloc | apply pw_below_drewN | apply below_drew1 | refine below_set ?_ GB36.out | refine below_set ?_ GE201.out | refine below_set ?_ GE208.out | refine below_set ?_ GE210.out) | exact HB.out)⟩⟩
                            · rw [if_neg c32] at H
                              exact absurd H (by simp)
                          · rw [if_neg c31] at H
                            exact absurd H (by simp)
                        · rw [if_neg c30] at H
                          exact absurd H (by simp)
                      · rw [if_neg c29] at H
                        exact absurd H (by simp)
                    · rw [if_neg c28] at H
                      exact absurd H (by simp)
                  · rw [if_neg c27] at H
                    have c27b0 : decide (x25_2 < (t214.length : Int)) = false := decide_eq_false c27
                    clear c27
                    have H' := Aside0.mk H
                    clear H
                    go_wp2
                    go_roundg k2
                    case measure => have := HK1.out; have := HK2.out; omega
                    case rel => exact ⟨(wrap64 (x11_1 + 1)), (y211), (x209001_2), (.slice Ao22 y211.length co22), (u209001), (by first | rfl | (simp; done) | (simp [*]; done)), H', ⟨by have := HK1.out; have := HK2.out; omega⟩, ⟨by (with_reducible repeat (first | apply Kd.R_alloc | apply Kd.R_drewN | apply Kd.R_drew)); exact Kd.R_mono HO_209000.out (fun _ hk => trivial)⟩, ⟨by (with_reducible repeat (first | apply Kd.S_alloc | apply Kd.S_drewN | apply Kd.S_drew)); exact Kd.S_mono HO_209001.out (fun _ hk => trivial)⟩, ⟨by (with_reducible repeat (first | refine blk_drewN ?_ _ | refine blk_drew ?_ | refine blk_alloc ?_ _)); exact BK201.out⟩, ⟨by (with_reducible repeat (first | refine blk_drewN ?_ _ | refine blk_drew ?_ | refine blk_alloc ?_ _)); exact BK208.out⟩, ⟨by repeat (first | (with_reducible first | exact HB.out | apply below_alloc | apply pw_below_drewN | apply below_drew1 | refine below_set ?_ GE201.out | refine below_set ?_ GE208.out | refine below_set ?_ GE210.out) | exact HB.out)⟩⟩
            · rw [if_neg c13] at H
              exact absurd H (by simp)
          · rw [if_neg c12] at H
            exact absurd H (by simp)
        · rw [if_neg c11] at H
          exact absurd H (by simp)
      · rw [if_neg c10] at H
        have c10b0 : decide (x11_1 < (l0.length : Int)) = false := decide_eq_false c10
        clear c10
        simp only [Option.some.injEq, Prod.mk.injEq] at H
        obtain ⟨rfl, rfl⟩ := H
        have hnb41 := NB208_201.out
        have hnc41 := NB201_208.out
        have hcz42_0 : wr.cell? ⟨gb208, 0, none⟩ = some (u209000) := (blk_cell BK208.out 0).trans rfl
        have hcz42_1 : wr.cell? ⟨gb208, 1, none⟩ = some (u209001) := (blk_cell BK208.out 1).trans rfl
        have hfz42_0 := blk_frozen BK208.out 0
        have hfz42_1 := blk_frozen BK208.out 1
        obtain ⟨Ao43, co43, eo43⟩ := Kd.R_slice HO_209000.out
        subst eo43
        have hcz44_0 : wr.cell? ⟨gb201, 0, none⟩ = some (.slice none 0 0) := (blk_cell BK201.out 0).trans rfl
        have hcz44_1 : wr.cell? ⟨gb201, 1, none⟩ = some (.slice none 0 0) := (blk_cell BK201.out 1).trans rfl
        have hfz44_0 := blk_frozen BK201.out 0
        have hfz44_1 := blk_frozen BK201.out 1
        obtain ⟨Ao45, co45, eo45⟩ := Kd.S_slice HO_209001.out
        subst eo45
        go_wp2
        refine bodyPost_ret (results_cell_row rfl _ _ gb201 42 #[.slice Ao43 x209000_1.length co43, .slice Ao45 x209001_1.length co45] (0, 0) _ rfl (by (with_reducible repeat (first | refine blk_drewN ?_ _ | refine blk_drew ?_ | refine blk_alloc ?_ _)); refine blk_put (cs := #[.slice Ao43 x209000_1.length co43, .slice none 0 0]) ?_ 1 _ rfl; (with_reducible repeat (first | refine blk_drewN ?_ _ | refine blk_drew ?_ | refine blk_alloc ?_ _)); refine blk_put (cs := #[.slice none 0 0, .slice none 0 0]) ?_ 0 _ rfl; (with_reducible repeat (first | refine blk_drewN ?_ _ | refine blk_drew ?_ | refine blk_alloc ?_ _)); exact BK201.out) Try.underlying42 rfl (by kernel_rfl)) rfl ?_
        exact ⟨_, _, by first | rfl | (simp [errW_none, errW_some] <;> rfl) | (simp [*, errW_none, errW_some] <;> rfl), by (with_reducible repeat (first | apply Kd.R_alloc | apply Kd.R_drewN | apply Kd.R_drew)); exact Kd.R_mono (Kd.R_far (p := ⟨gb201, 1, none⟩) (Kd.R_far (p := ⟨gb201, 0, none⟩) (Kd.R_types HO_209000.out BK201.out (by decide)) (fun _ hk => hk.2) (.slice Ao43 x209000_1.length co43)) (fun _ hk => hk.2) (.slice Ao45 x209001_1.length co45)) (fun _ hk => trivial), by (with_reducible repeat (first | apply Kd.S_alloc | apply Kd.S_drewN | apply Kd.S_drew)); exact Kd.S_mono (Kd.S_far (p := ⟨gb201, 1, none⟩) (Kd.S_far (p := ⟨gb201, 0, none⟩) (Kd.S_types HO_209001.out BK201.out (by decide)) (fun _ hk => hk.2) (.slice Ao43 x209000_1.length co43)) (fun _ hk => hk.2) (.slice Ao45 x209001_1.length co45)) (fun _ hk => trivial), by repeat (first | (with_reducible first | exact HB.out | apply below_alloc | apply pw_below_drewN | apply below_drew1 | refine below_set ?_ GE201.out | refine below_set ?_ GE208.out) | exact HB.out)⟩

end Go.Proofs.Yteepckjegpnffaa.P

/-! ### IxOf -/
/- impl.indexOf, the plain side: for valid boxes it makes the entries' own list and the buckets 'made'. -/
set_option linter.unusedVariables false
set_option linter.unusedSimpArgs false
namespace Go.Proofs.Yteepckjegpnffaa.Q
open Go.RowKit Go.Proofs.Yteepckjegpnffaa.P Go.Proofs.Yteepckjegpnffaa.H Go.Proofs.YteepckjegpnffaaW.PrintWords Go.Proofs.YteepckjegpnffaaW.PrintLast
theorem w64 {x : Int} (h : -1000000 ≤ x) (h2 : x ≤ 1000000) : wrap64 x = x := by unfold wrap64; omega
def row (j : Nat) (is : List Nat) : List Int := is.map fun (i : Nat) => 5 * (j : Int) + (i : Int)
def implList (i0 i1 j0 j1 : Nat) : List Int := (List.range' j0 (j1 + 1 - j0)).flatMap fun j => row j (List.range' i0 (i1 + 1 - i0))
def inside (i0 i1 j0 j1 k : Nat) : Bool := i0 ≤ k % 5 && k % 5 ≤ i1 && j0 ≤ k / 5 && k / 5 ≤ j1
def specList (i0 i1 j0 j1 : Nat) : List Int := ((List.range' 0 25).filter (inside i0 i1 j0 j1)).map fun (k : Nat) => (k : Int)
theorem same_lists : ∀ i0 i1 j0 j1 : Fin 5, specList i0 i1 j0 j1 = implList i0 i1 j0 j1 := by decide +kernel

structure Ok (x0 x1 x2 x3 : Int) (i0 i1 j0 j1 : Nat) : Prop where
  a : -40 ≤ x0
  b : x0 < x2
  c : x2 ≤ 40
  d : -40 ≤ x1
  e : x1 < x3
  f : x3 ≤ 40
  i0 : (x0 + 40) / 16 = i0
  i1 : (x2 - 1 + 40) / 16 = i1
  j0 : (x1 + 40) / 16 = j0
  j1 : (x3 - 1 + 40) / 16 = j1

section
variable {x0 x1 x2 x3 : Int} {i0 i1 j0 j1 : Nat}

theorem to_div {a : Int} (h : -40 ≤ a) (h2 : a ≤ 40) : wrap64 (Int.tdiv (wrap64 (a + 40)) 16) = (a + 40) / 16 := by
  rw [w64 (x := a + 40) (by omega) (by omega), Int.tdiv_eq_ediv_of_nonneg (by omega)]
  exact w64 (by omega) (by omega)

theorem ev_l1 (o : Ok x0 x1 x2 x3 i0 i1 j0 j1) (j : Nat) (hj : j ≤ 4) {r : List Int} (d : Nat) : ∀ (i : Nat) (acc : List Int), i + d = i1 + 1 → acc.length + d ≤ 1000 →
    Ev (fun k => impl_buckets.l0 k (acc ++ row j (List.range' i d)) ((j + 1 : Nat) : Int) x0 x1 x2 x3) r → Ev (fun k => impl_buckets.l1 k acc j i x0 x1 x2 x3) r := by
  have hi1 : wrap64 (Int.tdiv (wrap64 ((wrap64 (x2 - 1)) + 40)) 16) = i1 := by
    rw [w64 (x := x2 - 1) (by have := o.a; have := o.b; omega) (by have := o.c; omega), to_div (by have := o.a; have := o.b; omega) (by have := o.c; omega), o.i1]
  have hb : (i1 : Int) ≤ 4 := by have := o.i1; have := o.c; omega
  induction d with
  | zero =>
    intro i acc hi hacc h
    refine Ev.step (fun k => ?_) h
    simp only [impl_buckets.l1]
    rw [hi1, if_neg (by omega), w64 (by omega) (by omega)]
    simp [row]
  | succ d ih =>
    intro i acc hi hacc h
    refine Ev.step (fun k => ?_) (ih (i + 1) (acc ++ [(5 * j + i : Int)]) (by omega) (by simp; omega) (by simpa [row, List.range'_succ] using h))
    simp only [impl_buckets.l1]
    rw [hi1, if_pos (by omega), if_pos (by omega), w64 (x := 5 * (j : Int)) (by omega) (by omega), w64 (by omega) (by omega), w64 (by omega) (by omega)]
    rfl

theorem ev_l0 (o : Ok x0 x1 x2 x3 i0 i1 j0 j1) (d : Nat) : ∀ (j : Nat) (acc : List Int), j + d = j1 + 1 → acc.length + 10 * d ≤ 900 →
    Ev (fun k => impl_buckets.l0 k acc j x0 x1 x2 x3) (acc ++ (List.range' j d).flatMap fun j => row j (List.range' i0 (i1 + 1 - i0))) := by
  have hj1 : wrap64 (Int.tdiv (wrap64 ((wrap64 (x3 - 1)) + 40)) 16) = j1 := by
    rw [w64 (x := x3 - 1) (by have := o.d; have := o.e; omega) (by have := o.f; omega), to_div (by have := o.d; have := o.e; omega) (by have := o.f; omega), o.j1]
  have hi0 : wrap64 (Int.tdiv (wrap64 (x0 + 40)) 16) = i0 := by
    rw [to_div (by have := o.a; omega) (by have := o.b; have := o.c; omega), o.i0]
  have hb : (j1 : Int) ≤ 4 := by have := o.j1; have := o.f; omega
  have hc : (i1 : Int) ≤ 4 := by have := o.i1; have := o.c; omega
  have hd : (i0 : Int) ≤ i1 := by have := o.i1; have := o.i0; have := o.b; omega
  induction d with
  | zero =>
    intro j acc hj hacc
    refine Ev.step (f := fun _ => some acc) (fun k => ?_) (by simpa using Ev.now acc)
    simp only [impl_buckets.l0]
    rw [hj1, if_neg (by omega)]
  | succ d ih =>
    intro j acc hj hacc
    refine Ev.step (fun k => ?_) (ev_l1 o j (by omega) (i1 + 1 - i0) i0 acc (by omega) (by omega) (by
      have := ih (j + 1) (acc ++ row j (List.range' i0 (i1 + 1 - i0))) (by omega) (by simp [row]; omega)
      simpa [List.range'_succ] using this))
    simp only [impl_buckets.l0]
    rw [hj1, if_pos (by omega), hi0]

theorem ev_buckets (o : Ok x0 x1 x2 x3 i0 i1 j0 j1) : Ev (fun k => impl_buckets.f k x0 x1 x2 x3) (implList i0 i1 j0 j1) := by
  have hb : (j1 : Int) ≤ 4 := by have := o.j1; have := o.f; omega
  have hd : (j0 : Int) ≤ j1 := by have := o.j1; have := o.j0; have := o.e; omega
  have h := ev_l0 o (j1 + 1 - j0) j0 [] (by omega) (by simp; omega)
  have hj0 : wrap64 (Int.tdiv (wrap64 (x1 + 40)) 16) = j0 := by
    rw [to_div (by have := o.d; omega) (by have := o.e; have := o.f; omega), o.j0]
  refine Ev.congr (fun k => ?_) h
  simp only [impl_buckets.f, hj0]
theorem ovl_is (o : Ok x0 x1 x2 x3 i0 i1 j0 j1) (n : Nat) (hn : n < 25) : ovl ⟨x0, x1, x2, x3⟩ (bkt n) = inside i0 i1 j0 j1 n := by
  obtain ⟨a, b, c, d, e, f, hi0, hi1, hj0, hj1⟩ := o
  unfold ovl bkt inside
  rw [Bool.eq_iff_iff]
  simp only [decide_eq_true_eq, Bool.and_eq_true]
  omega
end
/-- The buckets that a box overlaps. -/
def bks (r : S65) : List Nat := (List.range 25).filter fun n => ovl r (bkt n)
theorem ok_of (r : S65) (h : okR r = true) : Ok r.f0 r.f1 r.f2 r.f3 ((r.f0 + 40) / 16).toNat ((r.f2 - 1 + 40) / 16).toNat ((r.f1 + 40) / 16).toNat ((r.f3 - 1 + 40) / 16).toNat := by
  unfold okR at h
  rw [decide_eq_true_eq] at h
  obtain ⟨a, b, c, d, e, f⟩ := h
  exact ⟨a, b, c, d, e, f, by omega, by omega, by omega, by omega⟩
theorem ev_bks (r : S65) (h : okR r = true) : Ev (fun k => impl_buckets.f k r.f0 r.f1 r.f2 r.f3) ((bks r).map fun (n : Nat) => (n : Int)) := by
  have o := ok_of r h
  have e := ev_buckets o
  have hs := same_lists ⟨((r.f0 + 40) / 16).toNat, by have := o.i0; have := o.b; have := o.c; omega⟩ ⟨((r.f2 - 1 + 40) / 16).toNat, by have := o.c; omega⟩ ⟨((r.f1 + 40) / 16).toNat, by have := o.e; have := o.f; omega⟩ ⟨((r.f3 - 1 + 40) / 16).toNat, by have := o.f; omega⟩
  simp only at hs
  rw [← hs] at e
  have hb : bks r = (List.range' 0 25).filter (inside ((r.f0 + 40) / 16).toNat ((r.f2 - 1 + 40) / 16).toNat ((r.f1 + 40) / 16).toNat ((r.f3 - 1 + 40) / 16).toNat) := by
    unfold bks
    rw [List.range_eq_range']
    refine List.filter_congr (fun n hn => ?_)
    exact ovl_is o n (by have := List.mem_range'_1.1 hn; omega)
  rw [hb]
  exact e
/-- The 25 rows. -/
def tab (f : Nat → List Int) : List (List Int) := (List.range 25).map f
theorem tab_len (f : Nat → List Int) : (tab f).length = 25 := by simp [tab]
theorem tab_get (f : Nat → List Int) (k : Nat) (h : k < 25) : (tab f).getD k [] = f k := by
  simp [tab, List.getD_eq_getElem?_getD, h]
theorem tab_set (f : Nat → List Int) (k : Nat) (v : List Int) : (tab f).set k v = tab (fun n => if n = k then v else f n) := by
  apply List.ext_getElem
  · simp [tab]
  · intro i h1 h2
    have hi : i < 25 := by simpa [tab] using h2
    rw [List.getElem_set]
    simp only [tab, List.getElem_map, List.getElem_range]
    by_cases h : k = i
    · rw [if_pos h, if_pos h.symm]
    · rw [if_neg h, if_neg (fun x => h x.symm)]
theorem tab_congr {f g : Nat → List Int} (h : ∀ n, n < 25 → f n = g n) : tab f = tab g := List.map_congr_left (fun n hn => h n (List.mem_range.1 hn))
def addTo (f : Nat → List Int) (ks : List Nat) (x : Int) (n : Nat) : List Int := if ks.contains n then f n ++ [x] else f n
theorem ev_in (l : List S94) (ks : List Nat) (hk : ks.Nodup) (hl25 : ks.length ≤ 25) (h25 : ∀ k ∈ ks, k < 25) (f : Nat → List Int) (hf : ∀ n, (f n).length ≤ 1000000) (i : Int) (acc : List S94) (x y0 y1 y2 y3 : Int) {r : List S94 × List (List Int)} (h : Ev (fun k => impl_indexOf.l0 k l l.length (wrap64 (i + 1)) acc (tab (addTo f ks x))) r) :
    ∀ (suf pre : List Nat), pre ++ suf = ks → Ev (fun k => impl_indexOf.l1 k l l.length i (ks.map fun (n : Nat) => (n : Int)) ks.length (pre.length : Int) acc (tab (addTo f pre x)) x y0 y1 y2 y3) r
  | [], pre, he => by
    rw [List.append_nil] at he
    subst he
    refine Ev.step (fun k => ?_) h
    simp only [impl_indexOf.l1]
    rw [if_neg (by omega)]
  | a :: suf, pre, he => by
    have hlen : ks.length = pre.length + suf.length + 1 := by rw [← he]; simp; omega
    have ha : a < 25 := h25 a (by rw [← he]; simp)
    have hap : a ∉ pre := by
      rw [← he] at hk
      intro hm
      exact (List.nodup_append.1 hk).2.2 a hm a (by simp) rfl
    have hrd : rd (ks.map fun (n : Nat) => (n : Int)) (pre.length : Int) = (a : Int) := by
      unfold rd
      rw [Int.toNat_natCast, ← he]
      simp [List.getD_eq_getElem?_getD]
    have hrow : rd_L3 (tab (addTo f pre x)) (a : Int) = f a := by
      unfold rd_L3
      rw [Int.toNat_natCast, tab_get _ _ ha]
      unfold addTo
      rw [if_neg (by simpa using hap)]
    refine Ev.step (fun k => ?_) (ev_in l ks hk hl25 h25 f hf i acc x y0 y1 y2 y3 h suf (pre ++ [a]) (by rw [← he]; simp))
    simp only [impl_indexOf.l1]
    rw [if_pos (by omega), if_pos (by omega), if_pos (by rw [List.length_map]; omega), hrd, if_pos (by omega), if_pos (by rw [tab_len]; omega), hrow, if_pos (by have := hf a; omega), Int.toNat_natCast, tab_set]
    congr 1
    · unfold wrap64; simp; omega
    · refine tab_congr (fun n hn => ?_)
      unfold addTo
      by_cases h1 : n = a
      · subst h1; simp
      · simp [h1]
theorem bks_ids (l : List S94) (i : Nat) (h : i < l.length) (n : Nat) (hn : n < 25) : addTo (idsOf (l.take i)) (bks l[i].f1) l[i].f0 n = idsOf (l.take (i + 1)) n := by
  rw [ids_succ l n i h]
  unfold addTo bks
  by_cases ho : ovl l[i].f1 (bkt n) = true
  · rw [if_pos ho, if_pos (by rw [List.contains_iff_mem, List.mem_filter]; exact ⟨List.mem_range.2 hn, ho⟩)]
  · rw [if_neg ho, if_neg (by rw [List.contains_iff_mem, List.mem_filter]; exact fun x => ho x.2)]
theorem ev_out (l : List S94) (hl : l.length ≤ 1000000) (hok : ∀ e ∈ l, okR e.f1 = true) : ∀ (d i : Nat), i + d = l.length → Ev (fun k => impl_indexOf.l0 k l l.length i (l.take i) (tab (idsOf (l.take i)))) (l, made l)
  | 0, i, h => by
    have hi : i = l.length := by omega
    subst hi
    refine Ev.step (f := fun _ => some (l, made l)) (fun k => ?_) (Ev.now _)
    simp only [impl_indexOf.l0]
    rw [if_neg (by omega), List.take_length]
    rfl
  | d + 1, i, h => by
    have hi : i < l.length := by omega
    have hrd : rd_T94 l (i : Int) = l[i] := by simp [rd_T94, List.getD_eq_getElem?_getD, hi]
    have hin := ev_in l (bks l[i].f1) (List.nodup_range.filter _) (by have := List.length_filter_le (fun n => ovl l[i].f1 (bkt n)) (List.range 25); simpa [bks] using this) (fun k hk => List.mem_range.1 (List.mem_filter.1 hk).1) (idsOf (l.take i)) (fun n => by have := ids_len (l.take i) n; have h2 := List.length_take (i := i) (l := l); omega) (i : Int) (l.take (i + 1)) l[i].f0 l[i].f1.f0 l[i].f1.f1 l[i].f1.f2 l[i].f1.f3 (r := (l, made l)) (by
      have h2 := ev_out l hl hok d (i + 1) (by omega)
      rw [wrap_nat i (by omega)]
      rw [tab_congr (fun n hn => bks_ids l i hi n hn)]
      exact h2) (bks l[i].f1) [] rfl
    have hb := ev_bks l[i].f1 (hok _ (List.getElem_mem hi))
    have := Ev.bind (f := fun k t => impl_indexOf.l1 k l l.length i t (t.length : Int) 0 (l.take (i + 1)) (tab (idsOf (l.take i))) l[i].f0 l[i].f1.f0 l[i].f1.f1 l[i].f1.f2 l[i].f1.f3) hb (by
      refine Ev.congr (fun k => ?_) hin
      rw [List.length_map]
      congr 1)
    refine Ev.step (fun k => ?_) this
    simp only [impl_indexOf.l0]
    rw [if_pos (by omega), if_pos (by omega), if_pos (by omega), if_pos (by rw [List.length_take]; omega), hrd, List.take_succ_eq_append_getElem hi]
theorem indexOf_f (l : List S94) (hl : l.length ≤ 1000000) (hok : ∀ e ∈ l, okR e.f1 = true) : ∃ k, impl_indexOf.f k l = some (l, made l) := by
  refine Ev.rounds (Ev.congr (fun k => ?_) (ev_out l hl hok l.length 0 (by omega)))
  simp only [impl_indexOf.f, impl_EmptyIndex.f]
  rw [if_pos (by omega)]
  rfl
end Go.Proofs.Yteepckjegpnffaa.Q

/-! ### IxValidI -/
/- impl.IsValidIndex: walked by hand. -/
set_option linter.unusedVariables false
set_option linter.unusedSimpArgs false
namespace Go.Proofs.Yteepckjegpnffaa.Q
open Go.RowKit Go.Proofs.Yteepckjegpnffaa.P Go.Proofs.Yteepckjegpnffaa.H Go.Proofs.YteepckjegpnffaaW.PrintWords Go.Proofs.YteepckjegpnffaaW.PrintLast
theorem field_buckets (A B : Option Addr) (n m c d : Nat) (W : World) : (Instr.field 42 (.agg #[.slice A n c, .slice B m d]) 1).run Try.prog W = .ok (.slice B m d) W := by kernel_rfl
theorem okAt_box {l : List S94} (h : ∀ j, j < l.length → okAt l j = true) : ∀ e ∈ l, okR e.f1 = true := by
  intro e he
  obtain ⟨i, hi, rfl⟩ := List.getElem_of_mem he
  have := h i hi
  rw [okAt_at l i hi, Bool.and_eq_true, Bool.and_eq_true] at this
  exact this.1.2
set_option maxRecDepth 100000 in
set_option maxHeartbeats 1000000 in
theorem impl_vix_calls (A0 : Option Addr) (c0 : Nat) (l0 : List S94) (A1 : Option Addr) (c1 : Nat) (l1 : List (List Int)) (w : World) (hr0 : Kd.C k94 w A0 l0.length l0) (hc0 : l0.length ≤ c0) (hr1 : Kd.C kB w A1 l1.length l1) (hs0 : l1.length ≤ 1000000000) (hs : ∀ x ∈ l1, x.length ≤ 1000000000) :
    Calls Try.prog 41 #[.agg #[.slice A0 l0.length c0, .slice A1 l1.length c1]] w fun e w' => e = .returned (.bool (vix l0 l1)) ∧ Below w.heap.size w w' := by
  have HR0 := Lib.hid hr0
  have HR1 := Lib.hid hr1
  have HC0 := Lib.hid hc0
  have HS := Lib.hid hs
  have HS0 := Lib.hid hs0
  clear hr0 hr1 hc0 hs hs0
  have B := Lib.hid (Below.refl w.heap.size w)
  by_cases h40 : l0.length ≤ 40
  · go_enter Try.func41, Try.ntmps41
    go_wp2_with fail
    go_loopw [12] (fun v w' => VRel l0 w.heap.size #[.slice A0 l0.length c0, .slice A1 l1.length c1] w v w') (fun v _ => l0.length - (intOf v).toNat)
    case atStart => exact ⟨0, Nat.zero_le _, rfl, fun j hj => absurd hj (Nat.not_lt_zero _), (Below.refl _ _).alloc (Nat.le_refl _) _, Box.new _ _ _⟩
    case round =>
      obtain ⟨i, hi, rfl, hall, hB, hX⟩ := hrel
      have HA := Lib.hid hall
      have B := Lib.hid hB
      have X := Lib.hid hX
      clear hall hB hX
      have x0 := X.out.cell 0 _ rfl
      have x1 := X.out.cell 1 _ rfl
      obtain ⟨wo, rfl⟩ : ∃ wo : World, wo = wr := ⟨_, rfl⟩
      by_cases hlt : i < l0.length
      · obtain ⟨ad, rfl, e0, e1, e2, e3, e4⟩ := entCells (Kd.C_below HR0.out B.out) i hlt
        have hok := okAt_at l0 i hlt
        have HPR := Lib.hid hok
        generalize l0[i] = en at *
        clear hok
        have hx4 := Box.new wo #[.int .i64 en.f0, .int .i64 en.f1.f0, .int .i64 en.f1.f1, .int .i64 en.f1.f2, .int .i64 en.f1.f3] 94
        have hb4 : Below wo.heap.size wo (wo.alloc (.cells #[.int .i64 en.f0, .int .i64 en.f1.f0, .int .i64 en.f1.f1, .int .i64 en.f1.f2, .int .i64 en.f1.f3] 94)) := (Below.refl _ _).alloc (Nat.le_refl _) _
        have X4 := Lib.hid hx4
        have B4 := Lib.hid hb4
        clear hx4 hb4
        go_wp2_with fail
        generalize hW4 : wo.alloc (.cells #[.int .i64 en.f0, .int .i64 en.f1.f0, .int .i64 en.f1.f1, .int .i64 en.f1.f2, .int .i64 en.f1.f3] 94) = W4 at *
        have f0 := X4.out.cell 0 _ rfl
        have f1 := X4.out.cell 1 _ rfl
        have f2 := X4.out.cell 2 _ rfl
        have f3 := X4.out.cell 3 _ rfl
        have f4 := X4.out.cell 4 _ rfl
        cases ho1 : okId en.f0 with
        | false =>
          have H1 := Lib.hid ((impl_okId en.f0).trans (congrArg some ho1))
          have HN := Lib.hid (vix_no (b := l1) hlt (by rw [HPR.out, ho1]; rfl))
          clear ho1
          refine region_seq (fun w' => Below W4.heap.size W4 w') rfl (by kernel_rfl) ((Below.refl _ _).drew) ?_
          repeat (first
            | (refine gs_off (a' := ?_) (by rfl) ?_ ?_; rotate_left 1; (simp only [Act.put, List.setIfInBounds_toArray, List.set_cons_zero, List.set_cons_succ]; rfl))
            | (refine gs_call (v := .bool false) (a' := ?_) Try.func93 (by kernel_rfl) rfl #[.int .i64 en.f0, .int .i64 1, .int .i64 9999] (by rfl) (by rfl) (by simp only [List.map_toArray, List.map_cons, List.map_nil]; rfl) (fun w' hw' => (impl_within.calls _ _ _ _ w' H1.out).mono (fun e w'' h => ⟨h.1, hw'.trans ((h.2.below).mono hw'.size)⟩)) ?_ ?_; rotate_left 1; (simp only [Act.put, List.setIfInBounds_toArray, List.set_cons_zero, List.set_cons_succ]; rfl))
            | (refine gs_val (v := ?_) (a' := ?_) (by rfl) ?_ ?_ ?_; rotate_left 2; (intro w' hw'; (have k_0 := cell_on hw' f0); first | (go_simp; done) | (go_simp; with_reducible rfl)); (simp only [Act.put, List.setIfInBounds_toArray, List.set_cons_zero, List.set_cons_succ]; rfl)))
          refine gs_end (fun w1 hB1 => ?_)
          go_wp2_with fail
          go_ret
          exact ⟨by rw [HN.out]; rfl, B.out.trans ((B4.out.trans (hB1.mono B4.out.size)).mono B.out.size)⟩
        | true =>
          have H1 := Lib.hid ((impl_okId en.f0).trans (congrArg some ho1))
          cases ho2 : okR en.f1 with
          | false =>
            have H2 := Lib.hid ((impl_okR en.f1).trans (congrArg some ho2))
            have HN := Lib.hid (vix_no (b := l1) hlt (by rw [HPR.out, ho1, ho2]; rfl))
            clear ho1 ho2
            refine region_seq (fun w' => Below W4.heap.size W4 w') rfl (by kernel_rfl) ((Below.refl _ _).drew) ?_
            repeat (first
              | (refine gs_off (a' := ?_) (by rfl) ?_ ?_; rotate_left 1; (simp only [Act.put, List.setIfInBounds_toArray, List.set_cons_zero, List.set_cons_succ]; rfl))
              | (refine gs_call (v := .bool true) (a' := ?_) Try.func93 (by kernel_rfl) rfl #[.int .i64 en.f0, .int .i64 1, .int .i64 9999] (by rfl) (by rfl) (by simp only [List.map_toArray, List.map_cons, List.map_nil]; rfl) (fun w' hw' => (impl_within.calls _ _ _ _ w' H1.out).mono (fun e w'' h => ⟨h.1, hw'.trans ((h.2.below).mono hw'.size)⟩)) ?_ ?_; rotate_left 1; (simp only [Act.put, List.setIfInBounds_toArray, List.set_cons_zero, List.set_cons_succ]; rfl))
              | (refine gs_call (v := .bool false) (a' := ?_) Try.func85 (by kernel_rfl) rfl #[.agg #[.int .i64 en.f1.f0, .int .i64 en.f1.f1, .int .i64 en.f1.f2, .int .i64 en.f1.f3]] (by rfl) (by rfl) (by simp only [List.map_toArray, List.map_cons, List.map_nil]; rfl) (fun w' hw' => (impl_IsValidRect.calls _ _ _ _ _ w' H2.out).mono (fun e w'' h => ⟨h.1, hw'.trans ((h.2).mono hw'.size)⟩)) ?_ ?_; rotate_left 1; (simp only [Act.put, List.setIfInBounds_toArray, List.set_cons_zero, List.set_cons_succ]; rfl))
              | (refine gs_val (v := ?_) (a' := ?_) (by rfl) ?_ ?_ ?_; rotate_left 2; (intro w' hw'; (have k_0 := cell_on hw' f0); (have k_1 := cell_on hw' f1); (have k_2 := cell_on hw' f2); (have k_3 := cell_on hw' f3); (have k_4 := cell_on hw' f4); first | (go_simp; done) | (go_simp; with_reducible rfl)); (simp only [Act.put, List.setIfInBounds_toArray, List.set_cons_zero, List.set_cons_succ]; rfl)))
            refine gs_end (fun w1 hB1 => ?_)
            go_wp2_with fail
            go_ret
            exact ⟨by rw [HN.out]; rfl, B.out.trans ((B4.out.trans (hB1.mono B4.out.size)).mono B.out.size)⟩
          | true =>
            have H2 := Lib.hid ((impl_okR en.f1).trans (congrArg some ho2))
            by_cases hi0 : i = 0
            · subst hi0
              have HN := Lib.hid (show okAt l0 0 = true by rw [HPR.out, ho1, ho2]; rfl)
              clear ho1 ho2
              refine region_seq (fun w' => Below W4.heap.size W4 w') rfl (by kernel_rfl) ((Below.refl _ _).drew) ?_
              repeat (first
                | (refine gs_off (a' := ?_) (by rfl) ?_ ?_; rotate_left 1; (simp only [Act.put, List.setIfInBounds_toArray, List.set_cons_zero, List.set_cons_succ]; rfl))
                | (refine gs_call (v := .bool true) (a' := ?_) Try.func93 (by kernel_rfl) rfl #[.int .i64 en.f0, .int .i64 1, .int .i64 9999] (by rfl) (by rfl) (by simp only [List.map_toArray, List.map_cons, List.map_nil]; rfl) (fun w' hw' => (impl_within.calls _ _ _ _ w' H1.out).mono (fun e w'' h => ⟨h.1, hw'.trans ((h.2.below).mono hw'.size)⟩)) ?_ ?_; rotate_left 1; (simp only [Act.put, List.setIfInBounds_toArray, List.set_cons_zero, List.set_cons_succ]; rfl))
                | (refine gs_call (v := .bool true) (a' := ?_) Try.func85 (by kernel_rfl) rfl #[.agg #[.int .i64 en.f1.f0, .int .i64 en.f1.f1, .int .i64 en.f1.f2, .int .i64 en.f1.f3]] (by rfl) (by rfl) (by simp only [List.map_toArray, List.map_cons, List.map_nil]; rfl) (fun w' hw' => (impl_IsValidRect.calls _ _ _ _ _ w' H2.out).mono (fun e w'' h => ⟨h.1, hw'.trans ((h.2).mono hw'.size)⟩)) ?_ ?_; rotate_left 1; (simp only [Act.put, List.setIfInBounds_toArray, List.set_cons_zero, List.set_cons_succ]; rfl))
                | (refine gs_val (v := ?_) (a' := ?_) (by rfl) ?_ ?_ ?_; rotate_left 2; (intro w' hw'; (have k_0 := cell_on hw' f0); (have k_1 := cell_on hw' f1); (have k_2 := cell_on hw' f2); (have k_3 := cell_on hw' f3); (have k_4 := cell_on hw' f4); first | (go_simp; done) | (go_simp; with_reducible rfl)); (simp only [Act.put, List.setIfInBounds_toArray, List.set_cons_zero, List.set_cons_succ]; rfl)))
              refine gs_end (fun w1 hB1 => ?_)
              go_wp2_with fail
              refine ⟨⟨1, by omega, by go_num, fun j hj => ?_, B.out.trans ((B4.out.trans (hB1.mono B4.out.size)).mono B.out.size), (X.out.below B4.out).below hB1⟩, by simp [intOf]; omega⟩
              have hj0 : j = 0 := by omega
              subst hj0
              exact HN.out
            · obtain ⟨ad2, ead, p0, _⟩ := entCells (Kd.C_below HR0.out B.out) (i - 1) (by omega)
              injection ead with ead
              subst ead
              have p0 := cell_on B4.out p0
              have hprev : (l0.getD (i - 1) z94).f0 = (l0[i - 1]'(by omega)).f0 := by
                rw [List.getD_eq_getElem?_getD, List.getElem?_eq_getElem (by omega)]; rfl
              rw [← hprev] at p0
              clear hprev
              generalize (l0.getD (i - 1) z94).f0 = pv at *
              have hpos : 0 < i := by omega
              have hw1 : IntKind.i64.wrap (↑i - 1) = (↑i : Int) - 1 := IntWalk.i64_in _ (by omega)
              have hw2 : (1 : Int) ≤ ↑i := by omega
              have hw3 : (↑i : Int) - 1 < ↑l0.length := by omega
              have hw4 : ((↑i : Int) - 1).toNat = i - 1 := by omega
              by_cases hlt2 : pv < en.f0
              · have HN := Lib.hid (show okAt l0 i = true by rw [HPR.out, ho1, ho2]; simp [hlt2])
                have hq : decide (en.f0 ≤ pv) = false := decide_eq_false (by omega)
                clear ho1 ho2 hlt2
                refine region_seq (fun w' => Below W4.heap.size W4 w') rfl (by kernel_rfl) ((Below.refl _ _).drew) ?_
                repeat (first
                  | (refine gs_off (a' := ?_) (by rfl) ?_ ?_; rotate_left 1; (simp only [Act.put, List.setIfInBounds_toArray, List.set_cons_zero, List.set_cons_succ]; rfl))
                  | (refine gs_call (v := .bool true) (a' := ?_) Try.func93 (by kernel_rfl) rfl #[.int .i64 en.f0, .int .i64 1, .int .i64 9999] (by rfl) (by rfl) (by simp only [List.map_toArray, List.map_cons, List.map_nil]; rfl) (fun w' hw' => (impl_within.calls _ _ _ _ w' H1.out).mono (fun e w'' h => ⟨h.1, hw'.trans ((h.2.below).mono hw'.size)⟩)) ?_ ?_; rotate_left 1; (simp only [Act.put, List.setIfInBounds_toArray, List.set_cons_zero, List.set_cons_succ]; rfl))
                  | (refine gs_call (v := .bool true) (a' := ?_) Try.func85 (by kernel_rfl) rfl #[.agg #[.int .i64 en.f1.f0, .int .i64 en.f1.f1, .int .i64 en.f1.f2, .int .i64 en.f1.f3]] (by rfl) (by rfl) (by simp only [List.map_toArray, List.map_cons, List.map_nil]; rfl) (fun w' hw' => (impl_IsValidRect.calls _ _ _ _ _ w' H2.out).mono (fun e w'' h => ⟨h.1, hw'.trans ((h.2).mono hw'.size)⟩)) ?_ ?_; rotate_left 1; (simp only [Act.put, List.setIfInBounds_toArray, List.set_cons_zero, List.set_cons_succ]; rfl))
                  | (refine gs_val (v := ?_) (a' := ?_) (by rfl) ?_ ?_ ?_; rotate_left 2; (intro w' hw'; (have k_0 := cell_on hw' f0); (have k_1 := cell_on hw' f1); (have k_2 := cell_on hw' f2); (have k_3 := cell_on hw' f3); (have k_4 := cell_on hw' f4); (have k_5 := cell_on hw' p0); (have k_6 := cell_on hw' (cell_on B4.out x0)); first | (go_simp; done) | (go_simp; with_reducible rfl)); (simp only [Act.put, List.setIfInBounds_toArray, List.set_cons_zero, List.set_cons_succ]; rfl)))
                refine gs_end (fun w1 hB1 => ?_)
                clear hq hw1 hw2 hw3 hw4
                go_wp2_with fail
                refine ⟨⟨i + 1, by omega, by go_num, fun j hj => ?_, B.out.trans ((B4.out.trans (hB1.mono B4.out.size)).mono B.out.size), (X.out.below B4.out).below hB1⟩, by simp [intOf]; omega⟩
                rcases Nat.lt_or_ge j i with hji | hji
                · exact HA.out j hji
                · have hj0 : j = i := by omega
                  subst hj0
                  exact HN.out
              · have HN := Lib.hid (vix_no (b := l1) hlt (show okAt l0 i = false by rw [HPR.out, ho1, ho2]; simp [hlt2, hi0]))
                have hq : decide (en.f0 ≤ pv) = true := decide_eq_true (by omega)
                clear ho1 ho2 hlt2
                refine region_seq (fun w' => Below W4.heap.size W4 w') rfl (by kernel_rfl) ((Below.refl _ _).drew) ?_
                repeat (first
                  | (refine gs_off (a' := ?_) (by rfl) ?_ ?_; rotate_left 1; (simp only [Act.put, List.setIfInBounds_toArray, List.set_cons_zero, List.set_cons_succ]; rfl))
                  | (refine gs_call (v := .bool true) (a' := ?_) Try.func93 (by kernel_rfl) rfl #[.int .i64 en.f0, .int .i64 1, .int .i64 9999] (by rfl) (by rfl) (by simp only [List.map_toArray, List.map_cons, List.map_nil]; rfl) (fun w' hw' => (impl_within.calls _ _ _ _ w' H1.out).mono (fun e w'' h => ⟨h.1, hw'.trans ((h.2.below).mono hw'.size)⟩)) ?_ ?_; rotate_left 1; (simp only [Act.put, List.setIfInBounds_toArray, List.set_cons_zero, List.set_cons_succ]; rfl))
                  | (refine gs_call (v := .bool true) (a' := ?_) Try.func85 (by kernel_rfl) rfl #[.agg #[.int .i64 en.f1.f0, .int .i64 en.f1.f1, .int .i64 en.f1.f2, .int .i64 en.f1.f3]] (by rfl) (by rfl) (by simp only [List.map_toArray, List.map_cons, List.map_nil]; rfl) (fun w' hw' => (impl_IsValidRect.calls _ _ _ _ _ w' H2.out).mono (fun e w'' h => ⟨h.1, hw'.trans ((h.2).mono hw'.size)⟩)) ?_ ?_; rotate_left 1; (simp only [Act.put, List.setIfInBounds_toArray, List.set_cons_zero, List.set_cons_succ]; rfl))
                  | (refine gs_val (v := ?_) (a' := ?_) (by rfl) ?_ ?_ ?_; rotate_left 2; (intro w' hw'; (have k_0 := cell_on hw' f0); (have k_1 := cell_on hw' f1); (have k_2 := cell_on hw' f2); (have k_3 := cell_on hw' f3); (have k_4 := cell_on hw' f4); (have k_5 := cell_on hw' p0); (have k_6 := cell_on hw' (cell_on B4.out x0)); first | (go_simp; done) | (go_simp; with_reducible rfl)); (simp only [Act.put, List.setIfInBounds_toArray, List.set_cons_zero, List.set_cons_succ]; rfl)))
                refine gs_end (fun w1 hB1 => ?_)
                clear hq hw1 hw2 hw3 hw4
                go_wp2_with fail
                go_ret
                exact ⟨by rw [HN.out]; rfl, B.out.trans ((B4.out.trans (hB1.mono B4.out.size)).mono B.out.size)⟩
      · have hie : i = l0.length := by omega
        subst hie
        have HV := Lib.hid (vix_yes (b := l1) h40 (fun j hj => HA.out j hj))
        obtain ⟨kk, hf⟩ := indexOf_f l0 (by omega) (okAt_box (fun j hj => HA.out j hj))
        have HF := Lib.hid hf
        clear hlt hf
        generalize made l0 = M at *
        have hfld := field_buckets
        go_wp2_with fail
        go_region_held3 (fun w' => w'.cell? ⟨w.heap.size, 0, none⟩ = some (.slice A0 l0.length c0) ∧ w'.cell? ⟨w.heap.size, 1, none⟩ = some (.slice A1 l1.length c1) ∧ Below wo.heap.size wo w') (first | exact ⟨x0, x1, (Below.refl _ _).drew⟩ | exact keep2 (by assumption) hb) (first
          | (go_at_call 95; (with_reducible refine (impl_indexOf.calls kk A0 c0 l0 l0 M _ (Kd.C_below (Kd.C_below HR0.out B.out) (‹_ ∧ _ ∧ Below wo.heap.size wo _›).2.2) HC0.out HF.out).mono ?_); rintro e w1 ⟨v0, v1, rfl, hR, hS, hb⟩; obtain ⟨Ab, cb, ev⟩ := Kd.S_slice hS; subst ev; obtain ⟨A2, c2, e2⟩ := Kd.R_slice hR; subst e2; have S1 := Lib.hid (Kd.S_reads' hS); clear hR hS)
          | (go_at_call 94; (with_reducible refine (eqF_calls A1 c1 l1 Ab cb M _ (Kd.C_below (Kd.C_below HR1.out B.out) (‹_ ∧ _ ∧ Below wo.heap.size wo _›).2.2) S1.out.2.2 HS0.out HS.out).mono ?_); rintro e w2 ⟨rfl, hb⟩))
        have HBF := Lib.hid (‹_ ∧ _ ∧ Below wo.heap.size wo _›).2.2
        go_wp2_with fail
        go_ret
        exact ⟨by rw [HV.out]; rfl, B.out.trans (HBF.out.mono B.out.size)⟩
  · have HE := Lib.hid (show vix l0 l1 = false by
      unfold vix
      rw [decide_eq_false h40]
      rfl)
    go_enter Try.func41, Try.ntmps41
    go_wp2_with fail
    go_ret
    exact ⟨by rw [HE.out]; rfl, (Below.refl _ _).alloc (Nat.le_refl _) _⟩
end Go.Proofs.Yteepckjegpnffaa.Q

/-! ### IxGiven -/
/- The two validity tests in the printed form. -/
set_option linter.unusedVariables false
namespace Go.Proofs.Yteepckjegpnffaa.Q
def small (l : List (List Int)) : Bool := decide (l.length ≤ 1000000000) && l.all (fun x => decide (x.length ≤ 1000000000))
end Go.Proofs.Yteepckjegpnffaa.Q
namespace Go.Proofs.Yteepckjegpnffaa.P
open Go.RowKit Go.Proofs.Yteepckjegpnffaa.H Go.Proofs.YteepckjegpnffaaW.PrintWords Go.Proofs.YteepckjegpnffaaW.PrintLast
def spec_IsValidIndex.f (l0 : List S94) (l1 : List (List Int)) : Option Bool := if Q.small l1 = true then some (Q.vix l0 l1) else none
theorem spec_IsValidIndex.calls (A0_0 : Option Addr) (c0_0 : Nat) (l0_0 : List S94) (A0_1 : Option Addr) (c0_1 : Nat) (l0_1 : List (List Int)) (r : Bool) (w : World) (hr0_0 : Kd.C k94 w A0_0 l0_0.length l0_0) (hc0_0 : l0_0.length ≤ c0_0) (hr0_1 : Kd.C (Kd.slice 2 (Kd.int .i64)) w A0_1 l0_1.length l0_1) (hc0_1 : l0_1.length ≤ c0_1) (h : spec_IsValidIndex.f l0_0 l0_1 = some r) :
    Calls Try.prog 39 #[.agg #[.slice A0_0 l0_0.length c0_0, .slice A0_1 l0_1.length c0_1]] w fun e w' => e = .returned (.bool r) ∧ Below w.heap.size w w' := by
  unfold spec_IsValidIndex.f at h
  split at h
  · rename_i hb
    have hr := Option.some.inj h
    subst hr
    exact Q.spec_vix_calls A0_0 c0_0 l0_0 A0_1 c0_1 l0_1 w hr0_0 hc0_0 hr0_1 (fun x hx => of_decide_eq_true (List.all_eq_true.1 (Bool.and_eq_true_iff.1 hb).2 x hx))
  · cases h
def impl_IsValidIndex.f (l0 : List S94) (l1 : List (List Int)) : Option Bool := if Q.small l1 = true then some (Q.vix l0 l1) else none
theorem impl_IsValidIndex.calls (A0_0 : Option Addr) (c0_0 : Nat) (l0_0 : List S94) (A0_1 : Option Addr) (c0_1 : Nat) (l0_1 : List (List Int)) (r : Bool) (w : World) (hr0_0 : Kd.C k94 w A0_0 l0_0.length l0_0) (hc0_0 : l0_0.length ≤ c0_0) (hr0_1 : Kd.C (Kd.slice 2 (Kd.int .i64)) w A0_1 l0_1.length l0_1) (hc0_1 : l0_1.length ≤ c0_1) (h : impl_IsValidIndex.f l0_0 l0_1 = some r) :
    Calls Try.prog 41 #[.agg #[.slice A0_0 l0_0.length c0_0, .slice A0_1 l0_1.length c0_1]] w fun e w' => e = .returned (.bool r) ∧ Below w.heap.size w w' := by
  unfold impl_IsValidIndex.f at h
  split at h
  · rename_i hb
    have hr := Option.some.inj h
    subst hr
    exact Q.impl_vix_calls A0_0 c0_0 l0_0 A0_1 c0_1 l0_1 w hr0_0 hc0_0 hr0_1 (of_decide_eq_true (Bool.and_eq_true_iff.1 hb).1) (fun x hx => of_decide_eq_true (List.all_eq_true.1 (Bool.and_eq_true_iff.1 hb).2 x hx))
  · cases h
end Go.Proofs.Yteepckjegpnffaa.P

/-! ### Maxes -/
/- The two distances: the greatest of five numbers; walked by hand. -/
set_option linter.unusedVariables false
set_option linter.unusedSimpArgs false
namespace Go.Proofs.Yteepckjegpnffaa.P
open Go.RowKit Go.Proofs.Yteepckjegpnffaa.H Go.Proofs.YteepckjegpnffaaW.PrintWords Go.Proofs.YteepckjegpnffaaW.PrintLast Go.Proofs.YteepckjegpnffaaW.PrintMore
theorem max_five (ats : Array TypeId) (ty : TypeId) (a b c d e : Value) : Builtin.max_ ats ty #[a, b, c, d, e] = (Builtin.max2 a b >>= fun s => Builtin.max2 s c >>= fun s => Builtin.max2 s d >>= fun s => Builtin.max2 s e >>= fun s => pure s) := by simp only [Builtin.max_, List.foldlM_cons, List.foldlM_nil]
attribute [local go_sem] max2_int max_five
theorem ret_int64 {k : IntKind} {a b : Int} (h : a = b) : Ending.returned (.int k a) = .returned (.int k b) := by rw [h]
def mx (a b : Int) : Int := if a < b then b else a
def impl_cellDistance.f (a0 a1 a2 a3 b0 b1 b2 b3 : Int) : Option Int := some (mx (mx (mx (mx 0 (wrap64 (wrap64 (b0 - a2) + 1))) (wrap64 (wrap64 (a0 - b2) + 1))) (wrap64 (wrap64 (b1 - a3) + 1))) (wrap64 (wrap64 (a1 - b3) + 1)))
theorem impl_cellDistance.calls (a0 a1 a2 a3 b0 b1 b2 b3 r : Int) (w : World) (h : impl_cellDistance.f a0 a1 a2 a3 b0 b1 b2 b3 = some r) :
    Calls Try.prog 84 #[.agg #[.int .i64 a0, .int .i64 a1, .int .i64 a2, .int .i64 a3], .agg #[.int .i64 b0, .int .i64 b1, .int .i64 b2, .int .i64 b3]] w fun e w' => e = .returned (.int .i64 r) ∧ Below w.heap.size w w' := by
  have hr := Option.some.inj h
  subst hr
  clear h
  have B := Lib.hid (Below.refl w.heap.size w)
  go_enter Try.func84, Try.ntmps84
  go_wp2_with (first
    | ((with_reducible refine gate_dst (N := 2) rfl ?_); refine box_event rfl (N := 2) rfl (cs := #[.int .i64 a0, .int .i64 a1, .int .i64 a2, .int .i64 a3]) (t := 65) ?hr ?_; (case hr => first | (go_simp; done) | (go_simp; rfl)); intro g2 hg w1 hbox hb; have X := Lib.hid (show Box w1 g2 _ _ from hbox); replace B := Lib.hid (B.out.trans (hb.mono B.out.size)); clear hb hg hbox)
    | ((with_reducible refine gate_dst (N := 3) rfl ?_); refine box_event rfl (N := 3) rfl (cs := #[.int .i64 b0, .int .i64 b1, .int .i64 b2, .int .i64 b3]) (t := 65) ?hr ?_; (case hr => first | (go_simp; done) | (go_simp; rfl)); intro g3 hg w2 hbox hb; have Y := X.out.below hb; have Z : Box w2 g3 _ _ := hbox; have y0 := Y.cell 0 _ rfl; have y1 := Y.cell 1 _ rfl; have y2 := Y.cell 2 _ rfl; have y3 := Y.cell 3 _ rfl; have z0 := Z.cell 0 _ rfl; have z1 := Z.cell 1 _ rfl; have z2 := Z.cell 2 _ rfl; have z3 := Z.cell 3 _ rfl; replace B := Lib.hid (B.out.trans (hb.mono B.out.size)); clear hb hg hbox Y Z))
  all_goals
    go_ret
    refine ⟨ret_int64 ?_, B.out⟩
    unfold mx
    (repeat' split) <;> omega
def spec_l11Distance.f (a0 a1 b0 b1 b2 b3 : Int) : Option Int := some (mx (mx (mx (mx (wrap64 (b0 - a0)) (wrap64 (wrap64 (a0 - b2) + 1))) (wrap64 (b1 - a1))) (wrap64 (wrap64 (a1 - b3) + 1))) 0)
theorem spec_l11Distance.calls (a0 a1 b0 b1 b2 b3 r : Int) (w : World) (h : spec_l11Distance.f a0 a1 b0 b1 b2 b3 = some r) :
    Calls Try.prog 99 #[.agg #[.int .i64 a0, .int .i64 a1], .agg #[.int .i64 b0, .int .i64 b1, .int .i64 b2, .int .i64 b3]] w fun e w' => e = .returned (.int .i64 r) ∧ Below w.heap.size w w' := by
  have hr := Option.some.inj h
  subst hr
  clear h
  have B := Lib.hid (Below.refl w.heap.size w)
  go_enter Try.func99, Try.ntmps99
  go_wp2_with (first
    | ((with_reducible refine gate_dst (N := 2) rfl ?_); refine box_event rfl (N := 2) rfl (cs := #[.int .i64 a0, .int .i64 a1]) (t := 36) ?hr ?_; (case hr => first | (go_simp; done) | (go_simp; rfl)); intro g2 hg w1 hbox hb; have X := Lib.hid (show Box w1 g2 _ _ from hbox); replace B := Lib.hid (B.out.trans (hb.mono B.out.size)); clear hb hg hbox)
    | ((with_reducible refine gate_dst (N := 3) rfl ?_); refine box_event rfl (N := 3) rfl (cs := #[.int .i64 b0, .int .i64 b1, .int .i64 b2, .int .i64 b3]) (t := 65) ?hr ?_; (case hr => first | (go_simp; done) | (go_simp; rfl)); intro g3 hg w2 hbox hb; have Y := X.out.below hb; have Z : Box w2 g3 _ _ := hbox; have y0 := Y.cell 0 _ rfl; have y1 := Y.cell 1 _ rfl; have z0 := Z.cell 0 _ rfl; have z1 := Z.cell 1 _ rfl; have z2 := Z.cell 2 _ rfl; have z3 := Z.cell 3 _ rfl; replace B := Lib.hid (B.out.trans (hb.mono B.out.size)); clear hb hg hbox Y Z))
  all_goals
    go_ret
    refine ⟨ret_int64 ?_, B.out⟩
    unfold mx
    (repeat' split) <;> omega
end Go.Proofs.Yteepckjegpnffaa.P

/-! ### Px34 -/
namespace Go.Proofs.Yteepckjegpnffaa.P
open Go.RowKit Go.Proofs.YteepckjegpnffaaW.PrintWords Go.Proofs.YteepckjegpnffaaW.PrintLast Go.Proofs.YteepckjegpnffaaW.PrintMore
attribute [local go_sem] max2_int min2_int max_two min_two max_three min_three max_four min_four   -- for this text's walks alone
set_option linter.unusedVariables false
set_option linter.unusedSimpArgs false

/-! ### impl_NearestEntry: function 35 -/
mutual
def impl_NearestEntry.j0 : Nat → Bool → List (S94) → List (List Int) → Int → Int → Option (Int × Int)
  | 0, _, _, _, _, _ => none
  | k + 1, x24, x251000, x251001, x252000, x252001 => if x24 = true then (some (0, (-1))) else (impl_NearestEntry.l0 k 0 (-1) x251000 (x251000.length : Int) 0 x252000 x252001)
def impl_NearestEntry.l0 : Nat → Int → Int → List (S94) → Int → Int → Int → Int → Option (Int × Int)
  | 0, _, _, _, _, _, _, _ => none
  | k + 1, x6, x7, x26, x27, x28, x252000, x252001 => if x28 < x27 then (if 0 ≤ x28 then (if x28 < (x26.length : Int) then ((impl_cellDistance.f ((rd_T94 x26 x28).f1.f0) ((rd_T94 x26 x28).f1.f1) ((rd_T94 x26 x28).f1.f2) ((rd_T94 x26 x28).f1.f3) x252000 x252001 (wrap64 (x252000 + 1)) (wrap64 (x252001 + 1))).bind fun t256 => (if x7 < 0 then (impl_NearestEntry.l0 k ((rd_T94 x26 x28).f0) t256 x26 x27 (wrap64 (x28 + 1)) x252000 x252001) else (if t256 < x7 then (impl_NearestEntry.l0 k ((rd_T94 x26 x28).f0) t256 x26 x27 (wrap64 (x28 + 1)) x252000 x252001) else (impl_NearestEntry.l0 k x6 x7 x26 x27 (wrap64 (x28 + 1)) x252000 x252001)))) else (none)) else (none)) else (some (x6, x7))
end
def impl_NearestEntry.f (k : Nat) (l0_0 : List (S94)) (l0_1 : List (List Int)) (a1_0 : Int) (a1_1 : Int) : Option (Int × Int) := (impl_IsValidIndex.f l0_0 l0_1).bind fun t252 => (if t252 = true then ((impl_isUnitCell.f a1_0 a1_1).bind fun t253 => (if t253 = true then (impl_NearestEntry.j0 k ((l0_0.length : Int) == 0) l0_0 l0_1 a1_0 a1_1) else (impl_NearestEntry.j0 k true l0_0 l0_1 a1_0 a1_1))) else (impl_NearestEntry.j0 k true l0_0 l0_1 a1_0 a1_1))
theorem impl_NearestEntry.mono_l : ∀ k, (∀ y0 y1 y2 y3 y4, LeO (impl_NearestEntry.j0 k y0 y1 y2 y3 y4) (impl_NearestEntry.j0 (k + 1) y0 y1 y2 y3 y4)) ∧ (∀ y0 y1 y2 y3 y4 y5 y6, LeO (impl_NearestEntry.l0 k y0 y1 y2 y3 y4 y5 y6) (impl_NearestEntry.l0 (k + 1) y0 y1 y2 y3 y4 y5 y6))
  | 0 => ⟨fun _ _ _ _ _ r h => by simp [impl_NearestEntry.j0] at h, fun _ _ _ _ _ _ _ r h => by simp [impl_NearestEntry.l0] at h⟩
  | k + 1 => by
    obtain ⟨ih0, ih1⟩ := impl_NearestEntry.mono_l k
    refine ⟨?_, ?_⟩
    · intro y0 y1 y2 y3 y4
      unfold impl_NearestEntry.j0
      repeat' first
      | (with_reducible exact ih0 _ _ _ _ _)
      | (with_reducible exact ih1 _ _ _ _ _ _ _)
      | (with_reducible exact LeO.refl _)
      | (with_reducible exact LeO.none _)
      | (with_reducible refine LeO.ite ?_ ?_)
      | (with_reducible refine LeO.bind ?_ (fun _ => ?_))
      | exact ih0 _ _ _ _ _
      | exact ih1 _ _ _ _ _ _ _
      | exact LeO.none _
      | refine LeO.ite ?_ ?_
      | refine LeO.bind ?_ (fun _ => ?_)
    · intro y0 y1 y2 y3 y4 y5 y6
      unfold impl_NearestEntry.l0
      repeat' first
      | (with_reducible exact ih0 _ _ _ _ _)
      | (with_reducible exact ih1 _ _ _ _ _ _ _)
      | (with_reducible exact LeO.refl _)
      | (with_reducible exact LeO.none _)
      | (with_reducible refine LeO.ite ?_ ?_)
      | (with_reducible refine LeO.bind ?_ (fun _ => ?_))
      | exact ih0 _ _ _ _ _
      | exact ih1 _ _ _ _ _ _ _
      | exact LeO.none _
      | refine LeO.ite ?_ ?_
      | refine LeO.bind ?_ (fun _ => ?_)
theorem impl_NearestEntry.mono : ∀ a0 a1 a2 a3 k, LeO (impl_NearestEntry.f k a0 a1 a2 a3) (impl_NearestEntry.f (k + 1) a0 a1 a2 a3) := by
  intro a0 a1 a2 a3 k
  obtain ⟨ih0, ih1⟩ := impl_NearestEntry.mono_l k
  unfold impl_NearestEntry.f
  repeat' first
      | (with_reducible exact ih0 _ _ _ _ _)
      | (with_reducible exact ih1 _ _ _ _ _ _ _)
      | (with_reducible exact LeO.refl _)
      | (with_reducible exact LeO.none _)
      | (with_reducible refine LeO.ite ?_ ?_)
      | (with_reducible refine LeO.bind ?_ (fun _ => ?_))
      | exact ih0 _ _ _ _ _
      | exact ih1 _ _ _ _ _ _ _
      | exact LeO.none _
      | refine LeO.ite ?_ ?_
      | refine LeO.bind ?_ (fun _ => ?_)
set_option maxHeartbeats 8000000 in
set_option maxRecDepth 100000 in
theorem impl_NearestEntry.calls (k : Nat) (A0_0 : Option Addr) (c0_0 : Nat) (l0_0 : List (S94)) (A0_1 : Option Addr) (c0_1 : Nat) (l0_1 : List (List Int)) (a1_0 : Int) (a1_1 : Int) (r1 : Int) (r2 : Int) (w : World) (hr0_0 : Kd.C k94 w A0_0 l0_0.length l0_0) (hc0_0 : l0_0.length ≤ c0_0) (hr0_1 : Kd.C (Kd.slice 2 (Kd.int .i64)) w A0_1 l0_1.length l0_1) (hc0_1 : l0_1.length ≤ c0_1) (h : impl_NearestEntry.f k l0_0 l0_1 a1_0 a1_1 = some (r1, r2)) :
    Calls Try.prog 35 #[.agg #[.slice A0_0 l0_0.length c0_0, .slice A0_1 l0_1.length c0_1], .agg #[.int .i64 a1_0, .int .i64 a1_1]] w fun e w' => e = .returned (.tuple #[.int .i64 r1, .int .i64 r2]) ∧ Below w.heap.size w w' := by
  have hu42 := Try.underlying42
  have hu36 := Try.underlying36
  have hu94 := Try.underlying94
  have hu65 := Try.underlying65
  have HR0_0 := Aside0.mk hr0_0
  have HC0_0 := Aside0.mk hc0_0
  clear hr0_0 hc0_0
  have HR0_1 := Aside0.mk hr0_1
  have HC0_1 := Aside0.mk hc0_1
  clear hr0_1 hc0_1
  have HB := Aside0.mk (Below.refl w.heap.size w)
  have H : ((impl_IsValidIndex.f l0_0 l0_1).bind fun t252 => (if t252 = true then ((impl_isUnitCell.f a1_0 a1_1).bind fun t253 => (if t253 = true then (impl_NearestEntry.j0 k ((l0_0.length : Int) == 0) l0_0 l0_1 a1_0 a1_1) else (impl_NearestEntry.j0 k true l0_0 l0_1 a1_0 a1_1))) else (impl_NearestEntry.j0 k true l0_0 l0_1 a1_0 a1_1))) = some (r1, r2) := h
  clear h
  have HC3 := Aside0.mk H
  clear H
  go_enter Try.func35, Try.ntmps35
  go_upto_region 1 with (first | ((with_reducible refine gate_dst (N := 2) rfl ?_); (try (refine gate_guard (by rfl) ?_; dsimp only)); refine box_event ?hg (N := 2) ?hd (cs := #[.slice A0_0 l0_0.length c0_0, .slice A0_1 l0_1.length c0_1]) (t := 42) ?hr ?_; (case hd => rfl); (case hg => rfl); (case hr => first | (go_simp; done) | (go_simp; rfl)); intro gb250 hg w4 hbox hb; have n0_ := Aside0.mk (below_step (by repeat (first | (with_reducible first | exact HB.out | apply below_alloc | apply pw_below_drewN | apply below_drew1) | exact HB.out)) hb); have n1_ := Aside0.mk (hbox); have n2_ := Aside0.mk ((by rw [hg]; exact (below_size (by repeat (first | (with_reducible first | exact HB.out | apply below_alloc | apply pw_below_drewN | apply below_drew1) | exact HB.out))) : w.heap.size ≤ gb250)); have n3_ := Aside0.mk ((by rw [hg]; exact (below_size (by repeat (first | (with_reducible first | exact HB.out | apply below_alloc | apply pw_below_drewN | apply below_drew1) | exact HB.out))) : w.heap.size ≤ gb250)); clear HB; have HB := n0_; have BK250 := n1_; have GW250 := n2_; have GE250 := n3_; clear n0_ n1_ n2_ n3_; clear hb hbox hg) | ((with_reducible refine gate_dst (N := 3) rfl ?_); (try (refine gate_guard (by rfl) ?_; dsimp only)); refine box_event ?hg (N := 3) ?hd (cs := #[.int .i64 a1_0, .int .i64 a1_1]) (t := 36) ?hr ?_; (case hd => rfl); (case hg => rfl); (case hr => first | (go_simp; done) | (go_simp; rfl)); intro gb251 hg w5 hbox hb; have n0_ := Aside0.mk (blk_below (g := gb250) (o := .cells #[.slice A0_0 l0_0.length c0_0, .slice A0_1 l0_1.length c0_1] 42 (0, 0)) (by (with_reducible repeat (first | refine blk_drewN ?_ _ | refine blk_drew ?_ | refine blk_alloc ?_ _)); exact BK250.out) hb); have n1_ := Aside0.mk (below_step (by repeat (first | (with_reducible first | exact HB.out | apply below_alloc | apply pw_below_drewN | apply below_drew1 | refine below_set ?_ GE250.out) | exact HB.out)) hb); have n2_ := Aside0.mk (hbox); have n3_ := Aside0.mk ((by rw [hg]; exact (below_size (by repeat (first | (with_reducible first | exact HB.out | apply below_alloc | apply pw_below_drewN | apply below_drew1 | refine below_set ?_ GE250.out) | exact HB.out))) : w.heap.size ≤ gb251)); have n4_ := Aside0.mk ((by rw [hg]; exact (below_size (by repeat (first | (with_reducible first | exact HB.out | apply below_alloc | apply pw_below_drewN | apply below_drew1 | refine below_set ?_ GE250.out) | exact HB.out))) : w.heap.size ≤ gb251)); have n5_ := Aside0.mk ((by rw [hg]; exact Nat.ne_of_lt (blk_lt (g := gb250) (o := .cells #[.slice A0_0 l0_0.length c0_0, .slice A0_1 l0_1.length c0_1] 42 (0, 0)) (by (with_reducible repeat (first | refine blk_drewN ?_ _ | refine blk_drew ?_ | refine blk_alloc ?_ _)); exact BK250.out)) : gb250 ≠ gb251)); have n6_ := Aside0.mk ((by rw [hg]; exact Nat.ne_of_gt (blk_lt (g := gb250) (o := .cells #[.slice A0_0 l0_0.length c0_0, .slice A0_1 l0_1.length c0_1] 42 (0, 0)) (by (with_reducible repeat (first | refine blk_drewN ?_ _ | refine blk_drew ?_ | refine blk_alloc ?_ _)); exact BK250.out)) : gb251 ≠ gb250)); clear BK250; clear HB; have BK250 := n0_; have HB := n1_; have BK251 := n2_; have GW251 := n3_; have GE251 := n4_; have NB250_251 := n5_; have NB251_250 := n6_; clear n0_ n1_ n2_ n3_ n4_ n5_ n6_; clear hb hbox hg))
  (try simp only [Act.put, List.setIfInBounds_toArray, List.set_cons_zero, List.set_cons_succ])
  go_cut [24] (fun v24 wc => ∃ (kq : Nat) (x24_2 : Bool), v24 = .bool x24_2 ∧ Aside0 (impl_NearestEntry.j0 kq x24_2 l0_0 l0_1 a1_0 a1_1 = some (r1, r2)) ∧ Aside0 (kq ≤ k) ∧ Aside0 (wc.heap[gb250]? = some (.cells #[(.slice A0_0 l0_0.length c0_0), (.slice A0_1 l0_1.length c0_1)] 42 (0, 0))) ∧ Aside0 (wc.heap[gb251]? = some (.cells #[.int .i64 a1_0, .int .i64 a1_1] 36 (0, 0))) ∧ Aside0 (Below w.heap.size w wc))
  case first =>
    have H := HC3.out
    clear HC3
    replace H := Option.bind_eq_some_iff.mp H
    obtain ⟨t252, A60, H⟩ := H
    replace H : (if t252 = true then ((impl_isUnitCell.f a1_0 a1_1).bind fun t253 => (if t253 = true then (impl_NearestEntry.j0 k ((l0_0.length : Int) == 0) l0_0 l0_1 a1_0 a1_1) else (impl_NearestEntry.j0 k true l0_0 l0_1 a1_0 a1_1))) else (impl_NearestEntry.j0 k true l0_0 l0_1 a1_0 a1_1)) = some (r1, r2) := H
    have A6 := Aside0.mk A60
    clear A60
    by_cases c7 : t252 = true
    · subst c7
      have H1 : ((impl_isUnitCell.f a1_0 a1_1).bind fun t253 => (if t253 = true then (impl_NearestEntry.j0 k ((l0_0.length : Int) == 0) l0_0 l0_1 a1_0 a1_1) else (impl_NearestEntry.j0 k true l0_0 l0_1 a1_0 a1_1))) = some (r1, r2) := by rw [if_pos rfl] at H; exact H
      clear H
      have H := H1
      clear H1
      replace H := Option.bind_eq_some_iff.mp H
      obtain ⟨t253, A80, H⟩ := H
      replace H : (if t253 = true then (impl_NearestEntry.j0 k ((l0_0.length : Int) == 0) l0_0 l0_1 a1_0 a1_1) else (impl_NearestEntry.j0 k true l0_0 l0_1 a1_0 a1_1)) = some (r1, r2) := H
      have A8 := Aside0.mk A80
      clear A80
      by_cases c9 : t253 = true
      · subst c9
        have H1 : (impl_NearestEntry.j0 k ((l0_0.length : Int) == 0) l0_0 l0_1 a1_0 a1_1) = some (r1, r2) := by rw [if_pos rfl] at H; exact H
        clear H
        have H := H1
        clear H1
        have H' := Aside0.mk H
        clear H
        have hnb10 := NB250_251.out
        have hnc10 := NB251_250.out
        have hcz11_0 : w5.cell? ⟨gb250, 0, none⟩ = some (.slice A0_0 l0_0.length c0_0) := (blk_cell BK250.out 0).trans rfl
        have hcz11_1 : w5.cell? ⟨gb250, 1, none⟩ = some (.slice A0_1 l0_1.length c0_1) := (blk_cell BK250.out 1).trans rfl
        have hfz11_0 := blk_frozen BK250.out 0
        have hfz11_1 := blk_frozen BK250.out 1
        go_wp2_with (first | ((with_reducible refine gate_callee (f := 41) rfl ?_); refine goesL_ (some 12) rfl rfl Try.func41 (by kernel_rfl) rfl #[.agg #[.slice A0_0 l0_0.length c0_0, .slice A0_1 l0_1.length c0_1]] rfl (by (try simp only [List.map_toArray, List.map_cons, List.map_nil]); first | done | rfl | (simp only [List.length_drop, List.length_take]; rfl)) ?_; (with_reducible refine (impl_IsValidIndex.calls _ _ l0_0 _ _ l0_1 true _ ?side1 ?side2 ?side3 ?side4 A6.out).mono ?_); (case side1 => repeat (first | exact (Kd.C_below HR0_0.out HB.out) | (with_reducible refine Kd.C_alloc ?_ _) | (with_reducible refine Kd.C_drewN ?_ _) | (with_reducible refine Kd.C_drew ?_))); (case side2 => exact HC0_0.out); (case side3 => repeat (first | exact (Kd.C_below HR0_1.out HB.out) | (with_reducible refine Kd.C_alloc ?_ _) | (with_reducible refine Kd.C_drewN ?_ _) | (with_reducible refine Kd.C_drew ?_))); (case side4 => exact HC0_1.out); rintro e w12 ⟨rfl, hb⟩; refine ⟨_, rfl, ?_⟩; have n0_ := Aside0.mk (blk_below (g := gb250) (o := .cells #[.slice A0_0 l0_0.length c0_0, .slice A0_1 l0_1.length c0_1] 42 (0, 0)) (by (with_reducible repeat (first | refine blk_drewN ?_ _ | refine blk_drew ?_ | refine blk_alloc ?_ _)); exact BK250.out) hb); have n1_ := Aside0.mk (blk_below (g := gb251) (o := .cells #[.int .i64 a1_0, .int .i64 a1_1] 36 (0, 0)) (by (with_reducible repeat (first | refine blk_drewN ?_ _ | refine blk_drew ?_ | refine blk_alloc ?_ _)); exact BK251.out) hb); have n2_ := Aside0.mk (below_step (by repeat (first | (with_reducible first | exact HB.out | apply below_alloc | apply pw_below_drewN | apply below_drew1 | refine below_set ?_ GE250.out | refine below_set ?_ GE251.out) | exact HB.out)) hb); clear BK250; clear BK251; clear HB; have BK250 := n0_; have BK251 := n1_; have HB := n2_; clear n0_ n1_ n2_; (try clear hb); (try clear hb2); (try clear hk); (try clear hi); have hcz13_0 : w12.cell? ⟨gb251, 0, none⟩ = some (.int .i64 a1_0) := (blk_cell BK251.out 0).trans rfl; have hcz13_1 : w12.cell? ⟨gb251, 1, none⟩ = some (.int .i64 a1_1) := (blk_cell BK251.out 1).trans rfl; have hfz13_0 := blk_frozen BK251.out 0; have hfz13_1 := blk_frozen BK251.out 1) | (go_at_call 83; (with_reducible refine (impl_isUnitCell.calls a1_0 a1_1 true _ A8.out).mono ?_); rintro e w14 ⟨rfl, hb⟩; have n0_ := Aside0.mk (blk_below (g := gb250) (o := .cells #[.slice A0_0 l0_0.length c0_0, .slice A0_1 l0_1.length c0_1] 42 (0, 0)) (by (with_reducible repeat (first | refine blk_drewN ?_ _ | refine blk_drew ?_ | refine blk_alloc ?_ _)); exact BK250.out) hb); have n1_ := Aside0.mk (blk_below (g := gb251) (o := .cells #[.int .i64 a1_0, .int .i64 a1_1] 36 (0, 0)) (by (with_reducible repeat (first | refine blk_drewN ?_ _ | refine blk_drew ?_ | refine blk_alloc ?_ _)); exact BK251.out) hb); have n2_ := Aside0.mk (below_step (by repeat (first | (with_reducible first | exact HB.out | apply below_alloc | apply pw_below_drewN | apply below_drew1 | refine below_set ?_ GE250.out | refine below_set ?_ GE251.out) | exact HB.out)) hb); clear BK250; clear BK251; clear HB; have BK250 := n0_; have BK251 := n1_; have HB := n2_; clear n0_ n1_ n2_; (try clear hb); (try clear hb2); (try clear hk); (try clear hi); have hcz15_0 : w14.cell? ⟨gb250, 0, none⟩ = some (.slice A0_0 l0_0.length c0_0) := (blk_cell BK250.out 0).trans rfl; have hcz15_1 : w14.cell? ⟨gb250, 1, none⟩ = some (.slice A0_1 l0_1.length c0_1) := (blk_cell BK250.out 1).trans rfl; have hfz15_0 := blk_frozen BK250.out 0; have hfz15_1 := blk_frozen BK250.out 1))
        go_meet
        case rel => exact ⟨_, (((l0_0.length : Int) == 0)), (by first | rfl | (simp; done) | (simp [*]; done)), H', ⟨by first | omega | exact Nat.le_refl _⟩, ⟨by (with_reducible repeat (first | refine blk_drewN ?_ _ | refine blk_drew ?_ | refine blk_alloc ?_ _)); exact BK250.out⟩, ⟨by (with_reducible repeat (first | refine blk_drewN ?_ _ | refine blk_drew ?_ | refine blk_alloc ?_ _)); exact BK251.out⟩, ⟨by repeat (first | (with_reducible first | exact HB.out | apply below_alloc | apply pw_below_drewN | apply below_drew1 | refine below_set ?_ GE250.out | refine below_set ?_ GE251.out) | exact HB.out)⟩⟩
      · replace c9 := Bool.eq_false_iff.mpr c9
        subst c9
        have H1 : (impl_NearestEntry.j0 k true l0_0 l0_1 a1_0 a1_1) = some (r1, r2) := by rw [if_neg (show ¬ (false = true) by decide)] at H; exact H
        clear H
        have H := H1
        clear H1
        have H' := Aside0.mk H
        clear H
        have hnb16 := NB250_251.out
        have hnc16 := NB251_250.out
        have hcz17_0 : w5.cell? ⟨gb250, 0, none⟩ = some (.slice A0_0 l0_0.length c0_0) := (blk_cell BK250.out 0).trans rfl
        have hcz17_1 : w5.cell? ⟨gb250, 1, none⟩ = some (.slice A0_1 l0_1.length c0_1) := (blk_cell BK250.out 1).trans rfl
        have hfz17_0 := blk_frozen BK250.out 0
        have hfz17_1 := blk_frozen BK250.out 1
        go_wp2_with (first | ((with_reducible refine gate_callee (f := 41) rfl ?_); refine goesL_ (some 12) rfl rfl Try.func41 (by kernel_rfl) rfl #[.agg #[.slice A0_0 l0_0.length c0_0, .slice A0_1 l0_1.length c0_1]] rfl (by (try simp only [List.map_toArray, List.map_cons, List.map_nil]); first | done | rfl | (simp only [List.length_drop, List.length_take]; rfl)) ?_; (with_reducible refine (impl_IsValidIndex.calls _ _ l0_0 _ _ l0_1 true _ ?side1 ?side2 ?side3 ?side4 A6.out).mono ?_); (case side1 => repeat (first | exact (Kd.C_below HR0_0.out HB.out) | (with_reducible refine Kd.C_alloc ?_ _) | (with_reducible refine Kd.C_drewN ?_ _) | (with_reducible refine Kd.C_drew ?_))); (case side2 => exact HC0_0.out); (case side3 => repeat (first | exact (Kd.C_below HR0_1.out HB.out) | (with_reducible refine Kd.C_alloc ?_ _) | (with_reducible refine Kd.C_drewN ?_ _) | (with_reducible refine Kd.C_drew ?_))); (case side4 => exact HC0_1.out); rintro e w18 ⟨rfl, hb⟩; refine ⟨_, rfl, ?_⟩; have n0_ := Aside0.mk (blk_below (g := gb250) (o := .cells #[.slice A0_0 l0_0.length c0_0, .slice A0_1 l0_1.length c0_1] 42 (0, 0)) (by (with_reducible repeat (first | refine blk_drewN ?_ _ | refine blk_drew ?_ | refine blk_alloc ?_ _)); exact BK250.out) hb); have n1_ := Aside0.mk (blk_below (g := gb251) (o := .cells #[.int .i64 a1_0, .int .i64 a1_1] 36 (0, 0)) (by (with_reducible repeat (first | refine blk_drewN ?_ _ | refine blk_drew ?_ | refine blk_alloc ?_ _)); exact BK251.out) hb); have n2_ := Aside0.mk (below_step (by repeat (first | (with_reducible first | exact HB.out | apply below_alloc | apply pw_below_drewN | apply below_drew1 | refine below_set ?_ GE250.out | refine below_set ?_ GE251.out) | exact HB.out)) hb); clear BK250; clear BK251; clear HB; have BK250 := n0_; have BK251 := n1_; have HB := n2_; clear n0_ n1_ n2_; (try clear hb); (try clear hb2); (try clear hk); (try clear hi); have hcz19_0 : w18.cell? ⟨gb251, 0, none⟩ = some (.int .i64 a1_0) := (blk_cell BK251.out 0).trans rfl; have hcz19_1 : w18.cell? ⟨gb251, 1, none⟩ = some (.int .i64 a1_1) := (blk_cell BK251.out 1).trans rfl; have hfz19_0 := blk_frozen BK251.out 0; have hfz19_1 := blk_frozen BK251.out 1) | (go_at_call 83; (with_reducible refine (impl_isUnitCell.calls a1_0 a1_1 false _ A8.out).mono ?_); rintro e w20 ⟨rfl, hb⟩; have n0_ := Aside0.mk (blk_below (g := gb250) (o := .cells #[.slice A0_0 l0_0.length c0_0, .slice A0_1 l0_1.length c0_1] 42 (0, 0)) (by (with_reducible repeat (first | refine blk_drewN ?_ _ | refine blk_drew ?_ | refine blk_alloc ?_ _)); exact BK250.out) hb); have n1_ := Aside0.mk (blk_below (g := gb251) (o := .cells #[.int .i64 a1_0, .int .i64 a1_1] 36 (0, 0)) (by (with_reducible repeat (first | refine blk_drewN ?_ _ | refine blk_drew ?_ | refine blk_alloc ?_ _)); exact BK251.out) hb); have n2_ := Aside0.mk (below_step (by repeat (first | (with_reducible first | exact HB.out | apply below_alloc | apply pw_below_drewN | apply below_drew1 | refine below_set ?_ GE250.out | refine below_set ?_ GE251.out) | exact HB.out)) hb); clear BK250; clear BK251; clear HB; have BK250 := n0_; have BK251 := n1_; have HB := n2_; clear n0_ n1_ n2_; (try clear hb); (try clear hb2); (try clear hk); (try clear hi)))
        go_meet
        case rel => exact ⟨_, (true), (by first | rfl | (simp; done) | (simp [*]; done)), H', ⟨by first | omega | exact Nat.le_refl _⟩, ⟨by (with_reducible repeat (first | refine blk_drewN ?_ _ | refine blk_drew ?_ | refine blk_alloc ?_ _)); exact BK250.out⟩, ⟨by (with_reducible repeat (first | refine blk_drewN ?_ _ | refine blk_drew ?_ | refine blk_alloc ?_ _)); exact BK251.out⟩, ⟨by repeat (first | (with_reducible first | exact HB.out | apply below_alloc | apply pw_below_drewN | apply below_drew1 | refine below_set ?_ GE250.out | refine below_set ?_ GE251.out) | exact HB.out)⟩⟩
    · replace c7 := Bool.eq_false_iff.mpr c7
      subst c7
      have H1 : (impl_NearestEntry.j0 k true l0_0 l0_1 a1_0 a1_1) = some (r1, r2) := by rw [if_neg (show ¬ (false = true) by decide)] at H; exact H
      clear H
      have H := H1
      clear H1
      have H' := Aside0.mk H
      clear H
      have hnb21 := NB250_251.out
      have hnc21 := NB251_250.out
      have hcz22_0 : w5.cell? ⟨gb250, 0, none⟩ = some (.slice A0_0 l0_0.length c0_0) := (blk_cell BK250.out 0).trans rfl
      have hcz22_1 : w5.cell? ⟨gb250, 1, none⟩ = some (.slice A0_1 l0_1.length c0_1) := (blk_cell BK250.out 1).trans rfl
      have hfz22_0 := blk_frozen BK250.out 0
      have hfz22_1 := blk_frozen BK250.out 1
      go_wp2_with (first | ((with_reducible refine gate_callee (f := 41) rfl ?_); refine goesL_ (some 12) rfl rfl Try.func41 (by kernel_rfl) rfl #[.agg #[.slice A0_0 l0_0.length c0_0, .slice A0_1 l0_1.length c0_1]] rfl (by (try simp only [List.map_toArray, List.map_cons, List.map_nil]); first | done | rfl | (simp only [List.length_drop, List.length_take]; rfl)) ?_; (with_reducible refine (impl_IsValidIndex.calls _ _ l0_0 _ _ l0_1 false _ ?side1 ?side2 ?side3 ?side4 A6.out).mono ?_); (case side1 => repeat (first | exact (Kd.C_below HR0_0.out HB.out) | (with_reducible refine Kd.C_alloc ?_ _) | (with_reducible refine Kd.C_drewN ?_ _) | (with_reducible refine Kd.C_drew ?_))); (case side2 => exact HC0_0.out); (case side3 => repeat (first | exact (Kd.C_below HR0_1.out HB.out) | (with_reducible refine Kd.C_alloc ?_ _) | (with_reducible refine Kd.C_drewN ?_ _) | (with_reducible refine Kd.C_drew ?_))); (case side4 => exact HC0_1.out); rintro e w23 ⟨rfl, hb⟩; refine ⟨_, rfl, ?_⟩; have n0_ := Aside0.mk (blk_below (g := gb250) (o := .cells #[.slice A0_0 l0_0.length c0_0, .slice A0_1 l0_1.length c0_1] 42 (0, 0)) (by (with_reducible repeat (first | refine blk_drewN ?_ _ | refine blk_drew ?_ | refine blk_alloc ?_ _)); exact BK250.out) hb); have n1_ := Aside0.mk (blk_below (g := gb251) (o := .cells #[.int .i64 a1_0, .int .i64 a1_1] 36 (0, 0)) (by (with_reducible repeat (first | refine blk_drewN ?_ _ | refine blk_drew ?_ | refine blk_alloc ?_ _)); exact BK251.out) hb); have n2_ := Aside0.mk (below_step (by repeat (first | (with_reducible first | exact HB.out | apply below_alloc | apply pw_below_drewN | apply below_drew1 | refine below_set ?_ GE250.out | refine below_set ?_ GE251.out) | exact HB.out)) hb); clear BK250; clear BK251; clear HB; have BK250 := n0_; have BK251 := n1_; have HB := n2_; clear n0_ n1_ n2_; (try clear hb); (try clear hb2); (try clear hk); (try clear hi)))
      go_meet
      case rel => exact ⟨_, (true), (by first | rfl | (simp; done) | (simp [*]; done)), H', ⟨by first | omega | exact Nat.le_refl _⟩, ⟨by (with_reducible repeat (first | refine blk_drewN ?_ _ | refine blk_drew ?_ | refine blk_alloc ?_ _)); exact BK250.out⟩, ⟨by (with_reducible repeat (first | refine blk_drewN ?_ _ | refine blk_drew ?_ | refine blk_alloc ?_ _)); exact BK251.out⟩, ⟨by repeat (first | (with_reducible first | exact HB.out | apply below_alloc | apply pw_below_drewN | apply below_drew1 | refine below_set ?_ GE250.out | refine below_set ?_ GE251.out) | exact HB.out)⟩⟩
  case rest =>
    clear HC3
    try clear c1
    try clear c2
    try clear p2
    try clear c3
    try clear c4
    try clear c7
    try clear c9
    try clear c10
    try clear c16
    try clear c21
    try clear hcz11_0
    try clear hcz11_1
    try clear hcz13_0
    try clear hcz13_1
    try clear hcz15_0
    try clear hcz15_1
    try clear hcz17_0
    try clear hcz17_1
    try clear hcz19_0
    try clear hcz19_1
    try clear hcz22_0
    try clear hcz22_1
    try clear hfz11_0
    try clear hfz11_1
    try clear hfz13_0
    try clear hfz13_1
    try clear hfz15_0
    try clear hfz15_1
    try clear hfz17_0
    try clear hfz17_1
    try clear hfz19_0
    try clear hfz19_1
    try clear hfz22_0
    try clear hfz22_1
    obtain ⟨kq, x24_2, rfl, HA, HJ2, BK250, BK251, HB⟩ := hcut
    cases kq with
    | zero => exact absurd HA.out (by simp [impl_NearestEntry.j0])
    | succ kj2 =>
      have H := HA.out
      clear HA
      simp only [impl_NearestEntry.j0] at H
      by_cases c24 : x24_2 = true
      · subst c24
        have H1 : (some (0, (-1))) = some (r1, r2) := by rw [if_pos rfl] at H; exact H
        clear H
        have H := H1
        clear H1
        simp only [Option.some.injEq, Prod.mk.injEq] at H
        obtain ⟨rfl, rfl⟩ := H
        go_wp2
        go_ret2
        exact ⟨by first | rfl | (simp [errW_none, errW_some] <;> rfl) | (simp [*, errW_none, errW_some] <;> rfl), by repeat (first | (with_reducible first | exact HB.out | apply below_alloc | apply pw_below_drewN | apply below_drew1 | refine below_set ?_ GE250.out | refine below_set ?_ GE251.out) | exact HB.out)⟩
      · replace c24 := Bool.eq_false_iff.mpr c24
        subst c24
        have H1 : (impl_NearestEntry.l0 kj2 0 (-1) l0_0 (l0_0.length : Int) 0 a1_0 a1_1) = some (r1, r2) := by rw [if_neg (show ¬ (false = true) by decide)] at H; exact H
        clear H
        have H := H1
        clear H1
        have H' := Aside0.mk H
        clear H
        have hnb25 := NB250_251.out
        have hnc25 := NB251_250.out
        have hcz26_0 : wc.cell? ⟨gb250, 0, none⟩ = some (.slice A0_0 l0_0.length c0_0) := (blk_cell BK250.out 0).trans rfl
        have hcz26_1 : wc.cell? ⟨gb250, 1, none⟩ = some (.slice A0_1 l0_1.length c0_1) := (blk_cell BK250.out 1).trans rfl
        have hfz26_0 := blk_frozen BK250.out 0
        have hfz26_1 := blk_frozen BK250.out 1
        go_wp2
        go_loopg [6, 7, 28] kj2 (fun kq v6 v7 v28 w' => ∃ (x6_2 : Int) (x7_2 : Int) (x28_2 : Int), v6 = .int .i64 x6_2 ∧ v7 = .int .i64 x7_2 ∧ v28 = .int .i64 x28_2 ∧ Aside0 (impl_NearestEntry.l0 kq x6_2 x7_2 l0_0 (l0_0.length : Int) x28_2 a1_0 a1_1 = some (r1, r2)) ∧ Aside0 (kq ≤ kj2) ∧ Aside0 (w'.heap[gb250]? = some (.cells #[(.slice A0_0 l0_0.length c0_0), (.slice A0_1 l0_1.length c0_1)] 42 (0, 0))) ∧ Aside0 (w'.heap[gb251]? = some (.cells #[.int .i64 a1_0, .int .i64 a1_1] 36 (0, 0))) ∧ Aside0 (Below w.heap.size w w'))
        case atStart => exact ⟨(0), ((-1)), (0), (by first | rfl | (simp; done) | (simp [*]; done)), (by first | rfl | (simp; done) | (simp [*]; done)), (by first | rfl | (simp; done) | (simp [*]; done)), H', ⟨Nat.le_refl _⟩, ⟨by (with_reducible repeat (first | refine blk_drewN ?_ _ | refine blk_drew ?_ | refine blk_alloc ?_ _)); exact BK250.out⟩, ⟨by (with_reducible repeat (first | refine blk_drewN ?_ _ | refine blk_drew ?_ | refine blk_alloc ?_ _)); exact BK251.out⟩, ⟨by repeat (first | (with_reducible first | exact HB.out | apply below_alloc | apply pw_below_drewN | apply below_drew1 | refine below_set ?_ GE250.out | refine below_set ?_ GE251.out) | exact HB.out)⟩⟩
        case round =>
          clear H'
          try clear c1
          try clear c2
          try clear p2
          try clear c3
          try clear c4
          try clear c7
          try clear c9
          try clear c10
          try clear c16
          try clear c21
          try clear c24
          try clear c25
          try clear hcz11_0
          try clear hcz11_1
          try clear hcz13_0
          try clear hcz13_1
          try clear hcz15_0
          try clear hcz15_1
          try clear hcz17_0
          try clear hcz17_1
          try clear hcz19_0
          try clear hcz19_1
          try clear hcz22_0
          try clear hcz22_1
          try clear hcz26_0
          try clear hcz26_1
          try clear hfz11_0
          try clear hfz11_1
          try clear hfz13_0
          try clear hfz13_1
          try clear hfz15_0
          try clear hfz15_1
          try clear hfz17_0
          try clear hfz17_1
          try clear hfz19_0
          try clear hfz19_1
          try clear hfz22_0
          try clear hfz22_1
          try clear hfz26_0
          try clear hfz26_1
          try clear p2
          obtain ⟨x6_2, x7_2, x28_2, rfl, rfl, rfl, HA, HK2, BK250, BK251, HB⟩ := hrel
          cases gk with
          | zero => exact absurd HA.out (by simp [impl_NearestEntry.l0])
          | succ k2 =>
            have H := HA.out
            clear HA
            simp only [impl_NearestEntry.l0] at H
            by_cases c27 : x28_2 < (l0_0.length : Int)
            · rw [if_pos c27] at H
              have c27b0 : decide (x28_2 < (l0_0.length : Int)) = true := decide_eq_true c27
              clear c27
              by_cases c28 : 0 ≤ x28_2
              · rw [if_pos c28] at H
                have c28b0 : decide (0 ≤ x28_2) = true := decide_eq_true c28
                clear c28
                by_cases c29 : x28_2 < (l0_0.length : Int)
                · rw [if_pos c29] at H
                  have c29b0 : decide (x28_2 < (l0_0.length : Int)) = true := decide_eq_true c29
                  clear c29
                  replace H := Option.bind_eq_some_iff.mp H
                  obtain ⟨t256, A300, H⟩ := H
                  replace H : (if x7_2 < 0 then (impl_NearestEntry.l0 k2 ((rd_T94 l0_0 x28_2).f0) t256 l0_0 (l0_0.length : Int) (wrap64 (x28_2 + 1)) a1_0 a1_1) else (if t256 < x7_2 then (impl_NearestEntry.l0 k2 ((rd_T94 l0_0 x28_2).f0) t256 l0_0 (l0_0.length : Int) (wrap64 (x28_2 + 1)) a1_0 a1_1) else (impl_NearestEntry.l0 k2 x6_2 x7_2 l0_0 (l0_0.length : Int) (wrap64 (x28_2 + 1)) a1_0 a1_1))) = some (r1, r2) := H
                  have A30 := Aside0.mk A300
                  clear A300
                  by_cases c31 : x7_2 < 0
                  · rw [if_pos c31] at H
                    have c31b0 : decide (x7_2 < 0) = true := decide_eq_true c31
                    clear c31
                    have H' := Aside0.mk H
                    clear H
                    have p254 : 0 ≤ (x28_2 : Int) := of_decide_eq_true (by first | (with_reducible assumption) | assumption)
                    have q254 : x28_2 < (l0_0.length : Int) := of_decide_eq_true (by first | (with_reducible assumption) | assumption)
                    obtain ⟨ad254, e254, hx254_0, hx254_1, hx254_2, hx254_3, hx254_4⟩ := at_T94 HR0_0.out x28_2 p254 q254
                    cases e254
                    replace hx254_0 := (HB.out.cell (World.block_lt_of_cell? _ _ hx254_0)).trans hx254_0
                    replace hx254_1 := (HB.out.cell (World.block_lt_of_cell? _ _ hx254_1)).trans hx254_1
                    replace hx254_2 := (HB.out.cell (World.block_lt_of_cell? _ _ hx254_2)).trans hx254_2
                    replace hx254_3 := (HB.out.cell (World.block_lt_of_cell? _ _ hx254_3)).trans hx254_3
                    replace hx254_4 := (HB.out.cell (World.block_lt_of_cell? _ _ hx254_4)).trans hx254_4
                    replace p254 := eq_true p254
                    replace q254 := eq_true q254
                    go_wp2_with (first | ((with_reducible refine gate_dst (N := 9) rfl ?_); (try (refine gate_guard (by rfl) ?_; dsimp only)); refine box_event ?hg (N := 9) ?hd (cs := #[.int .i64 0, .int .i64 0, .int .i64 0, .int .i64 0, .int .i64 0]) (t := 94) ?hr ?_; (case hd => rfl); (case hg => rfl); (case hr => first | (go_simp; done) | (go_simp; rfl)); intro gb255 hg w32 hbox hb; have n0_ := Aside0.mk (blk_below (g := gb250) (o := .cells #[.slice (some ad254) l0_0.length c0_0, .slice A0_1 l0_1.length c0_1] 42 (0, 0)) (by (with_reducible repeat (first | refine blk_drewN ?_ _ | refine blk_drew ?_ | refine blk_alloc ?_ _)); exact BK250.out) hb); have n1_ := Aside0.mk (blk_below (g := gb251) (o := .cells #[.int .i64 a1_0, .int .i64 a1_1] 36 (0, 0)) (by (with_reducible repeat (first | refine blk_drewN ?_ _ | refine blk_drew ?_ | refine blk_alloc ?_ _)); exact BK251.out) hb); have n2_ := Aside0.mk (below_step (by repeat (first | (with_reducible first | exact HB.out | apply below_alloc | apply pw_below_drewN | apply below_drew1 | refine below_set ?_ GE250.out | refine below_set ?_ GE251.out) | exact HB.out)) hb); have n3_ := Aside0.mk (hbox); have n4_ := Aside0.mk ((by rw [hg]; exact (below_size (by repeat (first | (with_reducible first | exact HB.out | apply below_alloc | apply pw_below_drewN | apply below_drew1 | refine below_set ?_ GE250.out | refine below_set ?_ GE251.out) | exact HB.out))) : w.heap.size ≤ gb255)); have n5_ := Aside0.mk ((by rw [hg]; exact (below_size (by repeat (first | (with_reducible first | exact HB.out | apply below_alloc | apply pw_below_drewN | apply below_drew1 | refine below_set ?_ GE250.out | refine below_set ?_ GE251.out) | exact HB.out))) : w.heap.size ≤ gb255)); have n6_ := Aside0.mk ((by rw [hg]; exact Nat.ne_of_lt (blk_lt (g := gb250) (o := .cells #[.slice (some ad254) l0_0.length c0_0, .slice A0_1 l0_1.length c0_1] 42 (0, 0)) (by (with_reducible repeat (first | refine blk_drewN ?_ _ | refine blk_drew ?_ | refine blk_alloc ?_ _)); exact BK250.out)) : gb250 ≠ gb255)); have n7_ := Aside0.mk ((by rw [hg]; exact Nat.ne_of_gt (blk_lt (g := gb250) (o := .cells #[.slice (some ad254) l0_0.length c0_0, .slice A0_1 l0_1.length c0_1] 42 (0, 0)) (by (with_reducible repeat (first | refine blk_drewN ?_ _ | refine blk_drew ?_ | refine blk_alloc ?_ _)); exact BK250.out)) : gb255 ≠ gb250)); have n8_ := Aside0.mk ((by rw [hg]; exact Nat.ne_of_lt (blk_lt (g := gb251) (o := .cells #[.int .i64 a1_0, .int .i64 a1_1] 36 (0, 0)) (by (with_reducible repeat (first | refine blk_drewN ?_ _ | refine blk_drew ?_ | refine blk_alloc ?_ _)); exact BK251.out)) : gb251 ≠ gb255)); have n9_ := Aside0.mk ((by rw [hg]; exact Nat.ne_of_gt (blk_lt (g := gb251) (o := .cells #[.int .i64 a1_0, .int .i64 a1_1] 36 (0, 0)) (by (with_reducible repeat (first | refine blk_drewN ?_ _ | refine blk_drew ?_ | refine blk_alloc ?_ _)); exact BK251.out)) : gb255 ≠ gb251)); clear BK250; clear BK251; clear HB; have BK250 := n0_; have BK251 := n1_; have HB := n2_; have BK255 := n3_; have GW255 := n4_; have GE255 := n5_; have NB250_255 := n6_; have NB255_250 := n7_; have NB251_255 := n8_; have NB255_251 := n9_; clear n0_ n1_ n2_ n3_ n4_ n5_ n6_ n7_ n8_ n9_; clear hb hbox hg; have hnb33 := NB255_250.out; have hnc33 := NB250_255.out; have hnb34 := NB255_251.out; have hnc34 := NB251_255.out; have hcz35_0 : w32.cell? ⟨gb255, 0, none⟩ = some (.int .i64 0) := (blk_cell BK255.out 0).trans rfl; have hcz35_1 : w32.cell? ⟨gb255, 1, none⟩ = some (.int .i64 0) := (blk_cell BK255.out 1).trans rfl; have hcz35_2 : w32.cell? ⟨gb255, 2, none⟩ = some (.int .i64 0) := (blk_cell BK255.out 2).trans rfl; have hcz35_3 : w32.cell? ⟨gb255, 3, none⟩ = some (.int .i64 0) := (blk_cell BK255.out 3).trans rfl; have hcz35_4 : w32.cell? ⟨gb255, 4, none⟩ = some (.int .i64 0) := (blk_cell BK255.out 4).trans rfl; have hfz35_0 := blk_frozen BK255.out 0; have hfz35_1 := blk_frozen BK255.out 1; have hfz35_2 := blk_frozen BK255.out 2; have hfz35_3 := blk_frozen BK255.out 3; have hfz35_4 := blk_frozen BK255.out 4; have hnb36 := NB251_250.out; have hnc36 := NB250_251.out; have hcz37_0 : w32.cell? ⟨gb251, 0, none⟩ = some (.int .i64 a1_0) := (blk_cell BK251.out 0).trans rfl; have hcz37_1 : w32.cell? ⟨gb251, 1, none⟩ = some (.int .i64 a1_1) := (blk_cell BK251.out 1).trans rfl; have hfz37_0 := blk_frozen BK251.out 0; have hfz37_1 := blk_frozen BK251.out 1) | ((with_reducible refine gate_callee (f := 84) rfl ?_); refine goesL_ (some 45) rfl rfl Try.func84 (by kernel_rfl) rfl #[.agg #[.int .i64 ((rd_T94 l0_0 x28_2).f1.f0), .int .i64 ((rd_T94 l0_0 x28_2).f1.f1), .int .i64 ((rd_T94 l0_0 x28_2).f1.f2), .int .i64 ((rd_T94 l0_0 x28_2).f1.f3)], .agg #[.int .i64 a1_0, .int .i64 a1_1, .int .i64 (wrap64 (a1_0 + 1)), .int .i64 (wrap64 (a1_1 + 1))]] rfl (by (try simp only [List.map_toArray, List.map_cons, List.map_nil]); first | done | rfl | (simp only [List.length_drop, List.length_take]; rfl)) ?_; (with_reducible refine (impl_cellDistance.calls ((rd_T94 l0_0 x28_2).f1.f0) ((rd_T94 l0_0 x28_2).f1.f1) ((rd_T94 l0_0 x28_2).f1.f2) ((rd_T94 l0_0 x28_2).f1.f3) a1_0 a1_1 (wrap64 (a1_0 + 1)) (wrap64 (a1_1 + 1)) t256 _ A30.out).mono ?_); rintro e w38 ⟨rfl, hb⟩; refine ⟨_, rfl, ?_⟩; have n0_ := Aside0.mk (blk_below (g := gb250) (o := .cells #[.slice (some ad254) l0_0.length c0_0, .slice A0_1 l0_1.length c0_1] 42 (0, 0)) (by (with_reducible repeat (first | refine blk_drewN ?_ _ | refine blk_drew ?_ | refine blk_alloc ?_ _)); refine blk_far ?_ NB250_255.out _; (with_reducible repeat (first | refine blk_drewN ?_ _ | refine blk_drew ?_ | refine blk_alloc ?_ _)); refine blk_far ?_ NB250_255.out _; (with_reducible repeat (first | refine blk_drewN ?_ _ | refine blk_drew ?_ | refine blk_alloc ?_ _)); refine blk_far ?_ NB250_255.out _; (with_reducible repeat (first | refine blk_drewN ?_ _ | refine blk_drew ?_ | refine blk_alloc ?_ _)); refine blk_far ?_ NB250_255.out _; (with_reducible repeat (first | refine blk_drewN ?_ _ | refine blk_drew ?_ | refine blk_alloc ?_ _)); refine blk_far ?_ NB250_255.out _; (with_reducible repeat (first | refine blk_drewN ?_ _ | refine blk_drew ?_ | refine blk_alloc ?_ _)); exact BK250.out) hb); have n1_ := Aside0.mk (blk_below (g := gb251) (o := .cells #[.int .i64 a1_0, .int .i64 a1_1] 36 (0, 0)) (by (with_reducible repeat (first | refine blk_drewN ?_ _ | refine blk_drew ?_ | refine blk_alloc ?_ _)); refine blk_far ?_ NB251_255.out _; (with_reducible repeat (first | refine blk_drewN ?_ _ | refine blk_drew ?_ | refine blk_alloc ?_ _)); refine blk_far ?_ NB251_255.out _; (with_reducible repeat (first | refine blk_drewN ?_ _ | refine blk_drew ?_ | refine blk_alloc ?_ _)); refine blk_far ?_ NB251_255.out _; (with_reducible repeat (first | refine blk_drewN ?_ _ | refine blk_drew ?_ | refine blk_alloc ?_ _)); refine blk_far ?_ NB251_255.out _; (with_reducible repeat (first | refine blk_drewN ?_ _ | refine blk_drew ?_ | refine blk_alloc ?_ _)); refine blk_far ?_ NB251_255.out _; (with_reducible repeat (first | refine blk_drewN ?_ _ | refine blk_drew ?_ | refine blk_alloc ?_ _)); exact BK251.out) hb); have n2_ := Aside0.mk (blk_below (g := gb255) (o := .cells #[.int .i64 ((rd_T94 l0_0 x28_2).f0), .int .i64 ((rd_T94 l0_0 x28_2).f1.f0), .int .i64 ((rd_T94 l0_0 x28_2).f1.f1), .int .i64 ((rd_T94 l0_0 x28_2).f1.f2), .int .i64 ((rd_T94 l0_0 x28_2).f1.f3)] 94 (0, 0)) (by (with_reducible repeat (first | refine blk_drewN ?_ _ | refine blk_drew ?_ | refine blk_alloc ?_ _)); refine blk_put (cs := #[.int .i64 ((rd_T94 l0_0 x28_2).f0), .int .i64 ((rd_T94 l0_0 x28_2).f1.f0), .int .i64 ((rd_T94 l0_0 x28_2).f1.f1), .int .i64 ((rd_T94 l0_0 x28_2).f1.f2), .int .i64 0]) ?_ 4 _ rfl; (with_reducible repeat (first | refine blk_drewN ?_ _ | refine blk_drew ?_ | refine blk_alloc ?_ _)); refine blk_put (cs := #[.int .i64 ((rd_T94 l0_0 x28_2).f0), .int .i64 ((rd_T94 l0_0 x28_2).f1.f0), .int .i64 ((rd_T94 l0_0 x28_2).f1.f1), .int .i64 0, .int .i64 0]) ?_ 3 _ rfl; (with_reducible repeat (first | refine blk_drewN ?_ _ | refine blk_drew ?_ | refine blk_alloc ?_ _)); refine blk_put (cs := #[.int .i64 ((rd_T94 l0_0 x28_2).f0), .int .i64 ((rd_T94 l0_0 x28_2).f1.f0), .int .i64 0, .int .i64 0, .int .i64 0]) ?_ 2 _ rfl; (with_reducible repeat (first | refine blk_drewN ?_ _ | refine blk_drew ?_ | refine blk_alloc ?_ _)); refine blk_put (cs := #[.int .i64 ((rd_T94 l0_0 x28_2).f0), .int .i64 0, .int .i64 0, .int .i64 0, .int .i64 0]) ?_ 1 _ rfl; (with_reducible repeat (first | refine blk_drewN ?_ _ | refine blk_drew ?_ | refine blk_alloc ?_ _)); refine blk_put (cs := #[.int .i64 0, .int .i64 0, .int .i64 0, .int .i64 0, .int .i64 0]) ?_ 0 _ rfl; (with_reducible repeat (first | refine blk_drewN ?_ _ | refine blk_drew ?_ | refine blk_alloc ?_ _)); exact BK255.out) hb); have n3_ := Aside0.mk (below_step (by repeat (first | (with_reducible first | exact HB.out | apply below_alloc | apply pw_below_drewN | apply below_drew1 | refine below_set ?_ GE250.out | refine below_set ?_ GE251.out | refine below_set ?_ GE255.out) | exact HB.out)) hb); clear BK250; clear BK251; clear BK255; clear HB; have BK250 := n0_; have BK251 := n1_; have BK255 := n2_; have HB := n3_; clear n0_ n1_ n2_ n3_; (try clear hb); (try clear hb2); (try clear hk); (try clear hi); have hcz39_0 : w38.cell? ⟨gb255, 0, none⟩ = some (.int .i64 ((rd_T94 l0_0 x28_2).f0)) := (blk_cell BK255.out 0).trans rfl; have hcz39_1 : w38.cell? ⟨gb255, 1, none⟩ = some (.int .i64 ((rd_T94 l0_0 x28_2).f1.f0)) := (blk_cell BK255.out 1).trans rfl; have hcz39_2 : w38.cell? ⟨gb255, 2, none⟩ = some (.int .i64 ((rd_T94 l0_0 x28_2).f1.f1)) := (blk_cell BK255.out 2).trans rfl; have hcz39_3 : w38.cell? ⟨gb255, 3, none⟩ = some (.int .i64 ((rd_T94 l0_0 x28_2).f1.f2)) := (blk_cell BK255.out 3).trans rfl; have hcz39_4 : w38.cell? ⟨gb255, 4, none⟩ = some (.int .i64 ((rd_T94 l0_0 x28_2).f1.f3)) := (blk_cell BK255.out 4).trans rfl; have hfz39_0 := blk_frozen BK255.out 0; have hfz39_1 := blk_frozen BK255.out 1; have hfz39_2 := blk_frozen BK255.out 2; have hfz39_3 := blk_frozen BK255.out 3; have hfz39_4 := blk_frozen BK255.out 4))
                    go_roundg k2
                    case measure => have := HJ2.out; have := HK2.out; omega
                    case rel => exact ⟨((rd_T94 l0_0 x28_2).f0), (t256), (wrap64 (x28_2 + 1)), (by first | rfl | (simp; done) | (simp [*]; done)), (by first | rfl | (simp; done) | (simp [*]; done)), (by first | rfl | (simp; done) | (simp [*]; done)), H', ⟨by have := HJ2.out; have := HK2.out; omega⟩, ⟨by (with_reducible repeat (first | refine blk_drewN ?_ _ | refine blk_drew ?_ | refine blk_alloc ?_ _)); exact BK250.out⟩, ⟨by (with_reducible repeat (first | refine blk_drewN ?_ _ | refine blk_drew ?_ | refine blk_alloc ?_ _)); exact BK251.out⟩, ⟨by repeat (first | (with_reducible first | exact HB.out | apply below_alloc | apply pw_below_drewN | apply below_drew1 | refine below_set ?_ GE250.out | refine below_set ?_ GE251.out | refine below_set ?_ GE255.out) | exact HB.out)⟩⟩
                  · rw [if_neg c31] at H
                    have c31b0 : decide (x7_2 < 0) = false := decide_eq_false c31
                    clear c31
                    by_cases c40 : t256 < x7_2
                    · rw [if_pos c40] at H
                      have c40b0 : decide (t256 < x7_2) = true := decide_eq_true c40
                      clear c40
                      have H' := Aside0.mk H
                      clear H
                      have p254 : 0 ≤ (x28_2 : Int) := of_decide_eq_true (by first | (with_reducible assumption) | assumption)
                      have q254 : x28_2 < (l0_0.length : Int) := of_decide_eq_true (by first | (with_reducible assumption) | assumption)
                      obtain ⟨ad254, e254, hx254_0, hx254_1, hx254_2, hx254_3, hx254_4⟩ := at_T94 HR0_0.out x28_2 p254 q254
                      cases e254
                      replace hx254_0 := (HB.out.cell (World.block_lt_of_cell? _ _ hx254_0)).trans hx254_0
                      replace hx254_1 := (HB.out.cell (World.block_lt_of_cell? _ _ hx254_1)).trans hx254_1
                      replace hx254_2 := (HB.out.cell (World.block_lt_of_cell? _ _ hx254_2)).trans hx254_2
                      replace hx254_3 := (HB.out.cell (World.block_lt_of_cell? _ _ hx254_3)).trans hx254_3
                      replace hx254_4 := (HB.out.cell (World.block_lt_of_cell? _ _ hx254_4)).trans hx254_4
                      replace p254 := eq_true p254
                      replace q254 := eq_true q254
                      go_wp2_with (first | ((with_reducible refine gate_dst (N := 9) rfl ?_); (try (refine gate_guard (by rfl) ?_; dsimp only)); refine box_event ?hg (N := 9) ?hd (cs := #[.int .i64 0, .int .i64 0, .int .i64 0, .int .i64 0, .int .i64 0]) (t := 94) ?hr ?_; (case hd => rfl); (case hg => rfl); (case hr => first | (go_simp; done) | (go_simp; rfl)); intro gb255 hg w41 hbox hb; have n0_ := Aside0.mk (blk_below (g := gb250) (o := .cells #[.slice (some ad254) l0_0.length c0_0, .slice A0_1 l0_1.length c0_1] 42 (0, 0)) (by (with_reducible repeat (first | refine blk_drewN ?_ _ | refine blk_drew ?_ | refine blk_alloc ?_ _)); exact BK250.out) hb); have n1_ := Aside0.mk (blk_below (g := gb251) (o := .cells #[.int .i64 a1_0, .int .i64 a1_1] 36 (0, 0)) (by (with_reducible repeat (first | refine blk_drewN ?_ _ | refine blk_drew ?_ | refine blk_alloc ?_ _)); exact BK251.out) hb); have n2_ := Aside0.mk (below_step (by repeat (first | (with_reducible first | exact HB.out | apply below_alloc | apply pw_below_drewN | apply below_drew1 | refine below_set ?_ GE250.out | refine below_set ?_ GE251.out) | exact HB.out)) hb); have n3_ := Aside0.mk (hbox); have n4_ := Aside0.mk ((by rw [hg]; exact (below_size (by repeat (first | (with_reducible first | exact HB.out | apply below_alloc | apply pw_below_drewN | apply below_drew1 | refine below_set ?_ GE250.out | refine below_set ?_ GE251.out) | exact HB.out))) : w.heap.size ≤ gb255)); have n5_ := Aside0.mk ((by rw [hg]; exact (below_size (by repeat (first | (with_reducible first | exact HB.out | apply below_alloc | apply pw_below_drewN | apply below_drew1 | refine below_set ?_ GE250.out | refine below_set ?_ GE251.out) | exact HB.out))) : w.heap.size ≤ gb255)); have n6_ := Aside0.mk ((by rw [hg]; exact Nat.ne_of_lt (blk_lt (g := gb250) (o := .cells #[.slice (some ad254) l0_0.length c0_0, .slice A0_1 l0_1.length c0_1] 42 (0, 0)) (by (with_reducible repeat (first | refine blk_drewN ?_ _ | refine blk_drew ?_ | refine blk_alloc ?_ _)); exact BK250.out)) : gb250 ≠ gb255)); have n7_ := Aside0.mk ((by rw [hg]; exact Nat.ne_of_gt (blk_lt (g := gb250) (o := .cells #[.slice (some ad254) l0_0.length c0_0, .slice A0_1 l0_1.length c0_1] 42 (0, 0)) (by (with_reducible repeat (first | refine blk_drewN ?_ _ | refine blk_drew ?_ | refine blk_alloc ?_ _)); exact BK250.out)) : gb255 ≠ gb250)); have n8_ := Aside0.mk ((by rw [hg]; exact Nat.ne_of_lt (blk_lt (g := gb251) (o := .cells #[.int .i64 a1_0, .int .i64 a1_1] 36 (0, 0)) (by (with_reducible repeat (first | refine blk_drewN ?_ _ | refine blk_drew ?_ | refine blk_alloc ?_ _)); exact BK251.out)) : gb251 ≠ gb255)); have n9_ := Aside0.mk ((by rw [hg]; exact Nat.ne_of_gt (blk_lt (g := gb251) (o := .cells #[.int .i64 a1_0, .int .i64 a1_1] 36 (0, 0)) (by (with_reducible repeat (first | refine blk_drewN ?_ _ | refine blk_drew ?_ | refine blk_alloc ?_ _)); exact BK251.out)) : gb255 ≠ gb251)); clear BK250; clear BK251; clear HB; have BK250 := n0_; have BK251 := n1_; have HB := n2_; have BK255 := n3_; have GW255 := n4_; have GE255 := n5_; have NB250_255 := n6_; have NB255_250 := n7_; have NB251_255 := n8_; have NB255_251 := n9_; clear n0_ n1_ n2_ n3_ n4_ n5_ n6_ n7_ n8_ n9_; clear hb hbox hg; have hnb42 := NB255_250.out; have hnc42 := NB250_255.out; have hnb43 := NB255_251.out; have hnc43 := NB251_255.out; have hcz44_0 : w41.cell? ⟨gb255, 0, none⟩ = some (.int .i64 0) := (blk_cell BK255.out 0).trans rfl; have hcz44_1 : w41.cell? ⟨gb255, 1, none⟩ = some (.int .i64 0) := (blk_cell BK255.out 1).trans rfl; have hcz44_2 : w41.cell? ⟨gb255, 2, none⟩ = some (.int .i64 0) := (blk_cell BK255.out 2).trans rfl; have hcz44_3 : w41.cell? ⟨gb255, 3, none⟩ = some (.int .i64 0) := (blk_cell BK255.out 3).trans rfl; have hcz44_4 : w41.cell? ⟨gb255, 4, none⟩ = some (.int .i64 0) := (blk_cell BK255.out 4).trans rfl; have hfz44_0 := blk_frozen BK255.out 0; have hfz44_1 := blk_frozen BK255.out 1; have hfz44_2 := blk_frozen BK255.out 2; have hfz44_3 := blk_frozen BK255.out 3; have hfz44_4 := blk_frozen BK255.out 4; have hnb45 := NB251_250.out; have hnc45 := NB250_251.out; have hcz46_0 : w41.cell? ⟨gb251, 0, none⟩ = some (.int .i64 a1_0) := (blk_cell BK251.out 0).trans rfl; have hcz46_1 : w41.cell? ⟨gb251, 1, none⟩ = some (.int .i64 a1_1) := (blk_cell BK251.out 1).trans rfl; have hfz46_0 := blk_frozen BK251.out 0; have hfz46_1 := blk_frozen BK251.out 1) | ((with_reducible refine gate_callee (f := 84) rfl ?_); refine goesL_ (some 45) rfl rfl Try.func84 (by kernel_rfl) rfl #[.agg #[.int .i64 ((rd_T94 l0_0 x28_2).f1.f0), .int .i64 ((rd_T94 l0_0 x28_2).f1.f1), .int .i64 ((rd_T94 l0_0 x28_2).f1.f2), .int .i64 ((rd_T94 l0_0 x28_2).f1.f3)], .agg #[.int .i64 a1_0, .int .i64 a1_1, .int .i64 (wrap64 (a1_0 + 1)), .int .i64 (wrap64 (a1_1 + 1))]] rfl (by (try simp only [List.map_toArray, List.map_cons, List.map_nil]); first | done | rfl | (simp only [List.length_drop, List.length_take]; rfl)) ?_; (with_reducible refine (impl_cellDistance.calls ((rd_T94 l0_0 x28_2).f1.f0) ((rd_T94 l0_0 x28_2).f1.f1) ((rd_T94 l0_0 x28_2).f1.f2) ((rd_T94 l0_0 x28_2).f1.f3) a1_0 a1_1 (wrap64 (a1_0 + 1)) (wrap64 (a1_1 + 1)) t256 _ A30.out).mono ?_); rintro e w47 ⟨rfl, hb⟩; refine ⟨_, rfl, ?_⟩; have n0_ := Aside0.mk (blk_below (g := gb250) (o := .cells #[.slice (some ad254) l0_0.length c0_0, .slice A0_1 l0_1.length c0_1] 42 (0, 0)) (by (with_reducible repeat (first | refine blk_drewN ?_ _ | refine blk_drew ?_ | refine blk_alloc ?_ _)); refine blk_far ?_ NB250_255.out _; (with_reducible repeat (first | refine blk_drewN ?_ _ | refine blk_drew ?_ | refine blk_alloc ?_ _)); refine blk_far ?_ NB250_255.out _; (with_reducible repeat (first | refine blk_drewN ?_ _ | refine blk_drew ?_ | refine blk_alloc ?_ _)); refine blk_far ?_ NB250_255.out _; (with_reducible repeat (first | refine blk_drewN ?_ _ | refine blk_drew ?_ | refine blk_alloc ?_ _)); refine blk_far ?_ NB250_255.out _; (with_reducible repeat (first | refine blk_drewN ?_ _ | refine blk_drew ?_ | refine blk_alloc ?_ _)); refine blk_far ?_ NB250_255.out _; (with_reducible repeat (first | refine blk_drewN ?_ _ | refine blk_drew ?_ | refine blk_alloc ?_ _)); exact BK250.out) hb); have n1_ := Aside0.mk (blk_below (g := gb251) (o := .cells #[.int .i64 a1_0, .int .i64 a1_1] 36 (0, 0)) (by (with_reducible repeat (first | refine blk_drewN ?_ _ | refine blk_drew ?_ | refine blk_alloc ?_ _)); refine blk_far ?_ NB251_255.out _; (with_reducible repeat (first | refine blk_drewN ?_ _ | refine blk_drew ?_ | refine blk_alloc ?_ _)); refine blk_far ?_ NB251_255.out _; (with_reducible repeat (first | refine blk_drewN ?_ _ | refine blk_drew ?_ | refine blk_alloc ?_ _)); refine blk_far ?_ NB251_255.out _; (with_reducible repeat (first | refine blk_drewN ?_ _ | refine blk_drew ?_ | refine blk_alloc ?_ _)); refine blk_far ?_ NB251_255.out _; (with_reducible repeat (first | refine blk_drewN ?_ _ | refine blk_drew ?_ | refine blk_alloc ?_ _)); refine blk_far ?_ NB251_255.out _; (with_reducible repeat (first | refine blk_drewN ?_ _ | refine blk_drew ?_ | refine blk_alloc ?_ _)); exact BK251.out) hb); have n2_ := Aside0.mk (blk_below (g := gb255) (o := .cells #[.int .i64 ((rd_T94 l0_0 x28_2).f0), .int .i64 ((rd_T94 l0_0 x28_2).f1.f0), .int .i64 ((rd_T94 l0_0 x28_2).f1.f1), .int .i64 ((rd_T94 l0_0 x28_2).f1.f2), .int .i64 ((rd_T94 l0_0 x28_2).f1.f3)] 94 (0, 0)) (by (with_reducible repeat (first | refine blk_drewN ?_ _ | refine blk_drew ?_ | refine blk_alloc ?_ _)); refine blk_put (cs := #[.int .i64 ((rd_T94 l0_0 x28_2).f0), .int .i64 ((rd_T94 l0_0 x28_2).f1.f0), .int .i64 ((rd_T94 l0_0 x28_2).f1.f1), .int .i64 ((rd_T94 l0_0 x28_2).f1.f2), .int .i64 0]) ?_ 4 _ rfl; (with_reducible repeat (first | refine blk_drewN ?_ _ | refine blk_drew ?_ | refine blk_alloc ?_ _)); refine blk_put (cs := #[.int .i64 ((rd_T94 l0_0 x28_2).f0), .int .i64 ((rd_T94 l0_0 x28_2).f1.f0), .int .i64 ((rd_T94 l0_0 x28_2).f1.f1), .int .i64 0, .int .i64 0]) ?_ 3 _ rfl; (with_reducible repeat (first | refine blk_drewN ?_ _ | refine blk_drew ?_ | refine blk_alloc ?_ _)); refine blk_put (cs := #[.int .i64 ((rd_T94 l0_0 x28_2).f0), .int .i64 ((rd_T94 l0_0 x28_2).f1.f0), .int .i64 0, .int .i64 0, .int .i64 0]) ?_ 2 _ rfl; (with_reducible repeat (first | refine blk_drewN ?_ _ | refine blk_drew ?_ | refine blk_alloc ?_ _)); refine blk_put (cs := #[.int .i64 ((rd_T94 l0_0 x28_2).f0), .int .i64 0, .int .i64 0, .int .i64 0, .int .i64 0]) ?_ 1 _ rfl; (with_reducible repeat (first | refine blk_drewN ?_ _ | refine blk_drew ?_ | refine blk_alloc ?_ _)); refine blk_put (cs := #[.int .i64 0, .int .i64 0, .int .i64 0, .int .i64 0, .int .i64 0]) ?_ 0 _ rfl; (with_reducible repeat (first | refine blk_drewN ?_ _ | refine blk_drew ?_ | refine blk_alloc ?_ _)); exact BK255.out) hb); have n3_ := Aside0.mk (below_step (by repeat (first | (with_reducible first | exact HB.out | apply below_alloc | apply pw_below_drewN | apply below_drew1 | refine below_set ?_ GE250.out | refine below_set ?_ GE251.out | refine below_set ?_ GE255.out) | exact HB.out)) hb); clear BK250; clear BK251; clear BK255; clear HB; have BK250 := n0_; have BK251 := n1_; have BK255 := n2_; have HB := n3_; clear n0_ n1_ n2_ n3_; (try clear hb); (try clear hb2); (try clear hk); (try clear hi); have hcz48_0 : w47.cell? ⟨gb255, 0, none⟩ = some (.int .i64 ((rd_T94 l0_0 x28_2).f0)) := (blk_cell BK255.out 0).trans rfl; have hcz48_1 : w47.cell? ⟨gb255, 1, none⟩ = some (.int .i64 ((rd_T94 l0_0 x28_2).f1.f0)) := (blk_cell BK255.out 1).trans rfl; have hcz48_2 : w47.cell? ⟨gb255, 2, none⟩ = some (.int .i64 ((rd_T94 l0_0 x28_2).f1.f1)) := (blk_cell BK255.out 2).trans rfl; have hcz48_3 : w47.cell? ⟨gb255, 3, none⟩ = some (.int .i64 ((rd_T94 l0_0 x28_2).f1.f2)) := (blk_cell BK255.out 3).trans rfl; have hcz48_4 : w47.cell? ⟨gb255, 4, none⟩ = some (.int .i64 ((rd_T94 l0_0 x28_2).f1.f3)) := (blk_cell BK255.out 4).trans rfl; have hfz48_0 := blk_frozen BK255.out 0; have hfz48_1 := blk_frozen BK255.out 1; have hfz48_2 := blk_frozen BK255.out 2; have hfz48_3 := blk_frozen BK255.out 3; have hfz48_4 := blk_frozen BK255.out 4))
                      go_roundg k2
                      case measure => have := HJ2.out; have := HK2.out; omega
                      case rel => exact ⟨((rd_T94 l0_0 x28_2).f0), (t256), (wrap64 (x28_2 + 1)), (by first | rfl | (simp; done) | (simp [*]; done)), (by first | rfl | (simp; done) | (simp [*]; done)), (by first | rfl | (simp; done) | (simp [*]; done)), H', ⟨by have := HJ2.out; have := HK2.out; omega⟩, ⟨by (with_reducible repeat (first | refine blk_drewN ?_ _ | refine blk_drew ?_ | refine blk_alloc ?_ _)); exact BK250.out⟩, ⟨by (with_reducible repeat (first | refine blk_drewN ?_ _ | refine blk_drew ?_ | refine blk_alloc ?_ _)); exact BK251.out⟩, ⟨by repeat (first | (with_reducible first | exact HB.out | apply below_alloc | apply pw_below_drewN | apply below_drew1 | refine below_set ?_ GE250.out | refine below_set ?_ GE251.out | refine below_set ?_ GE255.out) | exact HB.out)⟩⟩
                    · rw [if_neg c40] at H
                      have c40b0 : decide (t256 < x7_2) = false := decide_eq_false c40
                      clear c40
                      have H' := Aside0.mk H
                      clear H
                      have p254 : 0 ≤ (x28_2 : Int) := of_decide_eq_true (by first | (with_reducible assumption) | assumption)
                      have q254 : x28_2 < (l0_0.length : Int) := of_decide_eq_true (by first | (with_reducible assumption) | assumption)
                      obtain ⟨ad254, e254, hx254_0, hx254_1, hx254_2, hx254_3, hx254_4⟩ := at_T94 HR0_0.out x28_2 p254 q254
                      cases e254
                      replace hx254_0 := (HB.out.cell (World.block_lt_of_cell? _ _ hx254_0)).trans hx254_0
                      replace hx254_1 := (HB.out.cell (World.block_lt_of_cell? _ _ hx254_1)).trans hx254_1
                      replace hx254_2 := (HB.out.cell (World.block_lt_of_cell? _ _ hx254_2)).trans hx254_2
                      replace hx254_3 := (HB.out.cell (World.block_lt_of_cell? _ _ hx254_3)).trans hx254_3
                      replace hx254_4 := (HB.out.cell (World.block_lt_of_cell? _ _ hx254_4)).trans hx254_4
                      replace p254 := eq_true p254
                      replace q254 := eq_true q254
                      go_wp2_with (first | ((with_reducible refine gate_dst (N := 9) rfl ?_); (try (refine gate_guard (by rfl) ?_; dsimp only)); refine box_event ?hg (N := 9) ?hd (cs := #[.int .i64 0, .int .i64 0, .int .i64 0, .int .i64 0, .int .i64 0]) (t := 94) ?hr ?_; (case hd => rfl); (case hg => rfl); (case hr => first | (go_simp; done) | (go_simp; rfl)); intro gb255 hg w49 hbox hb; have n0_ := Aside0.mk (blk_below (g := gb250) (o := .cells #[.slice (some ad254) l0_0.length c0_0, .slice A0_1 l0_1.length c0_1] 42 (0, 0)) (by (with_reducible repeat (first | refine blk_drewN ?_ _ | refine blk_drew ?_ | refine blk_alloc ?_ _)); exact BK250.out) hb); have n1_ := Aside0.mk (blk_below (g := gb251) (o := .cells #[.int .i64 a1_0, .int .i64 a1_1] 36 (0, 0)) (by (with_reducible repeat (first | refine blk_drewN ?_ _ | refine blk_drew ?_ | refine blk_alloc ?_ _)); exact BK251.out) hb); have n2_ := Aside0.mk (below_step (by repeat (first | (with_reducible first | exact HB.out | apply below_alloc | apply pw_below_drewN | apply below_drew1 | refine below_set ?_ GE250.out | refine below_set ?_ GE251.out) | exact HB.out)) hb); have n3_ := Aside0.mk (hbox); have n4_ := Aside0.mk ((by rw [hg]; exact (below_size (by repeat (first | (with_reducible first | exact HB.out | apply below_alloc | apply pw_below_drewN | apply below_drew1 | refine below_set ?_ GE250.out | refine below_set ?_ GE251.out) | exact HB.out))) : w.heap.size ≤ gb255)); have n5_ := Aside0.mk ((by rw [hg]; exact (below_size (by repeat (first | (with_reducible first | exact HB.out | apply below_alloc | apply pw_below_drewN | apply below_drew1 | refine below_set ?_ GE250.out | refine below_set ?_ GE251.out) | exact HB.out))) : w.heap.size ≤ gb255)); have n6_ := Aside0.mk ((by rw [hg]; exact Nat.ne_of_lt (blk_lt (g := gb250) (o := .cells #[.slice (some ad254) l0_0.length c0_0, .slice A0_1 l0_1.length c0_1] 42 (0, 0)) (by (with_reducible repeat (first | refine blk_drewN ?_ _ | refine blk_drew ?_ | refine blk_alloc ?_ _)); exact BK250.out)) : gb250 ≠ gb255)); have n7_ := Aside0.mk ((by rw [hg]; exact Nat.ne_of_gt (blk_lt (g := gb250) (o := .cells #[.slice (some ad254) l0_0.length c0_0, .slice A0_1 l0_1.length c0_1] 42 (0, 0)) (by (with_reducible repeat (first | refine blk_drewN ?_ _ | refine blk_drew ?_ | refine blk_alloc ?_ _)); exact BK250.out)) : gb255 ≠ gb250)); have n8_ := Aside0.mk ((by rw [hg]; exact Nat.ne_of_lt (blk_lt (g := gb251) (o := .cells #[.int .i64 a1_0, .int .i64 a1_1] 36 (0, 0)) (by (with_reducible repeat (first | refine blk_drewN ?_ _ | refine blk_drew ?_ | refine blk_alloc ?_ _)); exact BK251.out)) : gb251 ≠ gb255)); have n9_ := Aside0.mk ((by rw [hg]; exact Nat.ne_of_gt (blk_lt (g := gb251) (o := .cells #[.int .i64 a1_0, .int .i64 a1_1] 36 (0, 0)) (by (with_reducible repeat (first | refine blk_drewN ?_ _ | refine blk_drew ?_ | refine blk_alloc ?_ _)); exact BK251.out)) : gb255 ≠ gb251)); clear BK250; clear BK251; clear HB; have BK250 := n0_; have BK251 := n1_; have HB := n2_; have BK255 := n3_; have GW255 := n4_; have GE255 := n5_; have NB250_255 := n6_; have NB255_250 := n7_; have NB251_255 := n8_; have NB255_251 := n9_; clear n0_ n1_ n2_ n3_ n4_ n5_ n6_ n7_ n8_ n9_; clear hb hbox hg; have hnb50 := NB255_250.out; have hnc50 := NB250_255.out; have hnb51 := NB255_251.out; have hnc51 := NB251_255.out; have hcz52_0 : w49.cell? ⟨gb255, 0, none⟩ = some (.int .i64 0) := (blk_cell BK255.out 0).trans rfl; have hcz52_1 : w49.cell? ⟨gb255, 1, none⟩ = some (.int .i64 0) := (blk_cell BK255.out 1).trans rfl; have hcz52_2 : w49.cell? ⟨gb255, 2, none⟩ = some (.int .i64 0) := (blk_cell BK255.out 2).trans rfl; have hcz52_3 : w49.cell? ⟨gb255, 3, none⟩ = some (.int .i64 0) := (blk_cell BK255.out 3).trans rfl; have hcz52_4 : w49.cell? ⟨gb255, 4, none⟩ = some (.int .i64 0) := (blk_cell BK255.out 4).trans rfl; have hfz52_0 := blk_frozen BK255.out 0; have hfz52_1 := blk_frozen BK255.out 1; have hfz52_2 := blk_frozen BK255.out 2; have hfz52_3 := blk_frozen BK255.out 3; have hfz52_4 := blk_frozen BK255.out 4; have hnb53 := NB251_250.out; have hnc53 := NB250_251.out; have hcz54_0 : w49.cell? ⟨gb251, 0, none⟩ = some (.int .i64 a1_0) := (blk_cell BK251.out 0).trans rfl; have hcz54_1 : w49.cell? ⟨gb251, 1, none⟩ = some (.int .i64 a1_1) := (blk_cell BK251.out 1).trans rfl; have hfz54_0 := blk_frozen BK251.out 0; have hfz54_1 := blk_frozen BK251.out 1) | ((with_reducible refine gate_callee (f := 84) rfl ?_); refine goesL_ (some 45) rfl rfl Try.func84 (by kernel_rfl) rfl #[.agg #[.int .i64 ((rd_T94 l0_0 x28_2).f1.f0), .int .i64 ((rd_T94 l0_0 x28_2).f1.f1), .int .i64 ((rd_T94 l0_0 x28_2).f1.f2), .int .i64 ((rd_T94 l0_0 x28_2).f1.f3)], .agg #[.int .i64 a1_0, .int .i64 a1_1, .int .i64 (wrap64 (a1_0 + 1)), .int .i64 (wrap64 (a1_1 + 1))]] rfl (by (try simp only [List.map_toArray, List.map_cons, List.map_nil]); first | done | rfl | (simp only [List.length_drop, List.length_take]; rfl)) ?_; (with_reducible refine (impl_cellDistance.calls ((rd_T94 l0_0 x28_2).f1.f0) ((rd_T94 l0_0 x28_2).f1.f1) ((rd_T94 l0_0 x28_2).f1.f2) ((rd_T94 l0_0 x28_2).f1.f3) a1_0 a1_1 (wrap64 (a1_0 + 1)) (wrap64 (a1_1 + 1)) t256 _ A30.out).mono ?_); rintro e w55 ⟨rfl, hb⟩; refine ⟨_, rfl, ?_⟩; have n0_ := Aside0.mk (blk_below (g := gb250) (o := .cells #[.slice (some ad254) l0_0.length c0_0, .slice A0_1 l0_1.length c0_1] 42 (0, 0)) (by (with_reducible repeat (first | refine blk_drewN ?_ _ | refine blk_drew ?_ | refine blk_alloc ?_ _)); refine blk_far ?_ NB250_255.out _; (with_reducible repeat (first | refine blk_drewN ?_ _ | refine blk_drew ?_ | refine blk_alloc ?_ _)); refine blk_far ?_ NB250_255.out _; (with_reducible repeat (first | refine blk_drewN ?_ _ | refine blk_drew ?_ | refine blk_alloc ?_ _)); refine blk_far ?_ NB250_255.out _; (with_reducible repeat (first | refine blk_drewN ?_ _ | refine blk_drew ?_ | refine blk_alloc ?_ _)); refine blk_far ?_ NB250_255.out _; (with_reducible repeat (first | refine blk_drewN ?_ _ | refine blk_drew ?_ | refine blk_alloc ?_ _)); refine blk_far ?_ NB250_255.out _; (with_reducible repeat (first | refine blk_drewN ?_ _ | refine blk_drew ?_ | refine blk_alloc ?_ _)); exact BK250.out) hb); have n1_ := Aside0.mk (blk_below (g := gb251) (o := .cells #[.int .i64 a1_0, .int .i64 a1_1] 36 (0, 0)) (by (with_reducible repeat (first | refine blk_drewN ?_ _ | refine blk_drew ?_ | refine blk_alloc ?_ _)); refine blk_far ?_ NB251_255.out _; (with_reducible repeat (first | refine blk_drewN ?_ _ | refine blk_drew ?_ | refine blk_alloc ?_ _)); refine blk_far ?_ NB251_255.out _; (with_reducible repeat (first | refine blk_drewN ?_ _ | refine blk_drew ?_ | refine blk_alloc ?_ _)); refine blk_far ?_ NB251_255.out _; (with_reducible repeat (first | refine blk_drewN ?_ _ | refine blk_drew ?_ | refine blk_alloc ?_ _)); refine blk_far ?_ NB251_255.out _; (with_reducible repeat (first | refine blk_drewN ?_ _ | refine blk_drew ?_ | refine blk_alloc ?_ _)); refine blk_far ?_ NB251_255.out _; (with_reducible repeat (first | refine blk_drewN ?_ _ | refine blk_drew ?_ | refine blk_alloc ?_ _)); exact BK251.out) hb); have n2_ := Aside0.mk (blk_below (g := gb255) (o := .cells #[.int .i64 ((rd_T94 l0_0 x28_2).f0), .int .i64 ((rd_T94 l0_0 x28_2).f1.f0), .int .i64 ((rd_T94 l0_0 x28_2).f1.f1), .int .i64 ((rd_T94 l0_0 x28_2).f1.f2), .int .i64 ((rd_T94 l0_0 x28_2).f1.f3)] 94 (0, 0)) (by (with_reducible repeat (first | refine blk_drewN ?_ _ | refine blk_drew ?_ | refine blk_alloc ?_ _)); refine blk_put (cs := #[.int .i64 ((rd_T94 l0_0 x28_2).f0), .int .i64 ((rd_T94 l0_0 x28_2).f1.f0), .int .i64 ((rd_T94 l0_0 x28_2).f1.f1), .int .i64 ((rd_T94 l0_0 x28_2).f1.f2), .int .i64 0]) ?_ 4 _ rfl; (with_reducible repeat (first | refine blk_drewN ?_ _ | refine blk_drew ?_ | refine blk_alloc ?_ _)); refine blk_put (cs := #[.int .i64 ((rd_T94 l0_0 x28_2).f0), .int .i64 ((rd_T94 l0_0 x28_2).f1.f0), .int .i64 ((rd_T94 l0_0 x28_2).f1.f1), .int .i64 0, .int .i64 0]) ?_ 3 _ rfl; (with_reducible repeat (first | refine blk_drewN ?_ _ | refine blk_drew ?_ | refine blk_alloc ?_ _)); refine blk_put (cs := #[.int .i64 ((rd_T94 l0_0 x28_2).f0), .int .i64 ((rd_T94 l0_0 x28_2).f1.f0), .int .i64 0, .int .i64 0, .int .i64 0]) ?_ 2 _ rfl; (with_reducible repeat (first | refine blk_drewN ?_ _ | refine blk_drew ?_ | refine blk_alloc ?_ _)); refine blk_put (cs := #[.int .i64 ((rd_T94 l0_0 x28_2).f0), .int .i64 0, .int .i64 0, .int .i64 0, .int .i64 0]) ?_ 1 _ rfl; (with_reducible repeat (first | refine blk_drewN ?_ _ | refine blk_drew ?_ | refine blk_alloc ?_ _)); refine blk_put (cs := #[.int .i64 0, .int .i64 0, .int .i64 0, .int .i64 0, .int .i64 0]) ?_ 0 _ rfl; (with_reducible repeat (first | refine blk_drewN ?_ _ | refine blk_drew ?_ | refine blk_alloc ?_ _)); exact BK255.out) hb); have n3_ := Aside0.mk (below_step (by repeat (first | (with_reducible first | exact HB.out | apply below_alloc | apply pw_below_drewN | apply below_drew1 | refine below_set ?_ GE250.out | refine below_set ?_ GE251.out | refine below_set ?_ GE255.out) | exact HB.out)) hb); clear BK250; clear BK251; clear BK255; clear HB; have BK250 := n0_; have BK251 := n1_; have BK255 := n2_; have HB := n3_; clear n0_ n1_ n2_ n3_; (try clear hb); (try clear hb2); (try clear hk); (try clear hi)))
                      go_roundg k2
                      case measure => have := HJ2.out; have := HK2.out; omega
                      case rel => exact ⟨(x6_2), (x7_2), (wrap64 (x28_2 + 1)), (by first | rfl | (simp; done) | (simp [*]; done)), (by first | rfl | (simp; done) | (simp [*]; done)), (by first | rfl | (simp; done) | (simp [*]; done)), H', ⟨by have := HJ2.out; have := HK2.out; omega⟩, ⟨by (with_reducible repeat (first | refine blk_drewN ?_ _ | refine blk_drew ?_ | refine blk_alloc ?_ _)); exact BK250.out⟩, ⟨by (with_reducible repeat (first | refine blk_drewN ?_ _ | refine blk_drew ?_ | refine blk_alloc ?_ _)); exact BK251.out⟩, ⟨by repeat (first | (with_reducible first | exact HB.out | apply below_alloc | apply pw_below_drewN | apply below_drew1 | refine below_set ?_ GE250.out | refine below_set ?_ GE251.out | refine below_set ?_ GE255.out) | exact HB.out)⟩⟩
                · rw [if_neg c29] at H
                  exact absurd H (by simp)
              · rw [if_neg c28] at H
                exact absurd H (by simp)
            · rw [if_neg c27] at H
              have c27b0 : decide (x28_2 < (l0_0.length : Int)) = false := decide_eq_false c27
              clear c27
              simp only [Option.some.injEq, Prod.mk.injEq] at H
              obtain ⟨rfl, rfl⟩ := H
              go_wp2
              go_ret2
              exact ⟨by first | rfl | (simp [errW_none, errW_some] <;> rfl) | (simp [*, errW_none, errW_some] <;> rfl), by repeat (first | (with_reducible first | exact HB.out | apply below_alloc | apply pw_below_drewN | apply below_drew1 | refine below_set ?_ GE250.out | refine below_set ?_ GE251.out) | exact HB.out)⟩

end Go.Proofs.Yteepckjegpnffaa.P

/-! ### Px35 -/
namespace Go.Proofs.Yteepckjegpnffaa.P
open Go.RowKit Go.Proofs.YteepckjegpnffaaW.PrintWords Go.Proofs.YteepckjegpnffaaW.PrintLast Go.Proofs.YteepckjegpnffaaW.PrintMore
attribute [local go_sem] max2_int min2_int max_two min_two max_three min_three max_four min_four   -- for this text's walks alone
set_option linter.unusedVariables false
set_option linter.unusedSimpArgs false

/-! ### spec_l09Unit: function 98 -/
def spec_l09Unit.f (a0_0 : Int) (a0_1 : Int) : Option (Bool) := (spec_l09In.f a0_0 (-40) 39).bind fun t258 => (if t258 = true then ((spec_l09In.f a0_1 (-40) 39).bind fun t259 => (some t259)) else (some false))
set_option maxHeartbeats 8000000 in
set_option maxRecDepth 100000 in
theorem spec_l09Unit.calls (a0_0 : Int) (a0_1 : Int) (r : Bool) (w : World) (h : spec_l09Unit.f a0_0 a0_1 = some r) :
    Calls Try.prog 98 #[.agg #[.int .i64 a0_0, .int .i64 a0_1]] w fun e w' => e = .returned (.bool r) ∧ Below w.heap.size w w' := by
  have hu36 := Try.underlying36
  have HB := Aside0.mk (Below.refl w.heap.size w)
  have H : ((spec_l09In.f a0_0 (-40) 39).bind fun t258 => (if t258 = true then ((spec_l09In.f a0_1 (-40) 39).bind fun t259 => (some t259)) else (some false))) = some r := h
  clear h
  replace H := Option.bind_eq_some_iff.mp H
  obtain ⟨t258, A20, H⟩ := H
  replace H : (if t258 = true then ((spec_l09In.f a0_1 (-40) 39).bind fun t259 => (some t259)) else (some false)) = some r := H
  have A2 := Aside0.mk A20
  clear A20
  by_cases c3 : t258 = true
  · subst c3
    have H1 : ((spec_l09In.f a0_1 (-40) 39).bind fun t259 => (some t259)) = some r := by rw [if_pos rfl] at H; exact H
    clear H
    have H := H1
    clear H1
    replace H := Option.bind_eq_some_iff.mp H
    obtain ⟨t259, A40, H⟩ := H
    replace H : (some t259) = some r := H
    have A4 := Aside0.mk A40
    clear A40
    obtain rfl := Option.some.inj H
    go_enter Try.func98, Try.ntmps98
    go_wp2_with (first | ((with_reducible refine gate_dst (N := 1) rfl ?_); refine box_event ?hg (N := 1) ?hd (cs := #[.int .i64 a0_0, .int .i64 a0_1]) (t := 36) ?hr ?_; (case hd => rfl); (case hg => rfl); (case hr => first | (go_simp; done) | (go_simp; rfl)); intro gb257 hg w5 hbox hb; have n0_ := Aside0.mk (below_step (by repeat (first | (with_reducible first | exact HB.out | apply below_alloc | apply pw_below_drewN | apply below_drew1) | exact HB.out)) hb); have n1_ := Aside0.mk (hbox); have n2_ := Aside0.mk ((by rw [hg]; exact (below_size (by repeat (first | (with_reducible first | exact HB.out | apply below_alloc | apply pw_below_drewN | apply below_drew1) | exact HB.out))) : w.heap.size ≤ gb257)); have n3_ := Aside0.mk ((by rw [hg]; exact (below_size (by repeat (first | (with_reducible first | exact HB.out | apply below_alloc | apply pw_below_drewN | apply below_drew1) | exact HB.out))) : w.heap.size ≤ gb257)); clear HB; have HB := n0_; have BK257 := n1_; have GW257 := n2_; have GE257 := n3_; clear n0_ n1_ n2_ n3_; clear hb hbox hg; have hcz6_0 : w5.cell? ⟨gb257, 0, none⟩ = some (.int .i64 a0_0) := (blk_cell BK257.out 0).trans rfl; have hcz6_1 : w5.cell? ⟨gb257, 1, none⟩ = some (.int .i64 a0_1) := (blk_cell BK257.out 1).trans rfl; have hfz6_0 := blk_frozen BK257.out 0; have hfz6_1 := blk_frozen BK257.out 1) | ((with_reducible refine gate_callee (f := 88) rfl ?_); refine goesL_ (some 5) rfl rfl Try.func88 (by kernel_rfl) rfl #[.int .i64 a0_0, .int .i64 (-40), .int .i64 39] rfl (by (try simp only [List.map_toArray, List.map_cons, List.map_nil]); first | done | rfl | (simp only [List.length_drop, List.length_take]; rfl)) ?_; (with_reducible refine (spec_l09In.calls a0_0 (-40) 39 true _ A2.out).mono ?_); rintro e w' ⟨rfl, ⟨nd, rfl⟩⟩; refine ⟨_, rfl, ?_⟩) | (go_at_call 88; (with_reducible refine (spec_l09In.calls a0_1 (-40) 39 t259 _ A4.out).mono ?_); rintro e w' ⟨rfl, ⟨nd, rfl⟩⟩))
    go_ret
    exact ⟨by first | rfl | (simp [errW_none, errW_some] <;> rfl) | (simp [*, errW_none, errW_some] <;> rfl), by repeat (first | (with_reducible first | exact HB.out | apply below_alloc | apply pw_below_drewN | apply below_drew1 | refine below_set ?_ GE257.out) | exact HB.out)⟩
  · replace c3 := Bool.eq_false_iff.mpr c3
    subst c3
    have H1 : (some false) = some r := by rw [if_neg (show ¬ (false = true) by decide)] at H; exact H
    clear H
    have H := H1
    clear H1
    obtain rfl := Option.some.inj H
    go_enter Try.func98, Try.ntmps98
    go_wp2_with (first | ((with_reducible refine gate_dst (N := 1) rfl ?_); refine box_event ?hg (N := 1) ?hd (cs := #[.int .i64 a0_0, .int .i64 a0_1]) (t := 36) ?hr ?_; (case hd => rfl); (case hg => rfl); (case hr => first | (go_simp; done) | (go_simp; rfl)); intro gb257 hg w7 hbox hb; have n0_ := Aside0.mk (below_step (by repeat (first | (with_reducible first | exact HB.out | apply below_alloc | apply pw_below_drewN | apply below_drew1) | exact HB.out)) hb); have n1_ := Aside0.mk (hbox); have n2_ := Aside0.mk ((by rw [hg]; exact (below_size (by repeat (first | (with_reducible first | exact HB.out | apply below_alloc | apply pw_below_drewN | apply below_drew1) | exact HB.out))) : w.heap.size ≤ gb257)); have n3_ := Aside0.mk ((by rw [hg]; exact (below_size (by repeat (first | (with_reducible first | exact HB.out | apply below_alloc | apply pw_below_drewN | apply below_drew1) | exact HB.out))) : w.heap.size ≤ gb257)); clear HB; have HB := n0_; have BK257 := n1_; have GW257 := n2_; have GE257 := n3_; clear n0_ n1_ n2_ n3_; clear hb hbox hg; have hcz8_0 : w7.cell? ⟨gb257, 0, none⟩ = some (.int .i64 a0_0) := (blk_cell BK257.out 0).trans rfl; have hcz8_1 : w7.cell? ⟨gb257, 1, none⟩ = some (.int .i64 a0_1) := (blk_cell BK257.out 1).trans rfl; have hfz8_0 := blk_frozen BK257.out 0; have hfz8_1 := blk_frozen BK257.out 1) | ((with_reducible refine gate_callee (f := 88) rfl ?_); refine goesL_ (some 5) rfl rfl Try.func88 (by kernel_rfl) rfl #[.int .i64 a0_0, .int .i64 (-40), .int .i64 39] rfl (by (try simp only [List.map_toArray, List.map_cons, List.map_nil]); first | done | rfl | (simp only [List.length_drop, List.length_take]; rfl)) ?_; (with_reducible refine (spec_l09In.calls a0_0 (-40) 39 false _ A2.out).mono ?_); rintro e w' ⟨rfl, ⟨nd, rfl⟩⟩; refine ⟨_, rfl, ?_⟩))
    go_ret
    exact ⟨by first | rfl | (simp [errW_none, errW_some] <;> rfl) | (simp [*, errW_none, errW_some] <;> rfl), by repeat (first | (with_reducible first | exact HB.out | apply below_alloc | apply pw_below_drewN | apply below_drew1 | refine below_set ?_ GE257.out) | exact HB.out)⟩

end Go.Proofs.Yteepckjegpnffaa.P
