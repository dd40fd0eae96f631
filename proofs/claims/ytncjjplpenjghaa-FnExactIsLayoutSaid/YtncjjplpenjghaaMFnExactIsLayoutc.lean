/- For every input FnExactIsLayout returns true and leaves its arguments as they were. Conditions: none. -/
import Derived.Test.YtncjjplpenjghaaMFnExactIsLayouta
import Derived.Test.YtncjjplpenjghaaMFnExactIsLayoutb
import Derived.Test.YtncjjplpenjghaaWWords
import Derived.Deep.Slices
import Derived.ChangeArms
import Derived.SizedLaws
import Derived.ChangeSlices
import Derived.WideShapes
import Derived.KernelRfl
import Derived.Test.YtncjjplpenjghaaRows
import Derived.WalkKit
import Derived.ProofKit
import Derived.OpenShut
import Derived.ShutString
import Derived.ChangeOld
import Derived.Below
import Derived.Carry
/-! ### Px53 -/
namespace Go.Proofs.Ytncjjplpenjghaa.P
open Go.RowKit Go.Proofs.YtncjjplpenjghaaW.PrintWords Go.Proofs.YtncjjplpenjghaaW.PrintLast Go.Proofs.YtncjjplpenjghaaW.PrintMore
attribute [local go_sem] max2_int min2_int max_two min_two max_three min_three max_four min_four   -- for this text's walks alone
set_option linter.unusedVariables false
set_option linter.unusedSimpArgs false

/-! ### impl_IsValidRect: function 136 -/
def impl_IsValidRect.f (a0_0 : Int) (a0_1 : Int) (a0_2 : Int) (a0_3 : Int) : Option (Bool) := if (-40) ≤ a0_0 then (if a0_0 < a0_2 then (if a0_2 ≤ 40 then (if (-40) ≤ a0_1 then (if a0_1 < a0_3 then (some (decide (a0_3 ≤ 40))) else (some false)) else (some false)) else (some false)) else (some false)) else (some false)
set_option maxHeartbeats 8000000 in
set_option maxRecDepth 100000 in
theorem impl_IsValidRect.calls (a0_0 : Int) (a0_1 : Int) (a0_2 : Int) (a0_3 : Int) (r : Bool) (w : World) (h : impl_IsValidRect.f a0_0 a0_1 a0_2 a0_3 = some r) :
    Calls Try.prog 136 #[.agg #[.int .i64 a0_0, .int .i64 a0_1, .int .i64 a0_2, .int .i64 a0_3]] w fun e w' => e = .returned (.bool r) ∧ Below w.heap.size w w' := by
  have hu75 := Try.underlying75
  have HB := Aside0.mk (Below.refl w.heap.size w)
  have H : (if (-40) ≤ a0_0 then (if a0_0 < a0_2 then (if a0_2 ≤ 40 then (if (-40) ≤ a0_1 then (if a0_1 < a0_3 then (some (decide (a0_3 ≤ 40))) else (some false)) else (some false)) else (some false)) else (some false)) else (some false)) = some r := h
  clear h
  by_cases c2 : (-40) ≤ a0_0
  · rw [if_pos c2] at H
    have c2b0 : decide ((-40) ≤ a0_0) = true := decide_eq_true c2
    clear c2
    by_cases c3 : a0_0 < a0_2
    · rw [if_pos c3] at H
      have c3b0 : decide (a0_0 < a0_2) = true := decide_eq_true c3
      clear c3
      by_cases c4 : a0_2 ≤ 40
      · rw [if_pos c4] at H
        have c4b0 : decide (a0_2 ≤ 40) = true := decide_eq_true c4
        clear c4
        by_cases c5 : (-40) ≤ a0_1
        · rw [if_pos c5] at H
          have c5b0 : decide ((-40) ≤ a0_1) = true := decide_eq_true c5
          clear c5
          by_cases c6 : a0_1 < a0_3
          · rw [if_pos c6] at H
            have c6b0 : decide (a0_1 < a0_3) = true := decide_eq_true c6
            clear c6
            obtain rfl := Option.some.inj H
            go_enter Try.func136, Try.ntmps136
            go_wp2_with (first | ((with_reducible refine gate_dst (N := 1) rfl ?_); refine box_event ?hg (N := 1) ?hd (cs := #[.int .i64 a0_0, .int .i64 a0_1, .int .i64 a0_2, .int .i64 a0_3]) (t := 75) ?hr ?_; (case hd => rfl); (case hg => rfl); (case hr => first | (go_simp; done) | (go_simp; rfl)); intro gb335 hg w7 hbox hb; have n0_ := Aside0.mk (below_step (by repeat (first | (with_reducible first | exact HB.out | apply below_alloc | apply pw_below_drewN | apply below_drew1) | exact HB.out)) hb); have n1_ := Aside0.mk (hbox); have n2_ := Aside0.mk ((by rw [hg]; exact (below_size (by repeat (first | (with_reducible first | exact HB.out | apply below_alloc | apply pw_below_drewN | apply below_drew1) | exact HB.out))) : w.heap.size ≤ gb335)); have n3_ := Aside0.mk ((by rw [hg]; exact (below_size (by repeat (first | (with_reducible first | exact HB.out | apply below_alloc | apply pw_below_drewN | apply below_drew1) | exact HB.out))) : w.heap.size ≤ gb335)); clear HB; have HB := n0_; have BK335 := n1_; have GW335 := n2_; have GE335 := n3_; clear n0_ n1_ n2_ n3_; clear hb hbox hg; have hcz8_0 : w7.cell? ⟨gb335, 0, none⟩ = some (.int .i64 a0_0) := (blk_cell BK335.out 0).trans rfl; have hcz8_1 : w7.cell? ⟨gb335, 1, none⟩ = some (.int .i64 a0_1) := (blk_cell BK335.out 1).trans rfl; have hcz8_2 : w7.cell? ⟨gb335, 2, none⟩ = some (.int .i64 a0_2) := (blk_cell BK335.out 2).trans rfl; have hcz8_3 : w7.cell? ⟨gb335, 3, none⟩ = some (.int .i64 a0_3) := (blk_cell BK335.out 3).trans rfl; have hfz8_0 := blk_frozen BK335.out 0; have hfz8_1 := blk_frozen BK335.out 1; have hfz8_2 := blk_frozen BK335.out 2; have hfz8_3 := blk_frozen BK335.out 3))
            go_ret
            exact ⟨by first | rfl | (simp [errW_none, errW_some] <;> rfl) | (simp [*, errW_none, errW_some] <;> rfl), by repeat (first | (with_reducible first | exact HB.out | apply below_alloc | apply pw_below_drewN | apply below_drew1 | refine below_set ?_ GE335.out) | exact HB.out)⟩
          · rw [if_neg c6] at H
            have c6b0 : decide (a0_1 < a0_3) = false := decide_eq_false c6
            clear c6
            obtain rfl := Option.some.inj H
            go_enter Try.func136, Try.ntmps136
            go_wp2_with (first | ((with_reducible refine gate_dst (N := 1) rfl ?_); refine box_event ?hg (N := 1) ?hd (cs := #[.int .i64 a0_0, .int .i64 a0_1, .int .i64 a0_2, .int .i64 a0_3]) (t := 75) ?hr ?_; (case hd => rfl); (case hg => rfl); (case hr => first | (go_simp; done) | (go_simp; rfl)); intro gb335 hg w9 hbox hb; have n0_ := Aside0.mk (below_step (by repeat (first | (with_reducible first | exact HB.out | apply below_alloc | apply pw_below_drewN | apply below_drew1) | exact HB.out)) hb); have n1_ := Aside0.mk (hbox); have n2_ := Aside0.mk ((by rw [hg]; exact (below_size (by repeat (first | (with_reducible first | exact HB.out | apply below_alloc | apply pw_below_drewN | apply below_drew1) | exact HB.out))) : w.heap.size ≤ gb335)); have n3_ := Aside0.mk ((by rw [hg]; exact (below_size (by repeat (first | (with_reducible first | exact HB.out | apply below_alloc | apply pw_below_drewN | apply below_drew1) | exact HB.out))) : w.heap.size ≤ gb335)); clear HB; have HB := n0_; have BK335 := n1_; have GW335 := n2_; have GE335 := n3_; clear n0_ n1_ n2_ n3_; clear hb hbox hg; have hcz10_0 : w9.cell? ⟨gb335, 0, none⟩ = some (.int .i64 a0_0) := (blk_cell BK335.out 0).trans rfl; have hcz10_1 : w9.cell? ⟨gb335, 1, none⟩ = some (.int .i64 a0_1) := (blk_cell BK335.out 1).trans rfl; have hcz10_2 : w9.cell? ⟨gb335, 2, none⟩ = some (.int .i64 a0_2) := (blk_cell BK335.out 2).trans rfl; have hcz10_3 : w9.cell? ⟨gb335, 3, none⟩ = some (.int .i64 a0_3) := (blk_cell BK335.out 3).trans rfl; have hfz10_0 := blk_frozen BK335.out 0; have hfz10_1 := blk_frozen BK335.out 1; have hfz10_2 := blk_frozen BK335.out 2; have hfz10_3 := blk_frozen BK335.out 3))
            go_ret
            exact ⟨by first | rfl | (simp [errW_none, errW_some] <;> rfl) | (simp [*, errW_none, errW_some] <;> rfl), by repeat (first | (with_reducible first | exact HB.out | apply below_alloc | apply pw_below_drewN | apply below_drew1 | refine below_set ?_ GE335.out) | exact HB.out)⟩
        · rw [if_neg c5] at H
          have c5b0 : decide ((-40) ≤ a0_1) = false := decide_eq_false c5
          clear c5
          obtain rfl := Option.some.inj H
          go_enter Try.func136, Try.ntmps136
          go_wp2_with (first | ((with_reducible refine gate_dst (N := 1) rfl ?_); refine box_event ?hg (N := 1) ?hd (cs := #[.int .i64 a0_0, .int .i64 a0_1, .int .i64 a0_2, .int .i64 a0_3]) (t := 75) ?hr ?_; (case hd => rfl); (case hg => rfl); (case hr => first | (go_simp; done) | (go_simp; rfl)); intro gb335 hg w11 hbox hb; have n0_ := Aside0.mk (below_step (by repeat (first | (with_reducible first | exact HB.out | apply below_alloc | apply pw_below_drewN | apply below_drew1) | exact HB.out)) hb); have n1_ := Aside0.mk (hbox); have n2_ := Aside0.mk ((by rw [hg]; exact (below_size (by repeat (first | (with_reducible first | exact HB.out | apply below_alloc | apply pw_below_drewN | apply below_drew1) | exact HB.out))) : w.heap.size ≤ gb335)); have n3_ := Aside0.mk ((by rw [hg]; exact (below_size (by repeat (first | (with_reducible first | exact HB.out | apply below_alloc | apply pw_below_drewN | apply below_drew1) | exact HB.out))) : w.heap.size ≤ gb335)); clear HB; have HB := n0_; have BK335 := n1_; have GW335 := n2_; have GE335 := n3_; clear n0_ n1_ n2_ n3_; clear hb hbox hg; have hcz12_0 : w11.cell? ⟨gb335, 0, none⟩ = some (.int .i64 a0_0) := (blk_cell BK335.out 0).trans rfl; have hcz12_1 : w11.cell? ⟨gb335, 1, none⟩ = some (.int .i64 a0_1) := (blk_cell BK335.out 1).trans rfl; have hcz12_2 : w11.cell? ⟨gb335, 2, none⟩ = some (.int .i64 a0_2) := (blk_cell BK335.out 2).trans rfl; have hcz12_3 : w11.cell? ⟨gb335, 3, none⟩ = some (.int .i64 a0_3) := (blk_cell BK335.out 3).trans rfl; have hfz12_0 := blk_frozen BK335.out 0; have hfz12_1 := blk_frozen BK335.out 1; have hfz12_2 := blk_frozen BK335.out 2; have hfz12_3 := blk_frozen BK335.out 3))
          go_ret
          exact ⟨by first | rfl | (simp [errW_none, errW_some] <;> rfl) | (simp [*, errW_none, errW_some] <;> rfl), by repeat (first | (with_reducible first | exact HB.out | apply below_alloc | apply pw_below_drewN | apply below_drew1 | refine below_set ?_ GE335.out) | exact HB.out)⟩
      · rw [if_neg c4] at H
        have c4b0 : decide (a0_2 ≤ 40) = false := decide_eq_false c4
        clear c4
        obtain rfl := Option.some.inj H
        go_enter Try.func136, Try.ntmps136
        go_wp2_with (first | ((with_reducible refine gate_dst (N := 1) rfl ?_); refine box_event ?hg (N := 1) ?hd (cs := #[.int .i64 a0_0, .int .i64 a0_1, .int .i64 a0_2, .int .i64 a0_3]) (t := 75) ?hr ?_; (case hd => rfl); (case hg => rfl); (case hr => first | (go_simp; done) | (go_simp; rfl)); intro gb335 hg w13 hbox hb; have n0_ := Aside0.mk (below_step (by repeat (first | (with_reducible first | exact HB.out | apply below_alloc | apply pw_below_drewN | apply below_drew1) | exact HB.out)) hb); have n1_ := Aside0.mk (hbox); have n2_ := Aside0.mk ((by rw [hg]; exact (below_size (by repeat (first | (with_reducible first | exact HB.out | apply below_alloc | apply pw_below_drewN | apply below_drew1) | exact HB.out))) : w.heap.size ≤ gb335)); have n3_ := Aside0.mk ((by rw [hg]; exact (below_size (by repeat (first | (with_reducible first | exact HB.out | apply below_alloc | apply pw_below_drewN | apply below_drew1) | exact HB.out))) : w.heap.size ≤ gb335)); clear HB; have HB := n0_; have BK335 := n1_; have GW335 := n2_; have GE335 := n3_; clear n0_ n1_ n2_ n3_; clear hb hbox hg; have hcz14_0 : w13.cell? ⟨gb335, 0, none⟩ = some (.int .i64 a0_0) := (blk_cell BK335.out 0).trans rfl; have hcz14_1 : w13.cell? ⟨gb335, 1, none⟩ = some (.int .i64 a0_1) := (blk_cell BK335.out 1).trans rfl; have hcz14_2 : w13.cell? ⟨gb335, 2, none⟩ = some (.int .i64 a0_2) := (blk_cell BK335.out 2).trans rfl; have hcz14_3 : w13.cell? ⟨gb335, 3, none⟩ = some (.int .i64 a0_3) := (blk_cell BK335.out 3).trans rfl; have hfz14_0 := blk_frozen BK335.out 0; have hfz14_1 := blk_frozen BK335.out 1; have hfz14_2 := blk_frozen BK335.out 2; have hfz14_3 := blk_frozen BK335.out 3))
        go_ret
        exact ⟨by first | rfl | (simp [errW_none, errW_some] <;> rfl) | (simp [*, errW_none, errW_some] <;> rfl), by repeat (first | (with_reducible first | exact HB.out | apply below_alloc | apply pw_below_drewN | apply below_drew1 | refine below_set ?_ GE335.out) | exact HB.out)⟩
    · rw [if_neg c3] at H
      have c3b0 : decide (a0_0 < a0_2) = false := decide_eq_false c3
      clear c3
      obtain rfl := Option.some.inj H
      go_enter Try.func136, Try.ntmps136
      go_wp2_with (first | ((with_reducible refine gate_dst (N := 1) rfl ?_); refine box_event ?hg (N := 1) ?hd (cs := #[.int .i64 a0_0, .int .i64 a0_1, .int .i64 a0_2, .int .i64 a0_3]) (t := 75) ?hr ?_; (case hd => rfl); (case hg => rfl); (case hr => first | (go_simp; done) | (go_simp; rfl)); intro gb335 hg w15 hbox hb; have n0_ := Aside0.mk (below_step (by repeat (first | (with_reducible first | exact HB.out | apply below_alloc | apply pw_below_drewN | apply below_drew1) | exact HB.out)) hb); have n1_ := Aside0.mk (hbox); have n2_ := Aside0.mk ((by rw [hg]; exact (below_size (by repeat (first | (with_reducible first | exact HB.out | apply below_alloc | apply pw_below_drewN | apply below_drew1) | exact HB.out))) : w.heap.size ≤ gb335)); have n3_ := Aside0.mk ((by rw [hg]; exact (below_size (by repeat (first | (with_reducible first | exact HB.out | apply below_alloc | apply pw_below_drewN | apply below_drew1) | exact HB.out))) : w.heap.size ≤ gb335)); clear HB; have HB := n0_; have BK335 := n1_; have GW335 := n2_; have GE335 := n3_; clear n0_ n1_ n2_ n3_; clear hb hbox hg; have hcz16_0 : w15.cell? ⟨gb335, 0, none⟩ = some (.int .i64 a0_0) := (blk_cell BK335.out 0).trans rfl; have hcz16_1 : w15.cell? ⟨gb335, 1, none⟩ = some (.int .i64 a0_1) := (blk_cell BK335.out 1).trans rfl; have hcz16_2 : w15.cell? ⟨gb335, 2, none⟩ = some (.int .i64 a0_2) := (blk_cell BK335.out 2).trans rfl; have hcz16_3 : w15.cell? ⟨gb335, 3, none⟩ = some (.int .i64 a0_3) := (blk_cell BK335.out 3).trans rfl; have hfz16_0 := blk_frozen BK335.out 0; have hfz16_1 := blk_frozen BK335.out 1; have hfz16_2 := blk_frozen BK335.out 2; have hfz16_3 := blk_frozen BK335.out 3))
      go_ret
      exact ⟨by first | rfl | (simp [errW_none, errW_some] <;> rfl) | (simp [*, errW_none, errW_some] <;> rfl), by repeat (first | (with_reducible first | exact HB.out | apply below_alloc | apply pw_below_drewN | apply below_drew1 | refine below_set ?_ GE335.out) | exact HB.out)⟩
  · rw [if_neg c2] at H
    have c2b0 : decide ((-40) ≤ a0_0) = false := decide_eq_false c2
    clear c2
    obtain rfl := Option.some.inj H
    go_enter Try.func136, Try.ntmps136
    go_wp2_with (first | ((with_reducible refine gate_dst (N := 1) rfl ?_); refine box_event ?hg (N := 1) ?hd (cs := #[.int .i64 a0_0, .int .i64 a0_1, .int .i64 a0_2, .int .i64 a0_3]) (t := 75) ?hr ?_; (case hd => rfl); (case hg => rfl); (case hr => first | (go_simp; done) | (go_simp; rfl)); intro gb335 hg w17 hbox hb; have n0_ := Aside0.mk (below_step (by repeat (first | (with_reducible first | exact HB.out | apply below_alloc | apply pw_below_drewN | apply below_drew1) | exact HB.out)) hb); have n1_ := Aside0.mk (hbox); have n2_ := Aside0.mk ((by rw [hg]; exact (below_size (by repeat (first | (with_reducible first | exact HB.out | apply below_alloc | apply pw_below_drewN | apply below_drew1) | exact HB.out))) : w.heap.size ≤ gb335)); have n3_ := Aside0.mk ((by rw [hg]; exact (below_size (by repeat (first | (with_reducible first | exact HB.out | apply below_alloc | apply pw_below_drewN | apply below_drew1) | exact HB.out))) : w.heap.size ≤ gb335)); clear HB; have HB := n0_; have BK335 := n1_; have GW335 := n2_; have GE335 := n3_; clear n0_ n1_ n2_ n3_; clear hb hbox hg; have hcz18_0 : w17.cell? ⟨gb335, 0, none⟩ = some (.int .i64 a0_0) := (blk_cell BK335.out 0).trans rfl; have hcz18_1 : w17.cell? ⟨gb335, 1, none⟩ = some (.int .i64 a0_1) := (blk_cell BK335.out 1).trans rfl; have hcz18_2 : w17.cell? ⟨gb335, 2, none⟩ = some (.int .i64 a0_2) := (blk_cell BK335.out 2).trans rfl; have hcz18_3 : w17.cell? ⟨gb335, 3, none⟩ = some (.int .i64 a0_3) := (blk_cell BK335.out 3).trans rfl; have hfz18_0 := blk_frozen BK335.out 0; have hfz18_1 := blk_frozen BK335.out 1; have hfz18_2 := blk_frozen BK335.out 2; have hfz18_3 := blk_frozen BK335.out 3))
    go_ret
    exact ⟨by first | rfl | (simp [errW_none, errW_some] <;> rfl) | (simp [*, errW_none, errW_some] <;> rfl), by repeat (first | (with_reducible first | exact HB.out | apply below_alloc | apply pw_below_drewN | apply below_drew1 | refine below_set ?_ GE335.out) | exact HB.out)⟩

end Go.Proofs.Ytncjjplpenjghaa.P

/-! ### Px54 -/
namespace Go.Proofs.Ytncjjplpenjghaa.P
open Go.RowKit Go.Proofs.YtncjjplpenjghaaW.PrintWords Go.Proofs.YtncjjplpenjghaaW.PrintLast Go.Proofs.YtncjjplpenjghaaW.PrintMore
attribute [local go_sem] max2_int min2_int max_two min_two max_three min_three max_four min_four   -- for this text's walks alone
set_option linter.unusedVariables false
set_option linter.unusedSimpArgs false

/-! ### impl_validRects: function 100 -/
def impl_validRects.l0 : Nat → List (S75) → Int → Int → Option (Bool)
  | 0, _, _, _ => none
  | k + 1, x8, x9, x10 => if x10 < x9 then (if 0 ≤ x10 then (if x10 < (x8.length : Int) then ((impl_IsValidRect.f ((rd_T75 x8 x10).f0) ((rd_T75 x8 x10).f1) ((rd_T75 x8 x10).f2) ((rd_T75 x8 x10).f3)).bind fun t338 => (if t338 = true then (impl_validRects.l0 k x8 x9 (wrap64 (x10 + 1))) else (some false))) else (none)) else (none)) else (some true)
def impl_validRects.f (k : Nat) (l0 : List (S75)) : Option (Bool) := if (l0.length : Int) > 3200 then (some false) else (impl_validRects.l0 k l0 (l0.length : Int) 0)
theorem impl_validRects.mono_l : ∀ k, (∀ y0 y1 y2, LeO (impl_validRects.l0 k y0 y1 y2) (impl_validRects.l0 (k + 1) y0 y1 y2))
  | 0 => fun _ _ _ r h => by simp [impl_validRects.l0] at h
  | k + 1 => by
    have ih0 := impl_validRects.mono_l k
    · intro y0 y1 y2
      unfold impl_validRects.l0
      repeat' first
      | (with_reducible exact ih0 _ _ _)
      | (with_reducible exact LeO.refl _)
      | (with_reducible exact LeO.none _)
      | (with_reducible refine LeO.ite ?_ ?_)
      | (with_reducible refine LeO.bind ?_ (fun _ => ?_))
      | exact ih0 _ _ _
      | exact LeO.none _
      | refine LeO.ite ?_ ?_
      | refine LeO.bind ?_ (fun _ => ?_)
theorem impl_validRects.mono : ∀ a0 k, LeO (impl_validRects.f k a0) (impl_validRects.f (k + 1) a0) := by
  intro a0 k
  have ih0 := impl_validRects.mono_l k
  unfold impl_validRects.f
  repeat' first
      | (with_reducible exact ih0 _ _ _)
      | (with_reducible exact LeO.refl _)
      | (with_reducible exact LeO.none _)
      | (with_reducible refine LeO.ite ?_ ?_)
      | (with_reducible refine LeO.bind ?_ (fun _ => ?_))
      | exact ih0 _ _ _
      | exact LeO.none _
      | refine LeO.ite ?_ ?_
      | refine LeO.bind ?_ (fun _ => ?_)
set_option maxHeartbeats 8000000 in
set_option maxRecDepth 100000 in
theorem impl_validRects.calls (k : Nat) (A0 : Option Addr) (c0 : Nat) (l0 : List (S75)) (r : Bool) (w : World) (hr0 : Kd.C k75 w A0 l0.length l0) (hc0 : l0.length ≤ c0) (h : impl_validRects.f k l0 = some r) :
    Calls Try.prog 100 #[.slice A0 l0.length c0] w fun e w' => e = .returned (.bool r) ∧ Below w.heap.size w w' := by
  have hu75 := Try.underlying75
  have HR0 := Aside0.mk hr0
  have HC0 := Aside0.mk hc0
  clear hr0 hc0
  have HB := Aside0.mk (Below.refl w.heap.size w)
  have H : (if (l0.length : Int) > 3200 then (some false) else (impl_validRects.l0 k l0 (l0.length : Int) 0)) = some r := h
  clear h
  by_cases c2 : (l0.length : Int) > 3200
  · rw [if_pos c2] at H
    have c2b0 : decide (3200 < (l0.length : Int)) = true := decide_eq_true c2
    have c2b1 : decide (3200 < l0.length) = true := decide_eq_true (by omega)
    clear c2
    obtain rfl := Option.some.inj H
    go_enter Try.func100, Try.ntmps100
    go_wp2
    go_ret
    exact ⟨by first | rfl | (simp [errW_none, errW_some] <;> rfl) | (simp [*, errW_none, errW_some] <;> rfl), by repeat (first | (with_reducible first | exact HB.out | apply below_alloc | apply pw_below_drewN | apply below_drew1) | exact HB.out)⟩
  · rw [if_neg c2] at H
    have c2b0 : decide (3200 < (l0.length : Int)) = false := decide_eq_false c2
    have c2b1 : decide (3200 < l0.length) = false := decide_eq_false (by omega)
    clear c2
    have H' := Aside0.mk H
    clear H
    go_enter Try.func100, Try.ntmps100
    go_wp2
    go_loopg [10] k (fun kq v10 w' => ∃ (x10_1 : Int), v10 = .int .i64 x10_1 ∧ Aside0 (impl_validRects.l0 kq l0 (l0.length : Int) x10_1 = some r) ∧ Aside0 (kq ≤ k) ∧ Aside0 (Below w.heap.size w w'))
    case atStart => exact ⟨(0), (by first | rfl | (simp; done) | (simp [*]; done)), H', ⟨Nat.le_refl _⟩, ⟨by repeat (first | (with_reducible first | exact HB.out | apply below_alloc | apply pw_below_drewN | apply below_drew1) | exact HB.out)⟩⟩
    case round =>
      clear H'
      try clear c1
      try clear c2
      try clear c2b0
      try clear c2b1
      try clear p2
      obtain ⟨x10_1, rfl, HA, HK1, HB⟩ := hrel
      cases gk with
      | zero => exact absurd HA.out (by simp [impl_validRects.l0])
      | succ k1 =>
        have H := HA.out
        clear HA
        simp only [impl_validRects.l0] at H
        by_cases c3 : x10_1 < (l0.length : Int)
        · rw [if_pos c3] at H
          have c3b0 : decide (x10_1 < (l0.length : Int)) = true := decide_eq_true c3
          clear c3
          by_cases c4 : 0 ≤ x10_1
          · rw [if_pos c4] at H
            have c4b0 : decide (0 ≤ x10_1) = true := decide_eq_true c4
            clear c4
            by_cases c5 : x10_1 < (l0.length : Int)
            · rw [if_pos c5] at H
              have c5b0 : decide (x10_1 < (l0.length : Int)) = true := decide_eq_true c5
              clear c5
              replace H := Option.bind_eq_some_iff.mp H
              obtain ⟨t338, A60, H⟩ := H
              replace H : (if t338 = true then (impl_validRects.l0 k1 l0 (l0.length : Int) (wrap64 (x10_1 + 1))) else (some false)) = some r := H
              have A6 := Aside0.mk A60
              clear A60
              by_cases c7 : t338 = true
              · subst c7
                have H1 : (impl_validRects.l0 k1 l0 (l0.length : Int) (wrap64 (x10_1 + 1))) = some r := by rw [if_pos rfl] at H; exact H
                clear H
                have H := H1
                clear H1
                have H' := Aside0.mk H
                clear H
                have p336 : 0 ≤ (x10_1 : Int) := of_decide_eq_true (by first | (with_reducible assumption) | assumption)
                have q336 : x10_1 < (l0.length : Int) := of_decide_eq_true (by first | (with_reducible assumption) | assumption)
                obtain ⟨ad336, e336, hx336_0, hx336_1, hx336_2, hx336_3⟩ := at_T75 HR0.out x10_1 p336 q336
                cases e336
                replace hx336_0 := (HB.out.cell (World.block_lt_of_cell? _ _ hx336_0)).trans hx336_0
                replace hx336_1 := (HB.out.cell (World.block_lt_of_cell? _ _ hx336_1)).trans hx336_1
                replace hx336_2 := (HB.out.cell (World.block_lt_of_cell? _ _ hx336_2)).trans hx336_2
                replace hx336_3 := (HB.out.cell (World.block_lt_of_cell? _ _ hx336_3)).trans hx336_3
                replace p336 := eq_true p336
                replace q336 := eq_true q336
                go_wp2_with (first | ((with_reducible refine gate_dst (N := 4) rfl ?_); refine box_event ?hg (N := 4) ?hd (cs := #[.int .i64 0, .int .i64 0, .int .i64 0, .int .i64 0]) (t := 75) ?hr ?_; (case hd => rfl); (case hg => rfl); (case hr => first | (go_simp; done) | (go_simp; rfl)); intro gb337 hg w8 hbox hb; have n0_ := Aside0.mk (below_step (by repeat (first | (with_reducible first | exact HB.out | apply below_alloc | apply pw_below_drewN | apply below_drew1) | exact HB.out)) hb); have n1_ := Aside0.mk (hbox); have n2_ := Aside0.mk ((by rw [hg]; exact (below_size (by repeat (first | (with_reducible first | exact HB.out | apply below_alloc | apply pw_below_drewN | apply below_drew1) | exact HB.out))) : w.heap.size ≤ gb337)); have n3_ := Aside0.mk ((by rw [hg]; exact (below_size (by repeat (first | (with_reducible first | exact HB.out | apply below_alloc | apply pw_below_drewN | apply below_drew1) | exact HB.out))) : w.heap.size ≤ gb337)); clear HB; have HB := n0_; have BK337 := n1_; have GW337 := n2_; have GE337 := n3_; clear n0_ n1_ n2_ n3_; clear hb hbox hg; have hcz9_0 : w8.cell? ⟨gb337, 0, none⟩ = some (.int .i64 0) := (blk_cell BK337.out 0).trans rfl; have hcz9_1 : w8.cell? ⟨gb337, 1, none⟩ = some (.int .i64 0) := (blk_cell BK337.out 1).trans rfl; have hcz9_2 : w8.cell? ⟨gb337, 2, none⟩ = some (.int .i64 0) := (blk_cell BK337.out 2).trans rfl; have hcz9_3 : w8.cell? ⟨gb337, 3, none⟩ = some (.int .i64 0) := (blk_cell BK337.out 3).trans rfl; have hfz9_0 := blk_frozen BK337.out 0; have hfz9_1 := blk_frozen BK337.out 1; have hfz9_2 := blk_frozen BK337.out 2; have hfz9_3 := blk_frozen BK337.out 3) | ((with_reducible refine gate_callee (f := 136) rfl ?_); refine goesL_ (some 15) rfl rfl Try.func136 (by kernel_rfl) rfl #[.agg #[.int .i64 ((rd_T75 l0 x10_1).f0), .int .i64 ((rd_T75 l0 x10_1).f1), .int .i64 ((rd_T75 l0 x10_1).f2), .int .i64 ((rd_T75 l0 x10_1).f3)]] rfl (by (try simp only [List.map_toArray, List.map_cons, List.map_nil]); first | done | rfl | (simp only [List.length_drop, List.length_take]; rfl)) ?_; (with_reducible refine (impl_IsValidRect.calls ((rd_T75 l0 x10_1).f0) ((rd_T75 l0 x10_1).f1) ((rd_T75 l0 x10_1).f2) ((rd_T75 l0 x10_1).f3) true _ A6.out).mono ?_); rintro e w10 ⟨rfl, hb⟩; refine ⟨_, rfl, ?_⟩; have n0_ := Aside0.mk (blk_below (g := gb337) (o := .cells #[.int .i64 ((rd_T75 l0 x10_1).f0), .int .i64 ((rd_T75 l0 x10_1).f1), .int .i64 ((rd_T75 l0 x10_1).f2), .int .i64 ((rd_T75 l0 x10_1).f3)] 75 (0, 0)) (by (with_reducible repeat (first | refine blk_drewN ?_ _ | refine blk_drew ?_ | refine blk_alloc ?_ _)); refine blk_put (cs := #[.int .i64 ((rd_T75 l0 x10_1).f0), .int .i64 ((rd_T75 l0 x10_1).f1), .int .i64 ((rd_T75 l0 x10_1).f2), .int .i64 0]) ?_ 3 _ rfl; (with_reducible repeat (first | refine blk_drewN ?_ _ | refine blk_drew ?_ | refine blk_alloc ?_ _)); refine blk_put (cs := #[.int .i64 ((rd_T75 l0 x10_1).f0), .int .i64 ((rd_T75 l0 x10_1).f1), .int .i64 0, .int .i64 0]) ?_ 2 _ rfl; (with_reducible repeat (first | refine blk_drewN ?_ _ | refine blk_drew ?_ | refine blk_alloc ?_ _)); refine blk_put (cs := #[.int .i64 ((rd_T75 l0 x10_1).f0), .int .i64 0, .int .i64 0, .int .i64 0]) ?_ 1 _ rfl; (with_reducible repeat (first | refine blk_drewN ?_ _ | refine blk_drew ?_ | refine blk_alloc ?_ _)); refine blk_put (cs := #[.int .i64 0, .int .i64 0, .int .i64 0, .int .i64 0]) ?_ 0 _ rfl; (with_reducible repeat (first | refine blk_drewN ?_ _ | refine blk_drew ?_ | refine blk_alloc ?_ _)); exact BK337.out) hb); have n1_ := Aside0.mk (below_step (by repeat (first | (with_reducible first | exact HB.out | apply below_alloc | apply pw_below_drewN | apply below_drew1 | refine below_set ?_ GE337.out) | exact HB.out)) hb); clear BK337; clear HB; have BK337 := n0_; have HB := n1_; clear n0_ n1_; (try clear hb); (try clear hb2); (try clear hk); (try clear hi)))
                go_roundg k1
                case measure => have := HK1.out; omega
                case rel => exact ⟨(wrap64 (x10_1 + 1)), (by first | rfl | (simp; done) | (simp [*]; done)), H', ⟨by have := HK1.out; omega⟩, ⟨by repeat (first | (with_reducible first | exact HB.out | apply below_alloc | apply pw_below_drewN | apply below_drew1 | refine below_set ?_ GE337.out) | exact HB.out)⟩⟩
              · replace c7 := Bool.eq_false_iff.mpr c7
                subst c7
                have H1 : (some false) = some r := by rw [if_neg (show ¬ (false = true) by decide)] at H; exact H
                clear H
                have H := H1
                clear H1
                obtain rfl := Option.some.inj H
                have p336 : 0 ≤ (x10_1 : Int) := of_decide_eq_true (by first | (with_reducible assumption) | assumption)
                have q336 : x10_1 < (l0.length : Int) := of_decide_eq_true (by first | (with_reducible assumption) | assumption)
                obtain ⟨ad336, e336, hx336_0, hx336_1, hx336_2, hx336_3⟩ := at_T75 HR0.out x10_1 p336 q336
                cases e336
                replace hx336_0 := (HB.out.cell (World.block_lt_of_cell? _ _ hx336_0)).trans hx336_0
                replace hx336_1 := (HB.out.cell (World.block_lt_of_cell? _ _ hx336_1)).trans hx336_1
                replace hx336_2 := (HB.out.cell (World.block_lt_of_cell? _ _ hx336_2)).trans hx336_2
                replace hx336_3 := (HB.out.cell (World.block_lt_of_cell? _ _ hx336_3)).trans hx336_3
                replace p336 := eq_true p336
                replace q336 := eq_true q336
                go_wp2_with (first | ((with_reducible refine gate_dst (N := 4) rfl ?_); refine box_event ?hg (N := 4) ?hd (cs := #[.int .i64 0, .int .i64 0, .int .i64 0, .int .i64 0]) (t := 75) ?hr ?_; (case hd => rfl); (case hg => rfl); (case hr => first | (go_simp; done) | (go_simp; rfl)); intro gb337 hg w11 hbox hb; have n0_ := Aside0.mk (below_step (by repeat (first | (with_reducible first | exact HB.out | apply below_alloc | apply pw_below_drewN | apply below_drew1) | exact HB.out)) hb); have n1_ := Aside0.mk (hbox); have n2_ := Aside0.mk ((by rw [hg]; exact (below_size (by repeat (first | (with_reducible first | exact HB.out | apply below_alloc | apply pw_below_drewN | apply below_drew1) | exact HB.out))) : w.heap.size ≤ gb337)); have n3_ := Aside0.mk ((by rw [hg]; exact (below_size (by repeat (first | (with_reducible first | exact HB.out | apply below_alloc | apply pw_below_drewN | apply below_drew1) | exact HB.out))) : w.heap.size ≤ gb337)); clear HB; have HB := n0_; have BK337 := n1_; have GW337 := n2_; have GE337 := n3_; clear n0_ n1_ n2_ n3_; clear hb hbox hg; have hcz12_0 : w11.cell? ⟨gb337, 0, none⟩ = some (.int .i64 0) := (blk_cell BK337.out 0).trans rfl; have hcz12_1 : w11.cell? ⟨gb337, 1, none⟩ = some (.int .i64 0) := (blk_cell BK337.out 1).trans rfl; have hcz12_2 : w11.cell? ⟨gb337, 2, none⟩ = some (.int .i64 0) := (blk_cell BK337.out 2).trans rfl; have hcz12_3 : w11.cell? ⟨gb337, 3, none⟩ = some (.int .i64 0) := (blk_cell BK337.out 3).trans rfl; have hfz12_0 := blk_frozen BK337.out 0; have hfz12_1 := blk_frozen BK337.out 1; have hfz12_2 := blk_frozen BK337.out 2; have hfz12_3 := blk_frozen BK337.out 3) | ((with_reducible refine gate_callee (f := 136) rfl ?_); refine goesL_ (some 15) rfl rfl Try.func136 (by kernel_rfl) rfl #[.agg #[.int .i64 ((rd_T75 l0 x10_1).f0), .int .i64 ((rd_T75 l0 x10_1).f1), .int .i64 ((rd_T75 l0 x10_1).f2), .int .i64 ((rd_T75 l0 x10_1).f3)]] rfl (by (try simp only [List.map_toArray, List.map_cons, List.map_nil]); first | done | rfl | (simp only [List.length_drop, List.length_take]; rfl)) ?_; (with_reducible refine (impl_IsValidRect.calls ((rd_T75 l0 x10_1).f0) ((rd_T75 l0 x10_1).f1) ((rd_T75 l0 x10_1).f2) ((rd_T75 l0 x10_1).f3) false _ A6.out).mono ?_); rintro e w13 ⟨rfl, hb⟩; refine ⟨_, rfl, ?_⟩; have n0_ := Aside0.mk (blk_below (g := gb337) (o := .cells #[.int .i64 ((rd_T75 l0 x10_1).f0), .int .i64 ((rd_T75 l0 x10_1).f1), .int .i64 ((rd_T75 l0 x10_1).f2), .int .i64 ((rd_T75 l0 x10_1).f3)] 75 (0, 0)) (by (with_reducible repeat (first | refine blk_drewN ?_ _ | refine blk_drew ?_ | refine blk_alloc ?_ _)); refine blk_put (cs := #[.int .i64 ((rd_T75 l0 x10_1).f0), .int .i64 ((rd_T75 l0 x10_1).f1), .int .i64 ((rd_T75 l0 x10_1).f2), .int .i64 0]) ?_ 3 _ rfl; (with_reducible repeat (first | refine blk_drewN ?_ _ | refine blk_drew ?_ | refine blk_alloc ?_ _)); refine blk_put (cs := #[.int .i64 ((rd_T75 l0 x10_1).f0), .int .i64 ((rd_T75 l0 x10_1).f1), .int .i64 0, .int .i64 0]) ?_ 2 _ rfl; (with_reducible repeat (first | refine blk_drewN ?_ _ | refine blk_drew ?_ | refine blk_alloc ?_ _)); refine blk_put (cs := #[.int .i64 ((rd_T75 l0 x10_1).f0), .int .i64 0, .int .i64 0, .int .i64 0]) ?_ 1 _ rfl; (with_reducible repeat (first | refine blk_drewN ?_ _ | refine blk_drew ?_ | refine blk_alloc ?_ _)); refine blk_put (cs := #[.int .i64 0, .int .i64 0, .int .i64 0, .int .i64 0]) ?_ 0 _ rfl; (with_reducible repeat (first | refine blk_drewN ?_ _ | refine blk_drew ?_ | refine blk_alloc ?_ _)); exact BK337.out) hb); have n1_ := Aside0.mk (below_step (by repeat (first | (with_reducible first | exact HB.out | apply below_alloc | apply pw_below_drewN | apply below_drew1 | refine below_set ?_ GE337.out) | exact HB.out)) hb); clear BK337; clear HB; have BK337 := n0_; have HB := n1_; clear n0_ n1_; (try clear hb); (try clear hb2); (try clear hk); (try clear hi)))
                go_ret
                exact ⟨by first | rfl | (simp [errW_none, errW_some] <;> rfl) | (simp [*, errW_none, errW_some] <;> rfl), by repeat (first | (with_reducible first | exact HB.out | apply below_alloc | apply pw_below_drewN | apply below_drew1 | refine below_set ?_ GE337.out) | exact HB.out)⟩
            · rw [if_neg c5] at H
              exact absurd H (by simp)
          · rw [if_neg c4] at H
            exact absurd H (by simp)
        · rw [if_neg c3] at H
          have c3b0 : decide (x10_1 < (l0.length : Int)) = false := decide_eq_false c3
          clear c3
          obtain rfl := Option.some.inj H
          go_wp2
          go_ret
          exact ⟨by first | rfl | (simp [errW_none, errW_some] <;> rfl) | (simp [*, errW_none, errW_some] <;> rfl), by repeat (first | (with_reducible first | exact HB.out | apply below_alloc | apply pw_below_drewN | apply below_drew1) | exact HB.out)⟩

end Go.Proofs.Ytncjjplpenjghaa.P

/-! ### Px55 -/
namespace Go.Proofs.Ytncjjplpenjghaa.P
open Go.RowKit Go.Proofs.YtncjjplpenjghaaW.PrintWords Go.Proofs.YtncjjplpenjghaaW.PrintLast Go.Proofs.YtncjjplpenjghaaW.PrintMore
attribute [local go_sem] max2_int min2_int max_two min_two max_three min_three max_four min_four   -- for this text's walks alone
set_option linter.unusedVariables false
set_option linter.unusedSimpArgs false

attribute [local go_sem high] eqA75
/-! ### impl_Rect_101: function 101 -/
def impl_Rect_101.l0 : Nat → List (S75) → List (S75) → Int → Int → Option (Bool)
  | 0, _, _, _, _ => none
  | k + 1, x0, x1, x12, x13 => if x13 < x12 then (if 0 ≤ x13 then (if x13 < (x0.length : Int) then (if x13 < (x1.length : Int) then (if (!(((rd_T75 x0 x13).f0) == ((rd_T75 x1 x13).f0)) || (!(((rd_T75 x0 x13).f1) == ((rd_T75 x1 x13).f1)) || (!(((rd_T75 x0 x13).f2) == ((rd_T75 x1 x13).f2)) || (!(((rd_T75 x0 x13).f3) == ((rd_T75 x1 x13).f3)))))) = true then (some false) else (impl_Rect_101.l0 k x0 x1 x12 (wrap64 (x13 + 1)))) else (none)) else (none)) else (none)) else (some true)
def impl_Rect_101.f (k : Nat) (l0 : List (S75)) (l1 : List (S75)) : Option (Bool) := if (l0.length : Int) = (l1.length : Int) then (impl_Rect_101.l0 k l0 l1 (l0.length : Int) 0) else (some false)
theorem impl_Rect_101.mono_l : ∀ k, (∀ y0 y1 y2 y3, LeO (impl_Rect_101.l0 k y0 y1 y2 y3) (impl_Rect_101.l0 (k + 1) y0 y1 y2 y3))
  | 0 => fun _ _ _ _ r h => by simp [impl_Rect_101.l0] at h
  | k + 1 => by
    have ih0 := impl_Rect_101.mono_l k
    · intro y0 y1 y2 y3
      unfold impl_Rect_101.l0
      repeat' first
      | (with_reducible exact ih0 _ _ _ _)
      | (with_reducible exact LeO.refl _)
      | (with_reducible exact LeO.none _)
      | (with_reducible refine LeO.ite ?_ ?_)
      | (with_reducible refine LeO.bind ?_ (fun _ => ?_))
      | exact ih0 _ _ _ _
      | exact LeO.none _
      | refine LeO.ite ?_ ?_
      | refine LeO.bind ?_ (fun _ => ?_)
theorem impl_Rect_101.mono : ∀ a0 a1 k, LeO (impl_Rect_101.f k a0 a1) (impl_Rect_101.f (k + 1) a0 a1) := by
  intro a0 a1 k
  have ih0 := impl_Rect_101.mono_l k
  unfold impl_Rect_101.f
  repeat' first
      | (with_reducible exact ih0 _ _ _ _)
      | (with_reducible exact LeO.refl _)
      | (with_reducible exact LeO.none _)
      | (with_reducible refine LeO.ite ?_ ?_)
      | (with_reducible refine LeO.bind ?_ (fun _ => ?_))
      | exact ih0 _ _ _ _
      | exact LeO.none _
      | refine LeO.ite ?_ ?_
      | refine LeO.bind ?_ (fun _ => ?_)
set_option maxHeartbeats 8000000 in
set_option maxRecDepth 100000 in
theorem impl_Rect_101.calls (k : Nat) (A0 : Option Addr) (c0 : Nat) (l0 : List (S75)) (A1 : Option Addr) (c1 : Nat) (l1 : List (S75)) (r : Bool) (w : World) (hr0 : Kd.C k75 w A0 l0.length l0) (hc0 : l0.length ≤ c0) (hr1 : Kd.C k75 w A1 l1.length l1) (hc1 : l1.length ≤ c1) (h : impl_Rect_101.f k l0 l1 = some r) :
    Calls Try.prog 101 #[.slice A0 l0.length c0, .slice A1 l1.length c1] w fun e w' => e = .returned (.bool r) ∧ Drawn0 w w' := by
  have hu75 := Try.underlying75
  have HR0 := Aside0.mk hr0
  have HC0 := Aside0.mk hc0
  clear hr0 hc0
  have HR1 := Aside0.mk hr1
  have HC1 := Aside0.mk hc1
  clear hr1 hc1
  have H : (if (l0.length : Int) = (l1.length : Int) then (impl_Rect_101.l0 k l0 l1 (l0.length : Int) 0) else (some false)) = some r := h
  clear h
  by_cases c3 : (l0.length : Int) = (l1.length : Int)
  · rw [if_pos c3] at H
    have c3b0 : ((l0.length : Int) == (l1.length : Int)) = true := beq_iff_eq.mpr c3
    have c3b1 : ((l0.length : Int) != (l1.length : Int)) = false := bne_eq_false_iff_eq.mpr c3
    have c3b2 : (l0.length == l1.length) = true := by first | simpa using c3 | (simp at c3 ⊢; omega)
    clear c3
    have H' := Aside0.mk H
    clear H
    go_enter Try.func101, Try.ntmps101
    go_wp2
    repeat (go_quiet (fail); try go_wp2)
    go_loopg [13] k (fun kq v13 w' => ∃ (x13_1 : Int), v13 = .int .i64 x13_1 ∧ Aside0 (impl_Rect_101.l0 kq l0 l1 (l0.length : Int) x13_1 = some r) ∧ Aside0 (kq ≤ k) ∧ Drawn0 w w')
    case atStart => exact ⟨(0), (by first | rfl | (simp; done) | (simp [*]; done)), H', ⟨Nat.le_refl _⟩, by repeat (first | exact Drawn0.refl _ | apply Drawn0.step)⟩
    case round =>
      clear H'
      try clear c1
      try clear p2
      try clear c3
      try clear c3b0
      try clear c3b1
      try clear c3b2
      obtain ⟨x13_1, rfl, HA, HK1, ⟨m1, rfl⟩⟩ := hrel
      cases gk with
      | zero => exact absurd HA.out (by simp [impl_Rect_101.l0])
      | succ k1 =>
        have H := HA.out
        clear HA
        simp only [impl_Rect_101.l0] at H
        by_cases c4 : x13_1 < (l0.length : Int)
        · rw [if_pos c4] at H
          have c4b0 : decide (x13_1 < (l0.length : Int)) = true := decide_eq_true c4
          clear c4
          by_cases c5 : 0 ≤ x13_1
          · rw [if_pos c5] at H
            have c5b0 : decide (0 ≤ x13_1) = true := decide_eq_true c5
            clear c5
            by_cases c6 : x13_1 < (l0.length : Int)
            · rw [if_pos c6] at H
              have c6b0 : decide (x13_1 < (l0.length : Int)) = true := decide_eq_true c6
              clear c6
              by_cases c7 : x13_1 < (l1.length : Int)
              · rw [if_pos c7] at H
                have c7b0 : decide (x13_1 < (l1.length : Int)) = true := decide_eq_true c7
                clear c7
                by_cases c8 : (!(((rd_T75 l0 x13_1).f0) == ((rd_T75 l1 x13_1).f0)) || (!(((rd_T75 l0 x13_1).f1) == ((rd_T75 l1 x13_1).f1)) || (!(((rd_T75 l0 x13_1).f2) == ((rd_T75 l1 x13_1).f2)) || (!(((rd_T75 l0 x13_1).f3) == ((rd_T75 l1 x13_1).f3)))))) = true
                · rw [if_pos c8] at H
                  have c8b0 : (!(((rd_T75 l0 x13_1).f0) == ((rd_T75 l1 x13_1).f0)) || (!(((rd_T75 l0 x13_1).f1) == ((rd_T75 l1 x13_1).f1)) || (!(((rd_T75 l0 x13_1).f2) == ((rd_T75 l1 x13_1).f2)) || (!(((rd_T75 l0 x13_1).f3) == ((rd_T75 l1 x13_1).f3)))))) = true := c8
                  clear c8
                  obtain rfl := Option.some.inj H
                  have p339 : 0 ≤ (x13_1 : Int) := of_decide_eq_true (by first | (with_reducible assumption) | assumption)
                  have q339 : x13_1 < (l0.length : Int) := of_decide_eq_true (by first | (with_reducible assumption) | assumption)
                  obtain ⟨ad339, e339, hx339_0, hx339_1, hx339_2, hx339_3⟩ := at_T75 HR0.out x13_1 p339 q339
                  cases e339
                  replace p339 := eq_true p339
                  replace q339 := eq_true q339
                  have p340 : 0 ≤ (x13_1 : Int) := of_decide_eq_true (by first | (with_reducible assumption) | assumption)
                  have q340 : x13_1 < (l1.length : Int) := of_decide_eq_true (by first | (with_reducible assumption) | assumption)
                  obtain ⟨ad340, e340, hx340_0, hx340_1, hx340_2, hx340_3⟩ := at_T75 HR1.out x13_1 p340 q340
                  cases e340
                  replace p340 := eq_true p340
                  replace q340 := eq_true q340
                  go_wp2
                  repeat (go_quiet (fail); try go_wp2)
                  go_ret
                  exact ⟨by first | rfl | (simp; done) | (simp [*]; done), by repeat (first | exact Drawn0.refl _ | apply Drawn0.step)⟩
                · rw [if_neg c8] at H
                  have c8b0 : (!(((rd_T75 l0 x13_1).f0) == ((rd_T75 l1 x13_1).f0)) || (!(((rd_T75 l0 x13_1).f1) == ((rd_T75 l1 x13_1).f1)) || (!(((rd_T75 l0 x13_1).f2) == ((rd_T75 l1 x13_1).f2)) || (!(((rd_T75 l0 x13_1).f3) == ((rd_T75 l1 x13_1).f3)))))) = false := by simpa using c8
                  clear c8
                  have H' := Aside0.mk H
                  clear H
                  have p339 : 0 ≤ (x13_1 : Int) := of_decide_eq_true (by first | (with_reducible assumption) | assumption)
                  have q339 : x13_1 < (l0.length : Int) := of_decide_eq_true (by first | (with_reducible assumption) | assumption)
                  obtain ⟨ad339, e339, hx339_0, hx339_1, hx339_2, hx339_3⟩ := at_T75 HR0.out x13_1 p339 q339
                  cases e339
                  replace p339 := eq_true p339
                  replace q339 := eq_true q339
                  have p340 : 0 ≤ (x13_1 : Int) := of_decide_eq_true (by first | (with_reducible assumption) | assumption)
                  have q340 : x13_1 < (l1.length : Int) := of_decide_eq_true (by first | (with_reducible assumption) | assumption)
                  obtain ⟨ad340, e340, hx340_0, hx340_1, hx340_2, hx340_3⟩ := at_T75 HR1.out x13_1 p340 q340
                  cases e340
                  replace p340 := eq_true p340
                  replace q340 := eq_true q340
                  go_wp2
                  repeat (go_quiet (fail); try go_wp2)
                  go_roundg k1
                  case measure => have := HK1.out; omega
                  case rel => exact ⟨(wrap64 (x13_1 + 1)), (by first | rfl | (simp; done) | (simp [*]; done)), H', ⟨by have := HK1.out; omega⟩, by repeat (first | exact Drawn0.refl _ | apply Drawn0.step)⟩
              · rw [if_neg c7] at H
                exact absurd H (by simp)
            · rw [if_neg c6] at H
              exact absurd H (by simp)
          · rw [if_neg c5] at H
            exact absurd H (by simp)
        · rw [if_neg c4] at H
          have c4b0 : decide (x13_1 < (l0.length : Int)) = false := decide_eq_false c4
          clear c4
          obtain rfl := Option.some.inj H
          go_wp2
          repeat (go_quiet (fail); try go_wp2)
          go_ret
          exact ⟨by first | rfl | (simp; done) | (simp [*]; done), by repeat (first | exact Drawn0.refl _ | apply Drawn0.step)⟩
  · rw [if_neg c3] at H
    have c3b0 : ((l0.length : Int) == (l1.length : Int)) = false := beq_eq_false_iff_ne.mpr c3
    have c3b1 : ((l0.length : Int) != (l1.length : Int)) = true := bne_iff_ne.mpr c3
    have c3b2 : (l0.length == l1.length) = false := by first | simpa using c3 | (simp at c3 ⊢; omega)
    obtain rfl := Option.some.inj H
    go_enter Try.func101, Try.ntmps101
    go_wp2
    repeat (go_quiet (fail); try go_wp2)
    go_ret
    exact ⟨by first | rfl | (simp; done) | (simp [*]; done), by repeat (first | exact Drawn0.refl _ | apply Drawn0.step)⟩

end Go.Proofs.Ytncjjplpenjghaa.P

/-! ### IsReg -/
/- IsRegion: the program's test, walked by hand. -/
set_option linter.unusedVariables false
set_option linter.unusedSimpArgs false
namespace Go.Proofs.Ytncjjplpenjghaa.H
open Go Go.RowKit Go.Proofs.Ytncjjplpenjghaa.P Go.Proofs.YtncjjplpenjghaaW.PrintWords Go.Proofs.YtncjjplpenjghaaW.PrintLast Go.Proofs.Ytncjjplpenjghaa.G
theorem rdR (l : List Rc) (i : Nat) (h : i < l.length) : rd_T75 l (i : Int) = l[i] := by simp [rd_T75, List.getD_eq_getElem?_getD, h]
theorem impl_okR (r : Rc) : impl_IsValidRect.f r.f0 r.f1 r.f2 r.f3 = some (okR r) := by
  unfold impl_IsValidRect.f okR
  by_cases a : -40 ≤ r.f0 <;> by_cases b : r.f0 < r.f2 <;> by_cases c : r.f2 ≤ 40 <;> by_cases d : -40 ≤ r.f1 <;> by_cases e : r.f1 < r.f3 <;> simp [a, b, c, d, e]
theorem ev_validL (l : List Rc) (hl : l.length ≤ 2000000) : ∀ (d i : Nat), i + d = l.length → Ev (fun k => impl_validRects.l0 k l l.length i) ((l.drop i).all okR)
  | 0, i, h => by
    rw [List.drop_eq_nil_of_le (by omega)]
    refine Ev.step (f := fun _ => some true) (fun k => ?_) (Ev.now true)
    simp only [impl_validRects.l0]
    rw [if_neg (by omega)]
  | d + 1, i, h => by
    have hi : i < l.length := by omega
    rw [List.drop_eq_getElem_cons hi, List.all_cons]
    cases ho : okR l[i] with
    | false =>
      refine Ev.step (f := fun _ => some false) (fun k => ?_) (Ev.now false)
      simp only [impl_validRects.l0]
      rw [if_pos (by omega), if_pos (by omega), if_pos (by omega), rdR l i hi, impl_okR, ho, Option.bind_some, if_neg (by decide)]
    | true =>
      refine Ev.step (fun k => ?_) (ev_validL l hl d (i + 1) (by omega))
      simp only [impl_validRects.l0]
      rw [if_pos (by omega), if_pos (by omega), if_pos (by omega), rdR l i hi, impl_okR, ho, Option.bind_some, if_pos rfl, wrap_up i (by omega)]
def vals (l : List Rc) : Bool := decide (l.length ≤ 3200) && l.all okR
theorem valid_f (l : List Rc) (hl : l.length ≤ 2000000) : ∃ k, impl_validRects.f k l = some (vals l) := by
  unfold vals
  by_cases h : l.length ≤ 3200
  · rw [decide_eq_true h, Bool.true_and]
    refine Ev.rounds (Ev.congr (fun k => ?_) (ev_validL l hl l.length 0 (by omega)))
    unfold impl_validRects.f
    rw [if_neg (by omega)]
    rfl
  · rw [decide_eq_false h, Bool.false_and]
    refine ⟨0, ?_⟩
    unfold impl_validRects.f
    rw [if_pos (by omega)]
theorem ev_eqL (l m : List Rc) (hl : l.length ≤ 2000000) (hm : l.length = m.length) : ∀ (d i : Nat), i + d = l.length → Ev (fun k => impl_Rect_101.l0 k l m l.length i) (decide (l.drop i = m.drop i))
  | 0, i, h => by
    rw [List.drop_eq_nil_of_le (by omega), List.drop_eq_nil_of_le (by omega)]
    refine Ev.step (f := fun _ => some true) (fun k => ?_) (Ev.now true)
    simp only [impl_Rect_101.l0]
    rw [if_neg (by omega)]
  | d + 1, i, h => by
    have hi : i < l.length := by omega
    have hi2 : i < m.length := by omega
    have hc : (!((l[i].f0) == (m[i].f0)) || (!((l[i].f1) == (m[i].f1)) || (!((l[i].f2) == (m[i].f2)) || (!((l[i].f3) == (m[i].f3)))))) = !decide (l[i] = m[i]) := by
      generalize l[i] = a
      generalize m[i] = b
      obtain ⟨a0, a1, a2, a3⟩ := a
      obtain ⟨b0, b1, b2, b3⟩ := b
      rw [Bool.eq_iff_iff]
      by_cases h0 : a0 = b0 <;> by_cases h1 : a1 = b1 <;> by_cases h2 : a2 = b2 <;> by_cases h3 : a3 = b3 <;> simp [h0, h1, h2, h3]
    rw [List.drop_eq_getElem_cons hi, List.drop_eq_getElem_cons hi2]
    by_cases he : l[i] = m[i]
    · have e2 : decide (l[i] :: l.drop (i + 1) = m[i] :: m.drop (i + 1)) = decide (l.drop (i + 1) = m.drop (i + 1)) := by
        rw [decide_eq_decide, List.cons.injEq]; exact ⟨fun h => h.2, fun h => ⟨he, h⟩⟩
      rw [e2]
      refine Ev.step (fun k => ?_) (ev_eqL l m hl hm d (i + 1) (by omega))
      simp only [impl_Rect_101.l0]
      rw [if_pos (by omega), if_pos (by omega), if_pos (by omega), if_pos (by omega), rdR l i hi, rdR m i hi2, hc, decide_eq_true he, if_neg (by decide), wrap_up i (by omega)]
    · have e2 : decide (l[i] :: l.drop (i + 1) = m[i] :: m.drop (i + 1)) = false := by
        rw [decide_eq_false_iff_not, List.cons.injEq]; exact fun h => he h.1
      rw [e2]
      refine Ev.step (f := fun _ => some false) (fun k => ?_) (Ev.now false)
      simp only [impl_Rect_101.l0]
      rw [if_pos (by omega), if_pos (by omega), if_pos (by omega), if_pos (by omega), rdR l i hi, rdR m i hi2, hc, decide_eq_false he, if_pos (by decide)]
theorem eqR_f (l m : List Rc) (hl : l.length ≤ 2000000) : ∃ k, impl_Rect_101.f k l m = some (decide (l = m)) := by
  by_cases hm : l.length = m.length
  · refine Ev.rounds (Ev.congr (fun k => ?_) (ev_eqL l m hl hm l.length 0 (by omega)))
    unfold impl_Rect_101.f
    rw [if_pos (by omega)]
    rfl
  · refine ⟨0, ?_⟩
    unfold impl_Rect_101.f
    rw [if_neg (by omega), decide_eq_false (fun h => hm (by rw [h]))]
theorem isReg_eq (l : List Rc) : isReg l = (vals l && decide (canon (cov l) = l)) := rfl
set_option maxRecDepth 100000 in
set_option maxHeartbeats 400000 in
theorem isRegion_calls (A0 : Option Addr) (c0 : Nat) (l0 : List Rc) (w : World) (hr0 : Kd.C k75 w A0 l0.length l0) (hc0 : l0.length ≤ c0) (hle : l0.length ≤ 2000000) :
    Calls Try.prog 59 #[.slice A0 l0.length c0] w fun e w' => e = .returned (.bool (isReg l0)) ∧ Below w.heap.size w w' := by
  have HR := Lib.hid hr0
  have HC := Lib.hid hc0
  have HL := Lib.hid hle
  clear hr0 hc0
  have B := Lib.hid (Below.refl w.heap.size w)
  obtain ⟨k1, hk1⟩ := valid_f l0 hle
  cases hv : vals l0 with
  | false =>
    have HV := Lib.hid (hk1.trans (congrArg some hv))
    have HE := Lib.hid (show isReg l0 = false by rw [isReg_eq, hv]; rfl)
    clear hk1 hv hle
    go_enter Try.func59, Try.ntmps59
    go_wp2_with (go_at_call 100; (with_reducible refine (impl_validRects.calls k1 A0 c0 l0 _ _ HR.out HC.out HV.out).mono ?_); rintro e w1 ⟨rfl, hb⟩; replace B := Lib.hid (B.out.trans (hb.mono B.out.size)); clear hb)
    go_ret
    exact ⟨by rw [HE.out]; rfl, B.out⟩
  | true =>
    have HV := Lib.hid (hk1.trans (congrArg some hv))
    have HE := Lib.hid (show isReg l0 = decide (canon (cov l0) = l0) by rw [isReg_eq, hv]; rfl)
    obtain ⟨k2, hk2⟩ := eqR_f (canon (cov l0)) l0 (by have := canon_len (cov l0); omega)
    have HQ := Lib.hid hk2
    replace HL := Lib.hid (show l0.length ≤ 3200 by have := hv; unfold vals at this; rw [Bool.and_eq_true, decide_eq_true_eq] at this; exact this.1)
    clear hk1 hk2 hv hle
    go_enter Try.func59, Try.ntmps59
    go_wp2_with (first
      | (go_at_call 100; (with_reducible refine (impl_validRects.calls k1 A0 c0 l0 _ _ HR.out HC.out HV.out).mono ?_); rintro e w1 ⟨rfl, hb⟩; replace B := Lib.hid (B.out.trans (hb.mono B.out.size)); clear hb)
      | (go_at_call 76; (with_reducible refine (cellsOf_calls A0 c0 l0 _ (Kd.C_below HR.out B.out) (by have := HL.out; omega)).mono ?_); rintro e w2 ⟨gb, rfl, hge, hb, hg⟩; have G := Lib.hid hg; replace B := Lib.hid (B.out.trans (hb.mono B.out.size)); clear hge hb hg)
      | (go_at_call 68; (with_reducible refine (region_calls gb (cov l0) _ G.out).mono ?_); rintro e w3 ⟨v, rfl, hR, hb⟩; obtain ⟨Av, cv, ev⟩ := Kd.R_slice hR; subst ev; have RD := Lib.hid (Kd.R_reads' hR); replace B := Lib.hid (B.out.trans (hb.mono B.out.size)); clear hR hb)
      | (go_at_call 101; (with_reducible refine (impl_Rect_101.calls k2 Av cv (canon (cov l0)) A0 c0 l0 _ _ RD.out.2.2 RD.out.2.1 (Kd.C_below HR.out B.out) HC.out HQ.out).mono ?_); rintro e w4 ⟨rfl, hb⟩; replace B := Lib.hid (B.out.trans (hb.below.mono B.out.size)); clear hb))
    go_ret
    exact ⟨by rw [HE.out]; rfl, B.out⟩
end Go.Proofs.Ytncjjplpenjghaa.H
namespace Go.Proofs.Ytncjjplpenjghaa.P
open Go.RowKit Go.Proofs.Ytncjjplpenjghaa.H Go.Proofs.YtncjjplpenjghaaW.PrintWords Go.Proofs.YtncjjplpenjghaaW.PrintLast
def impl_IsRegion.f (l0 : List S75) : Option Bool := if l0.length ≤ 2000000 then some (G.isReg l0) else none
theorem impl_IsRegion.calls (A0 : Option Addr) (c0 : Nat) (l0 : List S75) (r : Bool) (w : World) (hr0 : Kd.C k75 w A0 l0.length l0) (hc0 : l0.length ≤ c0) (h : impl_IsRegion.f l0 = some r) :
    Calls Try.prog 59 #[.slice A0 l0.length c0] w fun e w' => e = .returned (.bool r) ∧ Below w.heap.size w w' := by
  unfold impl_IsRegion.f at h
  split at h
  · rename_i hb
    have hr := Option.some.inj h
    subst hr
    exact isRegion_calls A0 c0 l0 w hr0 hc0 hb
  · cases h
end Go.Proofs.Ytncjjplpenjghaa.P

/-! ### RowAt -/
/- Reading a row of a slice of slices. -/
set_option linter.unusedVariables false
set_option linter.unusedSimpArgs false
namespace Go.Proofs.Ytncjjplpenjghaa.H
open Go Go.RowKit Go.Proofs.YtncjjplpenjghaaW.PrintWords Go.Proofs.YtncjjplpenjghaaW.PrintLast
theorem rowAt {α : Type} {d : Kd α} {e : Nat} {w : World} {A : Option Addr} {l : List (List α)} (h : Kd.C (Kd.slice e d) w A l.length l) (i : Nat) (hi : i < l.length) :
    ∃ ad A0 c0, A = some ad ∧ w.cell? (ad.add i) = some (.slice A0 (l[i]).length c0) ∧ (l[i]).length ≤ c0 ∧ d.C w A0 (l[i]).length l[i] := by
  obtain ⟨ad, c, ea, hl, hK, hc⟩ := Kd.C_get h ([] : List α) (i : Int) (by omega) (by omega)
  have e2 : l.getD (i : Int).toNat [] = l[i] := by rw [Int.toNat_natCast, List.getD_eq_getElem?_getD, List.getElem?_eq_getElem hi]; rfl
  rw [e2] at hK
  obtain ⟨A0, c0, rfl, h1, h2⟩ := hK
  refine ⟨ad, A0, c0, ea, ?_, h1, h2⟩
  have := hc 0 _ rfl
  rw [Int.toNat_natCast] at this
  simpa [Kd.slice] using this
end Go.Proofs.Ytncjjplpenjghaa.H

/-! ### IsLay -/
/- IsLayout: walked by hand, with slices.ContainsFunc and the closure. -/
set_option linter.unusedVariables false
set_option linter.unusedSimpArgs false
namespace Go.Proofs.Ytncjjplpenjghaa.H
open Go Go.RowKit Go.Proofs.Ytncjjplpenjghaa.P Go.Proofs.YtncjjplpenjghaaW.PrintWords Go.Proofs.YtncjjplpenjghaaW.PrintLast Go.Proofs.Ytncjjplpenjghaa.G
theorem lay1_calls (A0 : Option Addr) (c0 : Nat) (l0 : List Rc) (w : World) (hr0 : Kd.C k75 w A0 l0.length l0) (hc0 : l0.length ≤ c0) (hle : l0.length ≤ 2000000) :
    Calls Try.prog 58 #[.slice A0 l0.length c0] w fun e w' => e = .returned (.bool (!isReg l0)) ∧ Below w.heap.size w w' := by
  go_enter Try.func58, Try.ntmps58
  go_wp2_with (go_at_call 59; (with_reducible refine (isRegion_calls A0 c0 l0 _ hr0 hc0 hle).mono ?_); rintro e w1 ⟨rfl, hb⟩)
  go_ret
  exact ⟨rfl, hb⟩
/-- Where the first region that is none stands. -/
def layIdx (l : List (List Rc)) : Int := match l.findIdx? (fun x => !isReg x) with | some i => (i : Int) | none => -1
theorem layIdx_no {l : List (List Rc)} (h : ∀ x ∈ l, isReg x = true) : layIdx l = -1 := by
  have : l.findIdx? (fun x => !isReg x) = none := by
    rw [List.findIdx?_eq_none_iff]
    intro x hx
    simp [h x hx]
  unfold layIdx
  rw [this]
def IL (l : List (List Rc)) (w : World) (v : Value) (w' : World) : Prop := ∃ i : Nat, i ≤ l.length ∧ v = .int .i64 i ∧ (∀ x ∈ l.take i, isReg x = true) ∧ Below w.heap.size w w'
set_option maxRecDepth 100000 in
set_option maxHeartbeats 400000 in
theorem layC_calls (A : Option Addr) (c : Nat) (l : List (List Rc)) (w : World) (hl : Kd.C (Kd.slice 75 k75) w A l.length l) (hs : l.length ≤ 2000000) (hs2 : ∀ x ∈ l, x.length ≤ 2000000) :
    Calls Try.prog 99 #[.slice A l.length c, .func (.func 58) #[] #[]] w fun e w' => (∃ i : Int, e = .returned (.int .i64 i) ∧ decide (i ≥ 0) = !(l.all isReg)) ∧ Below w.heap.size w w' := by
  have HL := Lib.hid hl
  have HS := Lib.hid hs2
  clear hl hs2
  go_enter Try.func99, Try.ntmps99
  go_wp2_with fail
  go_loopw [8] (fun v w' => IL l w v w') (fun v _ => l.length - (intOf v).toNat)
  case atStart => exact ⟨0, Nat.zero_le _, rfl, by simp, Below.refl _ _⟩
  case round =>
    obtain ⟨i, hi, rfl, ha, hB⟩ := hrel
    have HA := Lib.hid ha
    have B := Lib.hid hB
    clear ha hB
    by_cases hlt : i < l.length
    · obtain ⟨ad, A0, c0, rfl, x1, le1, r1⟩ := rowAt (Kd.C_below HL.out B.out) i hlt
      have hsi := HS.out _ (List.getElem_mem hlt)
      have hmem := List.getElem_mem hlt
      have htk := List.take_succ_eq_append_getElem hlt
      have HTK := Lib.hid htk
      have HM := Lib.hid hmem
      generalize l[i] = u at *
      have R1 := Lib.hid r1
      have LE := Lib.hid le1
      clear htk hmem r1 le1
      cases hu : isReg u with
      | true =>
        have HU := Lib.hid (show (!isReg u) = false by rw [hu]; rfl)
        have HN := Lib.hid (show ∀ x ∈ l.take (i + 1), isReg x = true by
          rw [HTK.out]
          intro x hx
          rcases List.mem_append.1 hx with h | h
          · exact HA.out x h
          · rw [List.mem_singleton.1 h]; exact hu)
        clear hu
        go_wp2_with (go_at_call 58; (with_reducible refine (lay1_calls A0 c0 u _ R1.out LE.out hsi).mono ?_); rintro e w1 ⟨rfl, hb⟩; rw [HU.out])
        exact ⟨⟨i + 1, by omega, by go_num, HN.out, B.out.trans (hb.mono B.out.size)⟩, by simp [intOf]; omega⟩
      | false =>
        have HU := Lib.hid (show (!isReg u) = true by rw [hu]; rfl)
        have HN := Lib.hid (show l.all isReg = false by rw [List.all_eq_false]; exact ⟨u, HM.out, by simp [hu]⟩)
        clear hu
        go_wp2_with (go_at_call 58; (with_reducible refine (lay1_calls A0 c0 u _ R1.out LE.out hsi).mono ?_); rintro e w1 ⟨rfl, hb⟩; rw [HU.out])
        go_ret
        exact ⟨⟨(i : Int), rfl, by rw [HN.out]; simp⟩, B.out.trans (hb.mono B.out.size)⟩
    · have hE := Lib.hid (show l.all isReg = true by
        rw [List.all_eq_true]
        have := HA.out
        rwa [List.take_of_length_le (by omega)] at this)
      go_wp2_with fail
      go_ret
      exact ⟨⟨-1, rfl, by rw [hE.out]; rfl⟩, B.out⟩
theorem layF_calls (A : Option Addr) (c : Nat) (l : List (List Rc)) (w : World) (hl : Kd.C (Kd.slice 75 k75) w A l.length l) (hs : l.length ≤ 2000000) (hs2 : ∀ x ∈ l, x.length ≤ 2000000) :
    Calls Try.prog 57 #[.slice A l.length c, .func (.func 58) #[] #[]] w fun e w' => e = .returned (.bool (!(l.all isReg))) ∧ Below w.heap.size w w' := by
  go_enter Try.func57, Try.ntmps57
  go_wp2_with (go_at_call 99; (with_reducible refine (layC_calls A c l _ hl hs hs2).mono ?_); rintro e w1 ⟨⟨i, rfl, hi⟩, hb⟩; have HI := Lib.hid hi; clear hi)
  go_ret
  exact ⟨congrArg (fun b => Ending.returned (Value.bool b)) HI.out, hb⟩
def isLay (l : List (List Rc)) : Bool := decide (l.length = 8) && l.all isReg
theorem isLayout_calls (A : Option Addr) (c : Nat) (l : List (List Rc)) (w : World) (hl : Kd.C (Kd.slice 75 k75) w A l.length l) (hs2 : ∀ x ∈ l, x.length ≤ 2000000) :
    Calls Try.prog 18 #[.slice A l.length c] w fun e w' => e = .returned (.bool (isLay l)) ∧ Below w.heap.size w w' := by
  have HL := Lib.hid hl
  have HS := Lib.hid hs2
  clear hl hs2
  by_cases h8 : l.length = 8
  · have HE := Lib.hid (show isLay l = l.all isReg by unfold isLay; rw [decide_eq_true h8, Bool.true_and])
    have h8i : ((l.length : Int) == 8) = true := by rw [beq_iff_eq]; omega
    have H8 := Lib.hid h8
    clear h8
    go_enter Try.func18, Try.ntmps18
    go_wp2_with (go_at_call 57; (with_reducible refine (layF_calls A c l _ HL.out (by have := H8.out; omega) HS.out).mono ?_); rintro e w1 ⟨rfl, hb⟩)
    go_ret
    exact ⟨by rw [HE.out]; simp, hb⟩
  · have HE := Lib.hid (show isLay l = false by unfold isLay; rw [decide_eq_false h8, Bool.false_and])
    have h8i : ((l.length : Int) == 8) = false := by rw [beq_eq_false_iff_ne]; omega
    go_enter Try.func18, Try.ntmps18
    go_wp2_with fail
    go_ret
    exact ⟨by rw [HE.out]; rfl, Below.refl _ _⟩
end Go.Proofs.Ytncjjplpenjghaa.H
namespace Go.Proofs.Ytncjjplpenjghaa.P
open Go.RowKit Go.Proofs.Ytncjjplpenjghaa.H Go.Proofs.YtncjjplpenjghaaW.PrintWords Go.Proofs.YtncjjplpenjghaaW.PrintLast
def impl_IsLayout.f (l0 : List (List S75)) : Option Bool := if (l0.all fun x => decide (x.length ≤ 2000000)) = true then some (isLay l0) else none
theorem impl_IsLayout.calls (A0 : Option Addr) (c0 : Nat) (l0 : List (List S75)) (r : Bool) (w : World) (hr0 : Kd.C (Kd.slice 75 k75) w A0 l0.length l0) (hc0 : l0.length ≤ c0) (h : impl_IsLayout.f l0 = some r) :
    Calls Try.prog 18 #[.slice A0 l0.length c0] w fun e w' => e = .returned (.bool r) ∧ Below w.heap.size w w' := by
  unfold impl_IsLayout.f at h
  split at h
  · rename_i hb
    have hr := Option.some.inj h
    subst hr
    exact isLayout_calls A0 c0 l0 w hr0 (fun x hx => of_decide_eq_true (List.all_eq_true.1 hb x hx))
  · cases h
end Go.Proofs.Ytncjjplpenjghaa.P

/-! ### Px27 -/
namespace Go.Proofs.Ytncjjplpenjghaa.P
open Go.RowKit Go.Proofs.YtncjjplpenjghaaW.PrintWords Go.Proofs.YtncjjplpenjghaaW.PrintLast Go.Proofs.YtncjjplpenjghaaW.PrintMore
attribute [local go_sem] max2_int min2_int max_two min_two max_three min_three max_four min_four   -- for this text's walks alone
set_option linter.unusedVariables false
set_option linter.unusedSimpArgs false

/-! ### laws_FnExactIsLayout: function 3 -/
def laws_FnExactIsLayout.f (k : Nat) (l0 : List (List (S81))) : Option (Bool) := (laws_szRectSS.f k l0 1048576).bind fun t188 => (if t188 < 0 then (some true) else ((laws_toRectSS.f k l0).bind fun t189 => ((spec_IsLayout.f k t189).bind fun t192 => ((laws_toRectSS.f k l0).bind fun t193 => ((impl_IsLayout.f t193).bind fun t196 => (if (t196 != t192) = true then (some false) else ((laws_toRectSS.f k l0).bind fun t197 => ((laws_eqRectSS.f k t193 t197).bind fun t200 => (if t200 = true then (some true) else (some false))))))))))
theorem laws_FnExactIsLayout.mono : ∀ a0 k, LeO (laws_FnExactIsLayout.f k a0) (laws_FnExactIsLayout.f (k + 1) a0) := by
  intro a0 k
  unfold laws_FnExactIsLayout.f
  repeat' first
      | (with_reducible exact laws_eqRectSS.mono _ _ _)
      | (with_reducible exact laws_szRectSS.mono _ _ _)
      | (with_reducible exact laws_toRectSS.mono _ _)
      | (with_reducible exact spec_IsLayout.mono _ _)
      | (with_reducible exact LeO.refl _)
      | (with_reducible exact LeO.none _)
      | (with_reducible refine LeO.ite ?_ ?_)
      | (with_reducible refine LeO.bind ?_ (fun _ => ?_))
      | exact laws_eqRectSS.mono _ _ _
      | exact laws_szRectSS.mono _ _ _
      | exact laws_toRectSS.mono _ _
      | exact spec_IsLayout.mono _ _
      | exact LeO.none _
      | refine LeO.ite ?_ ?_
      | refine LeO.bind ?_ (fun _ => ?_)
set_option maxHeartbeats 8000000 in
set_option maxRecDepth 100000 in
theorem laws_FnExactIsLayout.calls (k : Nat) (A0 : Option Addr) (c0 : Nat) (l0 : List (List (S81))) (r : Bool) (w : World) (hr0 : Kd.C (Kd.slice 81 k81) w A0 l0.length l0) (hc0 : l0.length ≤ c0) (h : laws_FnExactIsLayout.f k l0 = some r) :
    Calls Try.prog 3 #[.slice A0 l0.length c0] w fun e w' => e = .returned (.bool r) ∧ Below w.heap.size w w' := by
  have HR0 := Aside0.mk hr0
  have HC0 := Aside0.mk hc0
  clear hr0 hc0
  have HB := Aside0.mk (Below.refl w.heap.size w)
  have H : ((laws_szRectSS.f k l0 1048576).bind fun t188 => (if t188 < 0 then (some true) else ((laws_toRectSS.f k l0).bind fun t189 => ((spec_IsLayout.f k t189).bind fun t192 => ((laws_toRectSS.f k l0).bind fun t193 => ((impl_IsLayout.f t193).bind fun t196 => (if (t196 != t192) = true then (some false) else ((laws_toRectSS.f k l0).bind fun t197 => ((laws_eqRectSS.f k t193 t197).bind fun t200 => (if t200 = true then (some true) else (some false))))))))))) = some r := h
  clear h
  replace H := Option.bind_eq_some_iff.mp H
  obtain ⟨t188, A20, H⟩ := H
  replace H : (if t188 < 0 then (some true) else ((laws_toRectSS.f k l0).bind fun t189 => ((spec_IsLayout.f k t189).bind fun t192 => ((laws_toRectSS.f k l0).bind fun t193 => ((impl_IsLayout.f t193).bind fun t196 => (if (t196 != t192) = true then (some false) else ((laws_toRectSS.f k l0).bind fun t197 => ((laws_eqRectSS.f k t193 t197).bind fun t200 => (if t200 = true then (some true) else (some false)))))))))) = some r := H
  have A2 := Aside0.mk A20
  clear A20
  by_cases c3 : t188 < 0
  · rw [if_pos c3] at H
    have c3b0 : decide (t188 < 0) = true := decide_eq_true c3
    clear c3
    obtain rfl := Option.some.inj H
    go_enter Try.func3, Try.ntmps3
    go_wp2_with (first | ((with_reducible refine gate_callee (f := 15) rfl ?_); refine goesL_ (some 9) rfl rfl Try.func15 (by kernel_rfl) rfl #[.slice A0 l0.length c0, .int .i64 1048576] rfl (by (try simp only [List.map_toArray, List.map_cons, List.map_nil]); first | done | rfl | (simp only [List.length_drop, List.length_take]; rfl)) ?_; (with_reducible refine (laws_szRectSS.calls k _ _ l0 1048576 t188 _ ?side1 ?side2 A2.out).mono ?_); (case side1 => repeat (first | exact HR0.out | (with_reducible refine Kd.C_alloc ?_ _) | (with_reducible refine Kd.C_drewN ?_ _) | (with_reducible refine Kd.C_drew ?_))); (case side2 => exact HC0.out); rintro e w' ⟨rfl, ⟨nd, rfl⟩⟩; refine ⟨_, rfl, ?_⟩))
    go_ret
    exact ⟨by first | rfl | (simp [errW_none, errW_some] <;> rfl) | (simp [*, errW_none, errW_some] <;> rfl), by repeat (first | (with_reducible first | exact HB.out | apply below_alloc | apply pw_below_drewN | apply below_drew1) | exact HB.out)⟩
  · rw [if_neg c3] at H
    have c3b0 : decide (t188 < 0) = false := decide_eq_false c3
    clear c3
    replace H := Option.bind_eq_some_iff.mp H
    obtain ⟨t189, A40, H⟩ := H
    replace H : ((spec_IsLayout.f k t189).bind fun t192 => ((laws_toRectSS.f k l0).bind fun t193 => ((impl_IsLayout.f t193).bind fun t196 => (if (t196 != t192) = true then (some false) else ((laws_toRectSS.f k l0).bind fun t197 => ((laws_eqRectSS.f k t193 t197).bind fun t200 => (if t200 = true then (some true) else (some false)))))))) = some r := H
    have A4 := Aside0.mk A40
    clear A40
    replace H := Option.bind_eq_some_iff.mp H
    obtain ⟨t192, A50, H⟩ := H
    replace H : ((laws_toRectSS.f k l0).bind fun t193 => ((impl_IsLayout.f t193).bind fun t196 => (if (t196 != t192) = true then (some false) else ((laws_toRectSS.f k l0).bind fun t197 => ((laws_eqRectSS.f k t193 t197).bind fun t200 => (if t200 = true then (some true) else (some false))))))) = some r := H
    have A5 := Aside0.mk A50
    clear A50
    replace H := Option.bind_eq_some_iff.mp H
    obtain ⟨t193, A60, H⟩ := H
    replace H : ((impl_IsLayout.f t193).bind fun t196 => (if (t196 != t192) = true then (some false) else ((laws_toRectSS.f k l0).bind fun t197 => ((laws_eqRectSS.f k t193 t197).bind fun t200 => (if t200 = true then (some true) else (some false)))))) = some r := H
    have A6 := Aside0.mk A60
    clear A60
    replace H := Option.bind_eq_some_iff.mp H
    obtain ⟨t196, A70, H⟩ := H
    replace H : (if (t196 != t192) = true then (some false) else ((laws_toRectSS.f k l0).bind fun t197 => ((laws_eqRectSS.f k t193 t197).bind fun t200 => (if t200 = true then (some true) else (some false))))) = some r := H
    have A7 := Aside0.mk A70
    clear A70
    by_cases c8 : (t196 != t192) = true
    · rw [if_pos c8] at H
      have c8b0 : (t196 != t192) = true := c8
      (try (have c8b1 : decide (t196 = t192) = false := by simpa using c8))
      (try (have c8b2 : (t196 == t192) = false := by simpa using c8))
      (try (have c8b3 : ¬ (t196 = t192) := by simpa using c8))
      clear c8
      obtain rfl := Option.some.inj H
      go_enter Try.func3, Try.ntmps3
      go_wp2_with (first | ((with_reducible refine gate_callee (f := 15) rfl ?_); refine goesL_ (some 9) rfl rfl Try.func15 (by kernel_rfl) rfl #[.slice A0 l0.length c0, .int .i64 1048576] rfl (by (try simp only [List.map_toArray, List.map_cons, List.map_nil]); first | done | rfl | (simp only [List.length_drop, List.length_take]; rfl)) ?_; (with_reducible refine (laws_szRectSS.calls k _ _ l0 1048576 t188 _ ?side1 ?side2 A2.out).mono ?_); (case side1 => repeat (first | exact HR0.out | (with_reducible refine Kd.C_alloc ?_ _) | (with_reducible refine Kd.C_drewN ?_ _) | (with_reducible refine Kd.C_drew ?_))); (case side2 => exact HC0.out); rintro e w' ⟨rfl, ⟨nd, rfl⟩⟩; refine ⟨_, rfl, ?_⟩) | ((with_reducible refine gate_callee (f := 17) rfl ?_); refine goesL_ (some 13) rfl rfl Try.func17 (by kernel_rfl) rfl #[.slice A0 l0.length c0] rfl (by (try simp only [List.map_toArray, List.map_cons, List.map_nil]); first | done | rfl | (simp only [List.length_drop, List.length_take]; rfl)) ?_; (with_reducible refine (laws_toRectSS.calls k _ _ l0 t189 _ ?side1 ?side2 A4.out).mono ?_); (case side1 => repeat (first | exact HR0.out | (with_reducible refine Kd.C_alloc ?_ _) | (with_reducible refine Kd.C_drewN ?_ _) | (with_reducible refine Kd.C_drew ?_))); (case side2 => exact HC0.out); rintro e w9 ⟨v190, rfl, ho0, hb⟩; refine ⟨_, rfl, ?_⟩; have n0_ := Aside0.mk (Kd.S_lower ho0 (below_size (by repeat (first | (with_reducible first | exact HB.out | apply below_alloc | apply pw_below_drewN | apply below_drew1) | exact HB.out)))); have n1_ := Aside0.mk (below_step (by repeat (first | (with_reducible first | exact HB.out | apply below_alloc | apply pw_below_drewN | apply below_drew1) | exact HB.out)) hb); clear HB; have HO191 := n0_; have HB := n1_; clear n0_ n1_; (try clear hb); (try clear hb2); (try clear hk); (try clear hi); (try clear ho0); obtain ⟨Ao10, co10, eo10⟩ := Kd.S_slice HO191.out; subst eo10) | ((with_reducible refine gate_callee (f := 16) rfl ?_); refine goesL_ (some 14) rfl rfl Try.func16 (by kernel_rfl) rfl #[.slice Ao10 t189.length co10] rfl (by (try simp only [List.map_toArray, List.map_cons, List.map_nil]); first | done | rfl | (simp only [List.length_drop, List.length_take]; rfl)) ?_; (with_reducible refine (spec_IsLayout.calls k _ _ t189 t192 _ ?side1 ?side2 A5.out).mono ?_); (case side1 => repeat (first | exact (Kd.S_reads' HO191.out).2.2 | (with_reducible refine Kd.C_alloc ?_ _) | (with_reducible refine Kd.C_drewN ?_ _) | (with_reducible refine Kd.C_drew ?_))); (case side2 => exact (Kd.S_reads' HO191.out).2.1); rintro e w11 ⟨rfl, hb⟩; refine ⟨_, rfl, ?_⟩; have n0_ := Aside0.mk (Kd.S_below (by (with_reducible repeat (first | apply Kd.S_alloc | apply Kd.S_drewN | apply Kd.S_drew)); exact HO191.out) hb); have n1_ := Aside0.mk (below_step (by repeat (first | (with_reducible first | exact HB.out | apply below_alloc | apply pw_below_drewN | apply below_drew1) | exact HB.out)) hb); clear HO191; clear HB; have HO191 := n0_; have HB := n1_; clear n0_ n1_; (try clear hb); (try clear hb2); (try clear hk); (try clear hi)) | ((with_reducible refine gate_callee (f := 17) rfl ?_); refine goesL_ (some 16) rfl rfl Try.func17 (by kernel_rfl) rfl #[.slice A0 l0.length c0] rfl (by (try simp only [List.map_toArray, List.map_cons, List.map_nil]); first | done | rfl | (simp only [List.length_drop, List.length_take]; rfl)) ?_; (with_reducible refine (laws_toRectSS.calls k _ _ l0 t193 _ ?side1 ?side2 A6.out).mono ?_); (case side1 => repeat (first | exact (Kd.C_below HR0.out HB.out) | (with_reducible refine Kd.C_alloc ?_ _) | (with_reducible refine Kd.C_drewN ?_ _) | (with_reducible refine Kd.C_drew ?_))); (case side2 => exact HC0.out); rintro e w12 ⟨v194, rfl, ho0, hb⟩; refine ⟨_, rfl, ?_⟩; have n0_ := Aside0.mk (Kd.S_elder' (by (with_reducible repeat (first | apply Kd.S_alloc | apply Kd.S_drewN | apply Kd.S_drew)); exact HO191.out) (Kd.S_base ho0) hb); have n1_ := Aside0.mk (Kd.S_lower (Kd.S_new' ho0 (Kd.S_lt (by (with_reducible repeat (first | apply Kd.S_alloc | apply Kd.S_drewN | apply Kd.S_drew)); exact HO191.out))) (below_size (by repeat (first | (with_reducible first | exact HB.out | apply below_alloc | apply pw_below_drewN | apply below_drew1) | exact HB.out)))); have n2_ := Aside0.mk (below_step (by repeat (first | (with_reducible first | exact HB.out | apply below_alloc | apply pw_below_drewN | apply below_drew1) | exact HB.out)) hb); clear HO191; clear HB; have HO191 := n0_; have HO195 := n1_; have HB := n2_; clear n0_ n1_ n2_; (try clear hb); (try clear hb2); (try clear hk); (try clear hi); (try clear ho0); obtain ⟨Ao13, co13, eo13⟩ := Kd.S_slice HO195.out; subst eo13) | ((with_reducible refine gate_callee (f := 18) rfl ?_); refine goesL_ (some 18) rfl rfl Try.func18 (by kernel_rfl) rfl #[.slice Ao13 t193.length co13] rfl (by (try simp only [List.map_toArray, List.map_cons, List.map_nil]); first | done | rfl | (simp only [List.length_drop, List.length_take]; rfl)) ?_; (with_reducible refine (impl_IsLayout.calls _ _ t193 t196 _ ?side1 ?side2 A7.out).mono ?_); (case side1 => repeat (first | exact (Kd.S_reads' HO195.out).2.2 | (with_reducible refine Kd.C_alloc ?_ _) | (with_reducible refine Kd.C_drewN ?_ _) | (with_reducible refine Kd.C_drew ?_))); (case side2 => exact (Kd.S_reads' HO195.out).2.1); rintro e w14 ⟨rfl, hb⟩; refine ⟨_, rfl, ?_⟩; have n0_ := Aside0.mk (Kd.S_below (by (with_reducible repeat (first | apply Kd.S_alloc | apply Kd.S_drewN | apply Kd.S_drew)); exact HO191.out) hb); have n1_ := Aside0.mk (Kd.S_below (by (with_reducible repeat (first | apply Kd.S_alloc | apply Kd.S_drewN | apply Kd.S_drew)); exact HO195.out) hb); have n2_ := Aside0.mk (below_step (by repeat (first | (with_reducible first | exact HB.out | apply below_alloc | apply pw_below_drewN | apply below_drew1) | exact HB.out)) hb); clear HO191; clear HO195; clear HB; have HO191 := n0_; have HO195 := n1_; have HB := n2_; clear n0_ n1_ n2_; (try clear hb); (try clear hb2); (try clear hk); (try clear hi)))
      go_ret
      exact ⟨by first | rfl | (simp [errW_none, errW_some] <;> rfl) | (simp [*, errW_none, errW_some] <;> rfl), by repeat (first | (with_reducible first | exact HB.out | apply below_alloc | apply pw_below_drewN | apply below_drew1) | exact HB.out)⟩
    · rw [if_neg c8] at H
      have c8b0 : (t196 != t192) = false := by simpa using c8
      (try (have c8b1 : decide (t196 = t192) = true := by simpa using c8))
      (try (have c8b2 : (t196 == t192) = true := by simpa using c8))
      clear c8
      replace H := Option.bind_eq_some_iff.mp H
      obtain ⟨t197, A150, H⟩ := H
      replace H : ((laws_eqRectSS.f k t193 t197).bind fun t200 => (if t200 = true then (some true) else (some false))) = some r := H
      have A15 := Aside0.mk A150
      clear A150
      replace H := Option.bind_eq_some_iff.mp H
      obtain ⟨t200, A160, H⟩ := H
      replace H : (if t200 = true then (some true) else (some false)) = some r := H
      have A16 := Aside0.mk A160
      clear A160
      by_cases c17 : t200 = true
      · subst c17
        have H1 : (some true) = some r := by rw [if_pos rfl] at H; exact H
        clear H
        have H := H1
        clear H1
        obtain rfl := Option.some.inj H
        go_enter Try.func3, Try.ntmps3
        go_wp2_with (first | ((with_reducible refine gate_callee (f := 15) rfl ?_); refine goesL_ (some 9) rfl rfl Try.func15 (by kernel_rfl) rfl #[.slice A0 l0.length c0, .int .i64 1048576] rfl (by (try simp only [List.map_toArray, List.map_cons, List.map_nil]); first | done | rfl | (simp only [List.length_drop, List.length_take]; rfl)) ?_; (with_reducible refine (laws_szRectSS.calls k _ _ l0 1048576 t188 _ ?side1 ?side2 A2.out).mono ?_); (case side1 => repeat (first | exact HR0.out | (with_reducible refine Kd.C_alloc ?_ _) | (with_reducible refine Kd.C_drewN ?_ _) | (with_reducible refine Kd.C_drew ?_))); (case side2 => exact HC0.out); rintro e w' ⟨rfl, ⟨nd, rfl⟩⟩; refine ⟨_, rfl, ?_⟩) | ((with_reducible refine gate_callee (f := 17) rfl ?_); refine goesL_ (some 13) rfl rfl Try.func17 (by kernel_rfl) rfl #[.slice A0 l0.length c0] rfl (by (try simp only [List.map_toArray, List.map_cons, List.map_nil]); first | done | rfl | (simp only [List.length_drop, List.length_take]; rfl)) ?_; (with_reducible refine (laws_toRectSS.calls k _ _ l0 t189 _ ?side1 ?side2 A4.out).mono ?_); (case side1 => repeat (first | exact HR0.out | (with_reducible refine Kd.C_alloc ?_ _) | (with_reducible refine Kd.C_drewN ?_ _) | (with_reducible refine Kd.C_drew ?_))); (case side2 => exact HC0.out); rintro e w18 ⟨v190, rfl, ho0, hb⟩; refine ⟨_, rfl, ?_⟩; have n0_ := Aside0.mk (Kd.S_lower ho0 (below_size (by repeat (first | (with_reducible first | exact HB.out | apply below_alloc | apply pw_below_drewN | apply below_drew1) | exact HB.out)))); have n1_ := Aside0.mk (below_step (by repeat (first | (with_reducible first | exact HB.out | apply below_alloc | apply pw_below_drewN | apply below_drew1) | exact HB.out)) hb); clear HB; have HO191 := n0_; have HB := n1_; clear n0_ n1_; (try clear hb); (try clear hb2); (try clear hk); (try clear hi); (try clear ho0); obtain ⟨Ao19, co19, eo19⟩ := Kd.S_slice HO191.out; subst eo19) | ((with_reducible refine gate_callee (f := 16) rfl ?_); refine goesL_ (some 14) rfl rfl Try.func16 (by kernel_rfl) rfl #[.slice Ao19 t189.length co19] rfl (by (try simp only [List.map_toArray, List.map_cons, List.map_nil]); first | done | rfl | (simp only [List.length_drop, List.length_take]; rfl)) ?_; (with_reducible refine (spec_IsLayout.calls k _ _ t189 t192 _ ?side1 ?side2 A5.out).mono ?_); (case side1 => repeat (first | exact (Kd.S_reads' HO191.out).2.2 | (with_reducible refine Kd.C_alloc ?_ _) | (with_reducible refine Kd.C_drewN ?_ _) | (with_reducible refine Kd.C_drew ?_))); (case side2 => exact (Kd.S_reads' HO191.out).2.1); rintro e w20 ⟨rfl, hb⟩; refine ⟨_, rfl, ?_⟩; have n0_ := Aside0.mk (Kd.S_below (by (with_reducible repeat (first | apply Kd.S_alloc | apply Kd.S_drewN | apply Kd.S_drew)); exact HO191.out) hb); have n1_ := Aside0.mk (below_step (by repeat (first | (with_reducible first | exact HB.out | apply below_alloc | apply pw_below_drewN | apply below_drew1) | exact HB.out)) hb); clear HO191; clear HB; have HO191 := n0_; have HB := n1_; clear n0_ n1_; (try clear hb); (try clear hb2); (try clear hk); (try clear hi)) | ((with_reducible refine gate_callee (f := 17) rfl ?_); refine goesL_ (some 16) rfl rfl Try.func17 (by kernel_rfl) rfl #[.slice A0 l0.length c0] rfl (by (try simp only [List.map_toArray, List.map_cons, List.map_nil]); first | done | rfl | (simp only [List.length_drop, List.length_take]; rfl)) ?_; (with_reducible refine (laws_toRectSS.calls k _ _ l0 t193 _ ?side1 ?side2 A6.out).mono ?_); (case side1 => repeat (first | exact (Kd.C_below HR0.out HB.out) | (with_reducible refine Kd.C_alloc ?_ _) | (with_reducible refine Kd.C_drewN ?_ _) | (with_reducible refine Kd.C_drew ?_))); (case side2 => exact HC0.out); rintro e w21 ⟨v194, rfl, ho0, hb⟩; refine ⟨_, rfl, ?_⟩; have n0_ := Aside0.mk (Kd.S_elder' (by (with_reducible repeat (first | apply Kd.S_alloc | apply Kd.S_drewN | apply Kd.S_drew)); exact HO191.out) (Kd.S_base ho0) hb); have n1_ := Aside0.mk (Kd.S_lower (Kd.S_new' ho0 (Kd.S_lt (by (with_reducible repeat (first | apply Kd.S_alloc | apply Kd.S_drewN | apply Kd.S_drew)); exact HO191.out))) (below_size (by repeat (first | (with_reducible first | exact HB.out | apply below_alloc | apply pw_below_drewN | apply below_drew1) | exact HB.out)))); have n2_ := Aside0.mk (below_step (by repeat (first | (with_reducible first | exact HB.out | apply below_alloc | apply pw_below_drewN | apply below_drew1) | exact HB.out)) hb); clear HO191; clear HB; have HO191 := n0_; have HO195 := n1_; have HB := n2_; clear n0_ n1_ n2_; (try clear hb); (try clear hb2); (try clear hk); (try clear hi); (try clear ho0); obtain ⟨Ao22, co22, eo22⟩ := Kd.S_slice HO195.out; subst eo22) | ((with_reducible refine gate_callee (f := 18) rfl ?_); refine goesL_ (some 18) rfl rfl Try.func18 (by kernel_rfl) rfl #[.slice Ao22 t193.length co22] rfl (by (try simp only [List.map_toArray, List.map_cons, List.map_nil]); first | done | rfl | (simp only [List.length_drop, List.length_take]; rfl)) ?_; (with_reducible refine (impl_IsLayout.calls _ _ t193 t196 _ ?side1 ?side2 A7.out).mono ?_); (case side1 => repeat (first | exact (Kd.S_reads' HO195.out).2.2 | (with_reducible refine Kd.C_alloc ?_ _) | (with_reducible refine Kd.C_drewN ?_ _) | (with_reducible refine Kd.C_drew ?_))); (case side2 => exact (Kd.S_reads' HO195.out).2.1); rintro e w23 ⟨rfl, hb⟩; refine ⟨_, rfl, ?_⟩; have n0_ := Aside0.mk (Kd.S_below (by (with_reducible repeat (first | apply Kd.S_alloc | apply Kd.S_drewN | apply Kd.S_drew)); exact HO191.out) hb); have n1_ := Aside0.mk (Kd.S_below (by (with_reducible repeat (first | apply Kd.S_alloc | apply Kd.S_drewN | apply Kd.S_drew)); exact HO195.out) hb); have n2_ := Aside0.mk (below_step (by repeat (first | (with_reducible first | exact HB.out | apply below_alloc | apply pw_below_drewN | apply below_drew1) | exact HB.out)) hb); clear HO191; clear HO195; clear HB; have HO191 := n0_; have HO195 := n1_; have HB := n2_; clear n0_ n1_ n2_; (try clear hb); (try clear hb2); (try clear hk); (try clear hi)) | ((with_reducible refine gate_callee (f := 17) rfl ?_); refine goesL_ (some 24) rfl rfl Try.func17 (by kernel_rfl) rfl #[.slice A0 l0.length c0] rfl (by (try simp only [List.map_toArray, List.map_cons, List.map_nil]); first | done | rfl | (simp only [List.length_drop, List.length_take]; rfl)) ?_; (with_reducible refine (laws_toRectSS.calls k _ _ l0 t197 _ ?side1 ?side2 A15.out).mono ?_); (case side1 => repeat (first | exact (Kd.C_below HR0.out HB.out) | (with_reducible refine Kd.C_alloc ?_ _) | (with_reducible refine Kd.C_drewN ?_ _) | (with_reducible refine Kd.C_drew ?_))); (case side2 => exact HC0.out); rintro e w24 ⟨v198, rfl, ho0, hb⟩; refine ⟨_, rfl, ?_⟩; have n0_ := Aside0.mk (Kd.S_elder' (by (with_reducible repeat (first | apply Kd.S_alloc | apply Kd.S_drewN | apply Kd.S_drew)); exact HO191.out) (Kd.S_base ho0) hb); have n1_ := Aside0.mk (Kd.S_elder' (by (with_reducible repeat (first | apply Kd.S_alloc | apply Kd.S_drewN | apply Kd.S_drew)); exact HO195.out) (Kd.S_base ho0) hb); have n2_ := Aside0.mk (Kd.S_lower (Kd.S_new' (Kd.S_new' ho0 (Kd.S_lt (by (with_reducible repeat (first | apply Kd.S_alloc | apply Kd.S_drewN | apply Kd.S_drew)); exact HO191.out))) (Kd.S_lt (by (with_reducible repeat (first | apply Kd.S_alloc | apply Kd.S_drewN | apply Kd.S_drew)); exact HO195.out))) (below_size (by repeat (first | (with_reducible first | exact HB.out | apply below_alloc | apply pw_below_drewN | apply below_drew1) | exact HB.out)))); have n3_ := Aside0.mk (below_step (by repeat (first | (with_reducible first | exact HB.out | apply below_alloc | apply pw_below_drewN | apply below_drew1) | exact HB.out)) hb); clear HO191; clear HO195; clear HB; have HO191 := n0_; have HO195 := n1_; have HO199 := n2_; have HB := n3_; clear n0_ n1_ n2_ n3_; (try clear hb); (try clear hb2); (try clear hk); (try clear hi); (try clear ho0); obtain ⟨Ao25, co25, eo25⟩ := Kd.S_slice HO199.out; subst eo25) | ((with_reducible refine gate_callee (f := 19) rfl ?_); refine goesL_ (some 25) rfl rfl Try.func19 (by kernel_rfl) rfl #[.slice Ao22 t193.length co22, .slice Ao25 t197.length co25] rfl (by (try simp only [List.map_toArray, List.map_cons, List.map_nil]); first | done | rfl | (simp only [List.length_drop, List.length_take]; rfl)) ?_; (with_reducible refine (laws_eqRectSS.calls k _ _ t193 _ _ t197 true _ ?side1 ?side2 ?side3 ?side4 A16.out).mono ?_); (case side1 => repeat (first | exact (Kd.S_reads' HO195.out).2.2 | (with_reducible refine Kd.C_alloc ?_ _) | (with_reducible refine Kd.C_drewN ?_ _) | (with_reducible refine Kd.C_drew ?_))); (case side2 => exact (Kd.S_reads' HO195.out).2.1); (case side3 => repeat (first | exact (Kd.S_reads' HO199.out).2.2 | (with_reducible refine Kd.C_alloc ?_ _) | (with_reducible refine Kd.C_drewN ?_ _) | (with_reducible refine Kd.C_drew ?_))); (case side4 => exact (Kd.S_reads' HO199.out).2.1); rintro e w26 ⟨rfl, hb⟩; refine ⟨_, rfl, ?_⟩; have n0_ := Aside0.mk (Kd.S_below (by (with_reducible repeat (first | apply Kd.S_alloc | apply Kd.S_drewN | apply Kd.S_drew)); exact HO191.out) hb); have n1_ := Aside0.mk (Kd.S_below (by (with_reducible repeat (first | apply Kd.S_alloc | apply Kd.S_drewN | apply Kd.S_drew)); exact HO195.out) hb); have n2_ := Aside0.mk (Kd.S_below (by (with_reducible repeat (first | apply Kd.S_alloc | apply Kd.S_drewN | apply Kd.S_drew)); exact HO199.out) hb); have n3_ := Aside0.mk (below_step (by repeat (first | (with_reducible first | exact HB.out | apply below_alloc | apply pw_below_drewN | apply below_drew1) | exact HB.out)) hb); clear HO191; clear HO195; clear HO199; clear HB; have HO191 := n0_; have HO195 := n1_; have HO199 := n2_; have HB := n3_; clear n0_ n1_ n2_ n3_; (try clear hb); (try clear hb2); (try clear hk); (try clear hi)))
        go_ret
        exact ⟨by first | rfl | (simp [errW_none, errW_some] <;> rfl) | (simp [*, errW_none, errW_some] <;> rfl), by repeat (first | (with_reducible first | exact HB.out | apply below_alloc | apply pw_below_drewN | apply below_drew1) | exact HB.out)⟩
      · replace c17 := Bool.eq_false_iff.mpr c17
        subst c17
        have H1 : (some false) = some r := by rw [if_neg (show ¬ (false = true) by decide)] at H; exact H
        clear H
        have H := H1
        clear H1
        obtain rfl := Option.some.inj H
        go_enter Try.func3, Try.ntmps3
        go_wp2_with (first | ((with_reducible refine gate_callee (f := 15) rfl ?_); refine goesL_ (some 9) rfl rfl Try.func15 (by kernel_rfl) rfl #[.slice A0 l0.length c0, .int .i64 1048576] rfl (by (try simp only [List.map_toArray, List.map_cons, List.map_nil]); first | done | rfl | (simp only [List.length_drop, List.length_take]; rfl)) ?_; (with_reducible refine (laws_szRectSS.calls k _ _ l0 1048576 t188 _ ?side1 ?side2 A2.out).mono ?_); (case side1 => repeat (first | exact HR0.out | (with_reducible refine Kd.C_alloc ?_ _) | (with_reducible refine Kd.C_drewN ?_ _) | (with_reducible refine Kd.C_drew ?_))); (case side2 => exact HC0.out); rintro e w' ⟨rfl, ⟨nd, rfl⟩⟩; refine ⟨_, rfl, ?_⟩) | ((with_reducible refine gate_callee (f := 17) rfl ?_); refine goesL_ (some 13) rfl rfl Try.func17 (by kernel_rfl) rfl #[.slice A0 l0.length c0] rfl (by (try simp only [List.map_toArray, List.map_cons, List.map_nil]); first | done | rfl | (simp only [List.length_drop, List.length_take]; rfl)) ?_; (with_reducible refine (laws_toRectSS.calls k _ _ l0 t189 _ ?side1 ?side2 A4.out).mono ?_); (case side1 => repeat (first | exact HR0.out | (with_reducible refine Kd.C_alloc ?_ _) | (with_reducible refine Kd.C_drewN ?_ _) | (with_reducible refine Kd.C_drew ?_))); (case side2 => exact HC0.out); rintro e w27 ⟨v190, rfl, ho0, hb⟩; refine ⟨_, rfl, ?_⟩; have n0_ := Aside0.mk (Kd.S_lower ho0 (below_size (by repeat (first | (with_reducible first | exact HB.out | apply below_alloc | apply pw_below_drewN | apply below_drew1) | exact HB.out)))); have n1_ := Aside0.mk (below_step (by repeat (first | (with_reducible first | exact HB.out | apply below_alloc | apply pw_below_drewN | apply below_drew1) | exact HB.out)) hb); clear HB; have HO191 := n0_; have HB := n1_; clear n0_ n1_; (try clear hb); (try clear hb2); (try clear hk); (try clear hi); (try clear ho0); obtain ⟨Ao28, co28, eo28⟩ := Kd.S_slice HO191.out; subst eo28) | ((with_reducible refine gate_callee (f := 16) rfl ?_); refine goesL_ (some 14) rfl rfl Try.func16 (by kernel_rfl) rfl #[.slice Ao28 t189.length co28] rfl (by (try simp only [List.map_toArray, List.map_cons, List.map_nil]); first | done | rfl | (simp only [List.length_drop, List.length_take]; rfl)) ?_; (with_reducible refine (spec_IsLayout.calls k _ _ t189 t192 _ ?side1 ?side2 A5.out).mono ?_); (case side1 => repeat (first | exact (Kd.S_reads' HO191.out).2.2 | (with_reducible refine Kd.C_alloc ?_ _) | (with_reducible refine Kd.C_drewN ?_ _) | (with_reducible refine Kd.C_drew ?_))); (case side2 => exact (Kd.S_reads' HO191.out).2.1); rintro e w29 ⟨rfl, hb⟩; refine ⟨_, rfl, ?_⟩; have n0_ := Aside0.mk (Kd.S_below (by (with_reducible repeat (first | apply Kd.S_alloc | apply Kd.S_drewN | apply Kd.S_drew)); exact HO191.out) hb); have n1_ := Aside0.mk (below_step (by repeat (first | (with_reducible first | exact HB.out | apply below_alloc | apply pw_below_drewN | apply below_drew1) | exact HB.out)) hb); clear HO191; clear HB; have HO191 := n0_; have HB := n1_; clear n0_ n1_; (try clear hb); (try clear hb2); (try clear hk); (try clear hi)) | ((with_reducible refine gate_callee (f := 17) rfl ?_); refine goesL_ (some 16) rfl rfl Try.func17 (by kernel_rfl) rfl #[.slice A0 l0.length c0] rfl (by (try simp only [List.map_toArray, List.map_cons, List.map_nil]); first | done | rfl | (simp only [List.length_drop, List.length_take]; rfl)) ?_; (with_reducible refine (laws_toRectSS.calls k _ _ l0 t193 _ ?side1 ?side2 A6.out).mono ?_); (case side1 => repeat (first | exact (Kd.C_below HR0.out HB.out) | (with_reducible refine Kd.C_alloc ?_ _) | (with_reducible refine Kd.C_drewN ?_ _) | (with_reducible refine Kd.C_drew ?_))); (case side2 => exact HC0.out); rintro e w30 ⟨v194, rfl, ho0, hb⟩; refine ⟨_, rfl, ?_⟩; have n0_ := Aside0.mk (Kd.S_elder' (by (with_reducible repeat (first | apply Kd.S_alloc | apply Kd.S_drewN | apply Kd.S_drew)); exact HO191.out) (Kd.S_base ho0) hb); have n1_ := Aside0.mk (Kd.S_lower (Kd.S_new' ho0 (Kd.S_lt (by (with_reducible repeat (first | apply Kd.S_alloc | apply Kd.S_drewN | apply Kd.S_drew)); exact HO191.out))) (below_size (by repeat (first | (with_reducible first | exact HB.out | apply below_alloc | apply pw_below_drewN | apply below_drew1) | exact HB.out)))); have n2_ := Aside0.mk (below_step (by repeat (first | (with_reducible first | exact HB.out | apply below_alloc | apply pw_below_drewN | apply below_drew1) | exact HB.out)) hb); clear HO191; clear HB; have HO191 := n0_; have HO195 := n1_; have HB := n2_; clear n0_ n1_ n2_; (try clear hb); (try clear hb2); (try clear hk); (try clear hi); (try clear ho0); obtain ⟨Ao31, co31, eo31⟩ := Kd.S_slice HO195.out; subst eo31) | ((with_reducible refine gate_callee (f := 18) rfl ?_); refine goesL_ (some 18) rfl rfl Try.func18 (by kernel_rfl) rfl #[.slice Ao31 t193.length co31] rfl (by (try simp only [List.map_toArray, List.map_cons, List.map_nil]); first | done | rfl | (simp only [List.length_drop, List.length_take]; rfl)) ?_; (with_reducible refine (impl_IsLayout.calls _ _ t193 t196 _ ?side1 ?side2 A7.out).mono ?_); (case side1 => repeat (first | exact (Kd.S_reads' HO195.out).2.2 | (with_reducible refine Kd.C_alloc ?_ _) | (with_reducible refine Kd.C_drewN ?_ _) | (with_reducible refine Kd.C_drew ?_))); (case side2 => exact (Kd.S_reads' HO195.out).2.1); rintro e w32 ⟨rfl, hb⟩; refine ⟨_, rfl, ?_⟩; have n0_ := Aside0.mk (Kd.S_below (by (with_reducible repeat (first | apply Kd.S_alloc | apply Kd.S_drewN | apply Kd.S_drew)); exact HO191.out) hb); have n1_ := Aside0.mk (Kd.S_below (by (with_reducible repeat (first | apply Kd.S_alloc | apply Kd.S_drewN | apply Kd.S_drew)); exact HO195.out) hb); have n2_ := Aside0.mk (below_step (by repeat (first | (with_reducible first | exact HB.out | apply below_alloc | apply pw_below_drewN | apply below_drew1) | exact HB.out)) hb); clear HO191; clear HO195; clear HB; have HO191 := n0_; have HO195 := n1_; have HB := n2_; clear n0_ n1_ n2_; (try clear hb); (try clear hb2); (try clear hk); (try clear hi)) | ((with_reducible refine gate_callee (f := 17) rfl ?_); refine goesL_ (some 24) rfl rfl Try.func17 (by kernel_rfl) rfl #[.slice A0 l0.length c0] rfl (by (try simp only [List.map_toArray, List.map_cons, List.map_nil]); first | done | rfl | (simp only [List.length_drop, List.length_take]; rfl)) ?_; (with_reducible refine (laws_toRectSS.calls k _ _ l0 t197 _ ?side1 ?side2 A15.out).mono ?_); (case side1 => repeat (first | exact (Kd.C_below HR0.out HB.out) | (with_reducible refine Kd.C_alloc ?_ _) | (with_reducible refine Kd.C_drewN ?_ _) | (with_reducible refine Kd.C_drew ?_))); (case side2 => exact HC0.out); rintro e w33 ⟨v198, rfl, ho0, hb⟩; refine ⟨_, rfl, ?_⟩; have n0_ := Aside0.mk (Kd.S_elder' (by (with_reducible repeat (first | apply Kd.S_alloc | apply Kd.S_drewN | apply Kd.S_drew)); exact HO191.out) (Kd.S_base ho0) hb); have n1_ := Aside0.mk (Kd.S_elder' (by (with_reducible repeat (first | apply Kd.S_alloc | apply Kd.S_drewN | apply Kd.S_drew)); exact HO195.out) (Kd.S_base ho0) hb); have n2_ := Aside0.mk (Kd.S_lower (Kd.S_new' (Kd.S_new' ho0 (Kd.S_lt (by (with_reducible repeat (first | apply Kd.S_alloc | apply Kd.S_drewN | apply Kd.S_drew)); exact HO191.out))) (Kd.S_lt (by (with_reducible repeat (first | apply Kd.S_alloc | apply Kd.S_drewN | apply Kd.S_drew)); exact HO195.out))) (below_size (by repeat (first | (with_reducible first | exact HB.out | apply below_alloc | apply pw_below_drewN | apply below_drew1) | exact HB.out)))); have n3_ := Aside0.mk (below_step (by repeat (first | (with_reducible first | exact HB.out | apply below_alloc | apply pw_below_drewN | apply below_drew1) | exact HB.out)) hb); clear HO191; clear HO195; clear HB; have HO191 := n0_; have HO195 := n1_; have HO199 := n2_; have HB := n3_; clear n0_ n1_ n2_ n3_; (try clear hb); (try clear hb2); (try clear hk); (try clear hi); (try clear ho0); obtain ⟨Ao34, co34, eo34⟩ := Kd.S_slice HO199.out; subst eo34) | ((with_reducible refine gate_callee (f := 19) rfl ?_); refine goesL_ (some 25) rfl rfl Try.func19 (by kernel_rfl) rfl #[.slice Ao31 t193.length co31, .slice Ao34 t197.length co34] rfl (by (try simp only [List.map_toArray, List.map_cons, List.map_nil]); first | done | rfl | (simp only [List.length_drop, List.length_take]; rfl)) ?_; (with_reducible refine (laws_eqRectSS.calls k _ _ t193 _ _ t197 false _ ?side1 ?side2 ?side3 ?side4 A16.out).mono ?_); (case side1 => repeat (first | exact (Kd.S_reads' HO195.out).2.2 | (with_reducible refine Kd.C_alloc ?_ _) | (with_reducible refine Kd.C_drewN ?_ _) | (with_reducible refine Kd.C_drew ?_))); (case side2 => exact (Kd.S_reads' HO195.out).2.1); (case side3 => repeat (first | exact (Kd.S_reads' HO199.out).2.2 | (with_reducible refine Kd.C_alloc ?_ _) | (with_reducible refine Kd.C_drewN ?_ _) | (with_reducible refine Kd.C_drew ?_))); (case side4 => exact (Kd.S_reads' HO199.out).2.1); rintro e w35 ⟨rfl, hb⟩; refine ⟨_, rfl, ?_⟩; have n0_ := Aside0.mk (Kd.S_below (by (with_reducible repeat (first | apply Kd.S_alloc | apply Kd.S_drewN | apply Kd.S_drew)); exact HO191.out) hb); have n1_ := Aside0.mk (Kd.S_below (by (with_reducible repeat (first | apply Kd.S_alloc | apply Kd.S_drewN | apply Kd.S_drew)); exact HO195.out) hb); have n2_ := Aside0.mk (Kd.S_below (by (with_reducible repeat (first | apply Kd.S_alloc | apply Kd.S_drewN | apply Kd.S_drew)); exact HO199.out) hb); have n3_ := Aside0.mk (below_step (by repeat (first | (with_reducible first | exact HB.out | apply below_alloc | apply pw_below_drewN | apply below_drew1) | exact HB.out)) hb); clear HO191; clear HO195; clear HO199; clear HB; have HO191 := n0_; have HO195 := n1_; have HO199 := n2_; have HB := n3_; clear n0_ n1_ n2_ n3_; (try clear hb); (try clear hb2); (try clear hk); (try clear hi)))
        go_ret
        exact ⟨by first | rfl | (simp [errW_none, errW_some] <;> rfl) | (simp [*, errW_none, errW_some] <;> rfl), by repeat (first | (with_reducible first | exact HB.out | apply below_alloc | apply pw_below_drewN | apply below_drew1) | exact HB.out)⟩

end Go.Proofs.Ytncjjplpenjghaa.P

/-! ### Opens -/
/- Reading an argument: what a value reads as, kind by kind (integers, bools, strings, slices, structs). Lemmas only. -/
set_option linter.unusedSimpArgs false
namespace Go.Proofs.Ytncjjplpenjghaa
open Go.RowKit Go.Proofs.YtncjjplpenjghaaW.PrintWords Go.Deep Go.WideShapes

/-- A value of type t that can be read is of kind d, and what it says meets I. -/
def Opens {α : Type} (P : Program) (t : TypeId) (d : Kd α) (I : α → Prop) : Prop :=
  ∀ (H : Type) (enc : TypeId × Value → H) (w : World) (spare : Nat → Bool) (held : Bool) (fuel : Nat) (cs : List Value) (x : DataW H × List MemPlace),
    DataW.trod enc P w 0 spare held fuel t cs = some x → ∃ y, d.K w y cs ∧ I y

theorem Opens.int {P : Program} {t : TypeId} {k : IntKind} (ht : P.underlying t = some (.int k)) : Opens P t (Kd.int k) (fun n => (Lit.int k n).wf = true) := by
  intro H enc w spare held fuel cs x h
  obtain ⟨n, rfl, _, hw⟩ := DataW.trod_int ht h
  exact ⟨n, rfl, hw⟩

theorem Opens.bool {P : Program} {t : TypeId} (ht : P.underlying t = some .bool) : Opens P t Kd.bool (fun _ => True) := by
  intro H enc w spare held fuel cs x h
  obtain ⟨n, rfl, _⟩ := DataW.trod_bool ht h
  exact ⟨n, rfl, trivial⟩

theorem Opens.string {P : Program} {t : TypeId} (ht : P.underlying t = some .string) : Opens P t Kd.string (fun s => s.size ≤ maxLen) := by
  intro H enc w spare held fuel cs x h
  obtain ⟨n, rfl, _, hw⟩ := DataW.trod_string ht h
  exact ⟨n, rfl, hw⟩

theorem Opens.imp {α : Type} {P : Program} {t : TypeId} {d : Kd α} {I J : α → Prop} (h : Opens P t d I) (hj : ∀ y, I y → J y) : Opens P t d J := by
  intro H enc w spare held fuel cs x hx
  obtain ⟨y, h1, h2⟩ := h H enc w spare held fuel cs x hx
  exact ⟨y, h1, hj y h2⟩

theorem exists_list {α : Type} {p : Nat → α → Prop} (n : Nat) (h : ∀ i, i < n → ∃ y, p i y) : ∃ l : List α, l.length = n ∧ ∀ i y, l[i]? = some y → p i y := by
  induction n with
  | zero => exact ⟨[], rfl, fun i y h => by simp at h⟩
  | succ n ih =>
    obtain ⟨l, hl, hp⟩ := ih (fun i hi => h i (by omega))
    obtain ⟨y, hy⟩ := h n (by omega)
    refine ⟨l ++ [y], by simp [hl], fun i z hz => ?_⟩
    rcases Nat.lt_or_ge i n with hi | hi
    · rw [List.getElem?_append_left (by omega)] at hz
      exact hp i z hz
    · have : i = n := by
        have := (List.getElem?_eq_some_iff.1 hz).1
        simp [hl] at this
        omega
      subst this
      rw [List.getElem?_append_right (by omega), hl] at hz
      simp at hz
      exact hz ▸ hy

theorem Opens.slice {α : Type} {P : Program} {t e : TypeId} {d : Kd α} {I : α → Prop} (ht : P.underlying t = some (.slice e)) (hc : P.cellsOf e = d.sz) (hd : Opens P e d I) :
    Opens P t (Kd.slice e d) (fun l => l.length ≤ maxLen ∧ ∀ y ∈ l, I y) := by
  intro H enc w spare held fuel cs x h
  rcases open_slice ht h with ⟨rfl, _⟩ | ⟨a, len, cap, m, n, D, Pl, rfl, hb, hl, hm, hmm, hx, hi⟩
  · exact ⟨[], ⟨none, 0, rfl, Nat.le_refl _, rfl, Nat.zero_le _, fun h => absurd h (Nat.lt_irrefl 0)⟩, by simp [maxLen], by simp⟩
  · have hlm : len ≤ m := by rw [hmm]; split <;> omega
    obtain ⟨l, hll, hp⟩ := exists_list (p := fun i y => ∃ cs', w.cells? 0 (a.add (i * P.cellsOf e)) (P.cellsOf e) = some cs' ∧ d.K w y cs' ∧ I y) len (fun i hil => by
      obtain ⟨cs', h1, h2⟩ := hi i (by omega)
      obtain ⟨y, h3, h4⟩ := hd H enc w spare held n cs' _ h2
      exact ⟨y, cs', h1, h3, h4⟩)
    refine ⟨l, ⟨some a, cap, by rw [hll], by omega, rfl, by unfold maxLen at hm; omega, fun _ => ⟨a, rfl, fun j p hj => ?_⟩⟩, by omega, fun y hy => ?_⟩
    · obtain ⟨cs', h1, h2, _⟩ := hp j p hj
      obtain ⟨_, hcl, hat⟩ := World.cells?_some h1
      refine ⟨cs', d.K_len h2, h2, fun i u hu => ?_⟩
      have hil : i < P.cellsOf e := by
        have := (List.getElem?_eq_some_iff.1 hu).1
        omega
      have h3 := hat i hil
      rw [hu, ← hc] at *
      rw [← Go.Deep.add_add]
      exact h3
    · obtain ⟨i, hi2, rfl⟩ := List.getElem_of_mem hy
      obtain ⟨_, _, _, h4⟩ := hp i _ (List.getElem?_eq_getElem hi2)
      exact h4

/-- The fields fs of a struct, whose cells begin at off. -/
def OpensF {α : Type} (P : Program) (fs : List Field) (off : Nat) (d : Kd α) (I : α → Prop) : Prop :=
  ∀ (H : Type) (enc : TypeId × Value → H) (w : World) (spare : Nat → Bool) (held : Bool) (n : Nat) (cs : List Value) (xs : List (DataW H × List MemPlace)), xs.length = fs.length →
    (∀ (i : Nat) (f : Field), fs[i]? = some f → DataW.trod enc P w 0 spare held n f.type ((cs.drop f.offset).take (P.cellsOf f.type)) = xs[i]?) →
    ∃ y, d.K w y ((cs.drop off).take d.sz) ∧ I y

theorem OpensF.one {α : Type} {P : Program} {f : Field} {off : Nat} {d : Kd α} {I : α → Prop} (ho : f.offset = off) (hc : P.cellsOf f.type = d.sz) (h : Opens P f.type d I) : OpensF P [f] off d I := by
  intro H enc w spare held n cs xs hl hf
  obtain ⟨x, rfl⟩ : ∃ x, xs = [x] := by
    match xs, hl with
    | [x], _ => exact ⟨x, rfl⟩
  have h1 := hf 0 f rfl
  rw [ho, hc] at h1
  exact h H enc w spare held n _ x h1

theorem OpensF.cons {α β : Type} {P : Program} {f : Field} {fs : List Field} {off : Nat} {a : Kd α} {b : Kd β} {I : α → Prop} {J : β → Prop} (ho : f.offset = off) (hc : P.cellsOf f.type = a.sz)
    (h : Opens P f.type a I) (hr : OpensF P fs (off + a.sz) b J) : OpensF P (f :: fs) off (Kd.pair a b) (fun y => I y.1 ∧ J y.2) := by
  intro H enc w spare held n cs xs hl hf
  obtain ⟨x, xs', rfl⟩ : ∃ x xs', xs = x :: xs' := by
    match xs, hl with
    | x :: xs', _ => exact ⟨x, xs', rfl⟩
  have h1 := hf 0 f rfl
  rw [ho, hc] at h1
  obtain ⟨y1, k1, i1⟩ := h H enc w spare held n _ x h1
  obtain ⟨y2, k2, i2⟩ := hr H enc w spare held n cs xs' (by simpa using hl) (fun i g hg => by simpa using hf (i + 1) g (by simpa using hg))
  refine ⟨(y1, y2), ⟨_, _, ?_, k1, k2⟩, i1, i2⟩
  show List.take (a.sz + b.sz) (List.drop off cs) = _
  rw [List.take_add, List.drop_drop]

theorem Opens.struct {α : Type} {P : Program} {t : TypeId} {fs : Array Field} {d : Kd α} {I : α → Prop} (ht : P.underlying t = some (.struct fs)) (hc : P.cellsOf t = d.sz) (h : OpensF P fs.toList 0 d I) : Opens P t d I := by
  intro H enc w spare held fuel cs x hx
  obtain ⟨xs, n, _, _, hlen, hl, hf⟩ := DataW.trod_struct ht hx
  obtain ⟨y, h1, h2⟩ := h H enc w spare held n cs xs (by simpa using hl) (fun i f hfi => hf i f (by simpa using hfi))
  refine ⟨y, ?_, h2⟩
  rw [List.drop_zero, ← hc, ← hlen, List.take_length] at h1
  exact h1

theorem Opens.iso {α β : Type} {P : Program} {t : TypeId} {d : Kd α} {I : α → Prop} {f : β → α} (g : α → β) (hg : ∀ x, f (g x) = x) (h : Opens P t d I) : Opens P t (Kd.iso d f) (fun y => I (f y)) := by
  intro H enc w spare held fuel cs x hx
  obtain ⟨y, h1, h2⟩ := h H enc w spare held fuel cs x hx
  exact ⟨g y, by show d.K w (f (g y)) cs; rw [hg]; exact h1, by show I (f (g y)); rw [hg]; exact h2⟩

/-- The argument itself. -/
theorem Opens.arg {α : Type} {P : Program} {t : TypeId} {d : Kd α} {I : α → Prop} (h : Opens P t d I) {H : Type} {enc : TypeId × Value → H} {w : World} {spare : Nat → Bool} {held : Bool} {v : Value} {x : DataW H} {p : List MemPlace}
    (hx : DataW.Trod enc P w 0 spare held t v x p) : ∃ y, d.K w y v.cells.toList ∧ I y := by
  obtain ⟨fuel, hf⟩ := hx
  exact h H enc w spare held fuel _ _ hf

end Go.Proofs.Ytncjjplpenjghaa

/-! ### StmFnExactIsLayout -/
/- The pure statement of FnExactIsLayout, and how its arguments are read. -/
namespace Go.Proofs.Ytncjjplpenjghaa.fnExactIsLayout
open Go.RowKit Go.Proofs.Ytncjjplpenjghaa Go.Proofs.Ytncjjplpenjghaa.P Go.Proofs.YtncjjplpenjghaaW.PrintWords Go.Proofs.YtncjjplpenjghaaW.PrintLast
def I2 (y : Int) : Prop := (Lit.int .i64 y).wf = true
def I81 (y : S81) : Prop := I2 y.f0 ∧ I2 y.f1 ∧ I2 y.f2 ∧ I2 y.f3
def I41 (y : (List S81)) : Prop := y.length ≤ maxLen ∧ ∀ z ∈ y, I81 z
def I22 (y : (List (List S81))) : Prop := y.length ≤ maxLen ∧ ∀ z ∈ y, I41 z
theorem opens2 : Opens Try.prog 2 (Kd.int .i64) I2 := Opens.int Try.underlying2
theorem opens81 : Opens Try.prog 81 k81 I81 := (Opens.iso (fun p => (⟨p.1, p.2.1, p.2.2.1, p.2.2.2⟩ : S81)) (fun _ => rfl) (Opens.struct Try.underlying81 (by kernel_rfl) (OpensF.cons rfl (by kernel_rfl) opens2 (OpensF.cons rfl (by kernel_rfl) opens2 (OpensF.cons rfl (by kernel_rfl) opens2 (OpensF.one rfl (by kernel_rfl) opens2)))))).imp (fun _ h => h)
theorem opens41 : Opens Try.prog 41 (Kd.slice 81 k81) I41 := Opens.slice Try.underlying41 (by kernel_rfl) opens81
theorem opens22 : Opens Try.prog 22 (Kd.slice 41 (Kd.slice 81 k81)) I22 := Opens.slice Try.underlying22 (by kernel_rfl) opens41
def Stm : Prop := ∀ (l0 : (List (List S81))), I22 l0 →  ∃ k, laws_FnExactIsLayout.f k l0 = some true
end Go.Proofs.Ytncjjplpenjghaa.fnExactIsLayout

/-! ### SpecReg -/
/- The reference's regions, the plain side: its flags, runs, canonical rectangles and its test. -/
set_option linter.unusedVariables false
set_option linter.unusedSimpArgs false
namespace Go.Proofs.Ytncjjplpenjghaa.G
open Go.RowKit Go.Proofs.Ytncjjplpenjghaa.P Go.Proofs.Ytncjjplpenjghaa.H Go.Proofs.YtncjjplpenjghaaW.PrintWords Go.Proofs.YtncjjplpenjghaaW.PrintLast
/-- A set as the reference's list of flags. -/
def bl (g : Nat → Bool) : List Bool := (List.range 6400).map g
theorem bl_len (g : Nat → Bool) : (bl g).length = 6400 := by simp [bl]
theorem bl_rd (g : Nat → Bool) (i : Nat) (h : i < 6400) : rdOf false (bl g) (i : Int) = g i := by
  unfold rdOf
  rw [Int.toNat_natCast]
  simp [bl, List.getD_eq_getElem?_getD, h]
theorem bl_congr {g g' : Nat → Bool} (h : ∀ i, i < 6400 → g i = g' i) : bl g = bl g' := List.map_congr_left (fun i hi => h i (List.mem_range.1 hi))
theorem bl_set (g : Nat → Bool) (i : Nat) (v : Bool) : (bl g).set i v = bl (fun j => if j = i then v else g j) := by
  apply List.ext_getElem
  · simp [bl]
  · intro j h1 h2
    rw [List.getElem_set]
    simp only [bl, List.getElem_map, List.getElem_range]
    by_cases h : i = j
    · rw [if_pos h, if_pos h.symm]
    · rw [if_neg h, if_neg (fun x => h x.symm)]
theorem bl_false : List.replicate 6400 false = bl (fun _ => false) := by
  apply List.ext_getElem
  · rw [List.length_replicate, bl_len]
  · intro i h1 h2
    rw [List.getElem_replicate]
    simp only [bl, List.getElem_map]
theorem w64s {x : Int} (h : -1000000 ≤ x) (h2 : x ≤ 2000000) : wrap64 x = x := by unfold wrap64; omega
theorem at_f (x y : Int) (hx : -100 ≤ x) (hx2 : x ≤ 100) (hy : -100 ≤ y) (hy2 : y ≤ 100) : spec_l03At.f x y = some ((y + 40) * 80 + x + 40) := by
  unfold spec_l03At.f
  rw [w64s (x := y + 40) (by omega) (by omega), w64s (x := (y + 40) * 80) (by omega) (by omega), w64s (x := (y + 40) * 80 + x) (by omega) (by omega), w64s (by omega) (by omega)]
def hasS (g : Nat → Bool) (x y : Int) : Bool := decide (-40 ≤ x ∧ x ≤ 39 ∧ -40 ≤ y ∧ y ≤ 39) && g ((y + 40).toNat * 80 + (x + 40).toNat)
theorem has_f (g : Nat → Bool) (x y : Int) : spec_l03Has.f (bl g) x y = some (hasS g x y) := by
  unfold spec_l03Has.f spec_l01In.f hasS
  by_cases a : -40 ≤ x ∧ x ≤ 39 ∧ -40 ≤ y ∧ y ≤ 39
  · obtain ⟨a1, a2, a3, a4⟩ := a
    have hlen := bl_len g
    have hi : ((y + 40) * 80 + x + 40 : Int) = (((y + 40).toNat * 80 + (x + 40).toNat : Nat) : Int) := by omega
    rw [at_f x y (by omega) (by omega) (by omega) (by omega), hi]
    rw [if_pos a1, decide_eq_true a2, Option.bind_some, if_pos rfl, if_pos a3, decide_eq_true a4, Option.bind_some, if_pos rfl, Option.bind_some, if_pos (by omega), hlen, if_pos (by omega), bl_rd g _ (by omega), decide_eq_true ⟨a1, a2, a3, a4⟩, Bool.true_and]
  · rw [decide_eq_false a, Bool.false_and]
    by_cases a1 : -40 ≤ x <;> by_cases a2 : x ≤ 39 <;> by_cases a3 : -40 ≤ y <;> by_cases a4 : y ≤ 39 <;> simp [a1, a2, a3, a4] <;> exact absurd ⟨a1, a2, a3, a4⟩ a
theorem rdS (l : List Rc) (i : Nat) (h : i < l.length) : rd_T75 l (i : Int) = l[i] := by simp [rd_T75, List.getD_eq_getElem?_getD, h]
/-! flags of rectangles -/
section
variable {l : List Rc} (hl : l.length ≤ 2000000) (hok : ∀ r ∈ l, okR r = true)
theorem ev_b2 (i : Nat) (hi : i < l.length) (hr : okR l[i] = true) (g : Nat → Bool) (y : Int) (hy : l[i].f1 ≤ y) (hy2 : y < l[i].f3) {res : List Bool}
    (h : Ev (fun k => spec_l03Bits.l1 k l (bl (putTo g l[i] (y + 1))) i (wrap64 (y + 1))) res) :
    ∀ (d : Nat) (x : Int), l[i].f0 ≤ x → x + d = l[i].f2 → Ev (fun k => spec_l03Bits.l2 k l (bl (putAt g l[i] y x)) i y x) res
  | 0, x, hx, he => by
    have hb := okR_b hr
    refine Ev.step (fun k => ?_) h
    simp only [spec_l03Bits.l2]
    rw [if_pos (by omega), if_pos (by omega), rdS l i hi, if_neg (by omega), bl_congr (fun j _ => putAt_end g l[i] y x (by omega) j)]
  | d + 1, x, hx, he => by
    have hb := okR_b hr
    refine Ev.step (fun k => ?_) (ev_b2 i hi hr g y hy hy2 h d (x + 1) (by omega) (by omega))
    have hidx : ((y + 40) * 80 + x + 40 : Int) = (((y + 40).toNat * 80 + (x + 40).toNat : Nat) : Int) := by omega
    simp only [spec_l03Bits.l2]
    rw [if_pos (by omega), if_pos (by omega), rdS l i hi, if_pos (by omega), at_f x y (by omega) (by omega) (by omega) (by omega), Option.bind_some, hidx, if_pos (by omega), bl_len, if_pos (by omega), Int.toNat_natCast, bl_set,
      bl_congr (fun j _ => (putAt_step g l[i] y x (by omega) (by omega) (by omega) (by omega) j).symm), w64s (by omega) (by omega)]
theorem ev_b1 (i : Nat) (hi : i < l.length) (hr : okR l[i] = true) (g : Nat → Bool) {res : List Bool}
    (h : Ev (fun k => spec_l03Bits.l0 k l (bl (fun j => g j || inR l[i] j)) (wrap64 (i + 1))) res) :
    ∀ (d : Nat) (y : Int), l[i].f1 ≤ y → y + d = l[i].f3 → Ev (fun k => spec_l03Bits.l1 k l (bl (putTo g l[i] y)) i y) res
  | 0, y, hy, he => by
    have hb := okR_b hr
    refine Ev.step (fun k => ?_) h
    simp only [spec_l03Bits.l1]
    rw [if_pos (by omega), if_pos (by omega), rdS l i hi, if_neg (by omega), bl_congr (fun j hj => putTo_end g l[i] y (by omega) j hj)]
  | d + 1, y, hy, he => by
    have hb := okR_b hr
    have h1 := ev_b1 i hi hr g h d (y + 1) (by omega) (by omega)
    have hw : wrap64 (y + 1) = y + 1 := w64s (by omega) (by omega)
    refine Ev.step (fun k => ?_) (ev_b2 i hi hr g y hy (by omega) (by rw [hw]; exact h1) (l[i].f2 - l[i].f0).toNat l[i].f0 (Int.le_refl _) (by omega))
    simp only [spec_l03Bits.l1]
    rw [if_pos (by omega), if_pos (by omega), rdS l i hi, if_pos (by omega)]
    have e : bl (putTo g l[i] y) = bl (putAt g l[i] y l[i].f0) := bl_congr (fun j _ => by have := putAt_start g l[i] y j; rw [show max l[i].f0 (-40) = l[i].f0 from by omega] at this; exact this.symm)
    rw [e]
include hl hok in
theorem ev_b0 : ∀ (d i : Nat), i + d = l.length → Ev (fun k => spec_l03Bits.l0 k l (bl (cov (l.take i))) i) (bl (cov l))
  | 0, i, h => by
    refine Ev.step (f := fun _ => some (bl (cov l))) (fun k => ?_) (Ev.now _)
    simp only [spec_l03Bits.l0]
    rw [if_neg (by omega), List.take_of_length_le (by omega)]
  | d + 1, i, h => by
    have hi : i < l.length := by omega
    have hr := hok _ (List.getElem_mem hi)
    have hb := okR_b hr
    refine Ev.step (fun k => ?_) (ev_b1 i hi hr (cov (l.take i)) (by
      rw [wrap_up i (by omega), bl_congr (fun j _ => (cov_take l i hi j).symm)]
      exact ev_b0 d (i + 1) (by omega)) (l[i].f3 - l[i].f1).toNat l[i].f1 (Int.le_refl _) (by omega))
    simp only [spec_l03Bits.l0]
    rw [if_pos (by omega), if_pos (by omega), rdS l i hi]
    have e : bl (cov (l.take i)) = bl (putTo (cov (l.take i)) l[i] l[i].f1) := bl_congr (fun j _ => by have := putTo_start (cov (l.take i)) l[i] j; rw [show max l[i].f1 (-40) = l[i].f1 from by omega] at this; exact this.symm)
    rw [e]
include hl hok in
theorem ev_bits : Ev (fun k => spec_l03Bits.f k l) (bl (cov l)) := by
  have h := ev_b0 hl hok l.length 0 (by omega)
  refine Ev.congr (fun k => ?_) h
  unfold spec_l03Bits.f
  rw [if_pos (by omega), bl_false]
  rfl
end
/-! runs -/
def bnd (r : Nat → Bool) : Nat → Nat → Bool → List Nat
  | 0, x, prev => if prev = true then [x] else []
  | d + 1, x, prev => if (r x != prev) = true then x :: bnd r d (x + 1) (r x) else bnd r d (x + 1) (r x)
def flat (ps : List (Nat × Nat)) : List Nat := ps.flatMap fun p => [p.1, p.2]
theorem bnd_scan (r : Nat → Bool) : ∀ (d x : Nat), bnd r d x false = flat (scan r d x none) ∧ ∀ s, s :: bnd r d x true = flat (scan r d x (some s))
  | 0, x => by simp [bnd, scan, flat]
  | d + 1, x => by
    obtain ⟨h1, h2⟩ := bnd_scan r d (x + 1)
    cases hr : r x with
    | false =>
      simp only [bnd, scan, hr, Bool.false_eq_true, if_false, bne_self_eq_false]
      refine ⟨h1, fun s => ?_⟩
      rw [if_pos (by decide), h1]
      rfl
    | true =>
      simp only [bnd, scan, hr, if_true, bne_self_eq_false, Bool.false_eq_true, if_false]
      refine ⟨?_, fun s => h2 s⟩
      rw [if_pos (by decide)]
      exact h2 x
theorem flat_inj : ∀ {p q : List (Nat × Nat)}, flat p = flat q → p = q
  | [], [], _ => rfl
  | [], _ :: _, h => by simp [flat] at h
  | _ :: _, [], h => by simp [flat] at h
  | (a, b) :: p, (c, d) :: q, h => by
    simp only [flat, List.flatMap_cons, List.cons_append, List.nil_append, List.cons.injEq] at h
    rw [h.1, h.2.1, flat_inj (p := p) (q := q) h.2.2]
theorem flat_len (p : List (Nat × Nat)) : (flat p).length = 2 * p.length := by
  induction p with
  | nil => rfl
  | cons a p ih => simp only [flat, List.flatMap_cons, List.length_append, List.length_cons, List.length_nil] at ih ⊢; omega
theorem flat_get (p : List (Nat × Nat)) : ∀ (i : Nat) (h : i < p.length), (flat p)[2 * i]? = some p[i].1 ∧ (flat p)[2 * i + 1]? = some p[i].2 := by
  induction p with
  | nil => intro i h; simp at h
  | cons a p ih =>
    intro i h
    cases i with
    | zero => simp [flat]
    | succ i =>
      have := ih i (by simpa using h)
      simp only [flat, List.flatMap_cons, List.cons_append, List.nil_append] at this ⊢
      rw [show 2 * (i + 1) = 2 * i + 1 + 1 from by omega]
      simpa using this
/-- The reference's runs of a row. -/
def rl (g : Nat → Bool) (y : Nat) : List Int := (flat (runs (row g y))).map fun (x : Nat) => (x : Int) - 40
theorem rl_len (g : Nat → Bool) (y : Nat) : (rl g y).length = 2 * (runs (row g y)).length := by simp [rl, flat_len]
theorem sub_inj {p q : List Nat} (h : p.map (fun (x : Nat) => (x : Int) - 40) = q.map (fun (x : Nat) => (x : Int) - 40)) : p = q := by
  refine List.map_inj_right (fun a b hab => ?_) |>.1 h
  omega
theorem rl_eq {g : Nat → Bool} {y e : Nat} : decide (rl g e = rl g y) = rowEq g y e := by
  rw [Bool.eq_iff_iff, decide_eq_true_eq, rowEq_iff]
  constructor
  · intro h x hx
    exact runs_inj (flat_inj (sub_inj h)) x hx
  · intro h
    unfold rl
    rw [runs_congr (r := row g e) (r' := row g y) (fun j hj => h j hj)]
theorem hasS_row (g : Nat → Bool) (y x : Nat) (hy : y < 80) (hx : x ≤ 80) : hasS g ((x : Int) - 40) ((y : Int) - 40) = (decide (x < 80) && row g y x) := by
  unfold hasS row
  by_cases h : x < 80
  · rw [decide_eq_true h, decide_eq_true (by omega), show ((y : Int) - 40 + 40).toNat = y from by omega, show ((x : Int) - 40 + 40).toNat = x from by omega]
  · rw [decide_eq_false h, decide_eq_false (by omega), Bool.false_and, Bool.false_and]
theorem ev_runs0 (g : Nat → Bool) (y : Nat) (hy : y < 80) : ∀ (d x : Nat) (acc : List Int), x + d = 80 → acc.length ≤ x → Ev (fun k => spec_l03Runs.l0 k (bl g) ((y : Int) - 40) acc ((x : Int) - 40)) (acc ++ (bnd (row g y) d x (decide (0 < x) && row g y (x - 1))).map fun (x : Nat) => (x : Int) - 40)
  | 0, x, acc, h, hacc => by
    have hx : x = 80 := by omega
    subst hx
    have h1 : hasS g (((80 : Nat) : Int) - 40) ((y : Int) - 40) = false := by rw [hasS_row g y 80 hy (by omega)]; rfl
    have h2 : hasS g (wrap64 (((80 : Nat) : Int) - 40 - 1)) ((y : Int) - 40) = row g y 79 := by
      rw [show wrap64 (((80 : Nat) : Int) - 40 - 1) = ((79 : Nat) : Int) - 40 from by unfold wrap64; omega, hasS_row g y 79 hy (by omega)]
      simp
    have hend : ∀ (a : List Int), Ev (fun k => spec_l03Runs.l0 k (bl g) ((y : Int) - 40) a (wrap64 (((80 : Nat) : Int) - 40 + 1))) a := fun a => by
      refine Ev.step (f := fun _ => some a) (fun k => ?_) (Ev.now a)
      simp only [spec_l03Runs.l0]
      rw [if_neg (by unfold wrap64; omega)]
    cases hr : row g y 79 with
    | true =>
      refine Ev.step (fun k => ?_) (hend (acc ++ [((80 : Nat) : Int) - 40]))
      simp only [spec_l03Runs.l0]
      rw [if_pos (by omega), has_f, h1, Option.bind_some, has_f, h2, hr, Option.bind_some, if_pos (by decide), if_pos (by omega)]
    | false =>
      simp only [bnd, Nat.reduceSub, hr, Bool.and_false, Bool.false_eq_true, if_false, List.map_nil, List.append_nil]
      refine Ev.step (fun k => ?_) (hend acc)
      simp only [spec_l03Runs.l0]
      rw [if_pos (by omega), has_f, h1, Option.bind_some, has_f, h2, hr, Option.bind_some, if_neg (by decide)]
  | d + 1, x, acc, h, hacc => by
    have h1 : hasS g ((x : Int) - 40) ((y : Int) - 40) = row g y x := by rw [hasS_row g y x hy (by omega), decide_eq_true (by omega), Bool.true_and]
    have h2 : hasS g (wrap64 ((x : Int) - 40 - 1)) ((y : Int) - 40) = (decide (0 < x) && row g y (x - 1)) := by
      rw [w64s (by omega) (by omega)]
      by_cases h0 : 0 < x
      · rw [show (x : Int) - 40 - 1 = ((x - 1 : Nat) : Int) - 40 from by omega, hasS_row g y (x - 1) hy (by omega), decide_eq_true (by omega), decide_eq_true h0]
      · have hx0 : x = 0 := by omega
        subst hx0
        unfold hasS
        rw [decide_eq_false (by omega)]
        simp
    have hp : (decide (0 < x + 1) && row g y (x + 1 - 1)) = row g y x := by simp
    generalize hpv : (decide (0 < x) && row g y (x - 1)) = prev at *
    have hxx : wrap64 ((x : Int) - 40 + 1) = ((x + 1 : Nat) : Int) - 40 := by unfold wrap64; omega
    cases hc : (row g y x != prev) with
    | true =>
      have ih := ev_runs0 g y hy d (x + 1) (acc ++ [(x : Int) - 40]) (by omega) (by simp; omega)
      rw [hp] at ih
      simp only [bnd, hc, if_true, List.map_cons]
      rw [show acc ++ ((x : Int) - 40) :: (bnd (row g y) d (x + 1) (row g y x)).map (fun (x : Nat) => (x : Int) - 40) = (acc ++ [(x : Int) - 40]) ++ (bnd (row g y) d (x + 1) (row g y x)).map (fun (x : Nat) => (x : Int) - 40) from by simp]
      refine Ev.step (fun k => ?_) ih
      simp only [spec_l03Runs.l0]
      rw [if_pos (by omega), has_f, h1, Option.bind_some, has_f, h2, Option.bind_some, if_pos hc, if_pos (by omega), hxx]
    | false =>
      have ih := ev_runs0 g y hy d (x + 1) acc (by omega) (by omega)
      rw [hp] at ih
      simp only [bnd, hc, Bool.false_eq_true, if_false]
      refine Ev.step (fun k => ?_) ih
      simp only [spec_l03Runs.l0]
      rw [if_pos (by omega), has_f, h1, Option.bind_some, has_f, h2, Option.bind_some, if_neg (by rw [hc]; decide), hxx]
theorem ev_runs (g : Nat → Bool) (y : Nat) (hy : y < 80) : Ev (fun k => spec_l03Runs.f k (bl g) ((y : Int) - 40)) (rl g y) := by
  have h := ev_runs0 g y hy 80 0 [] (by omega) (by simp)
  simp only [Nat.lt_irrefl, decide_false, Bool.false_and, List.nil_append] at h
  rw [(bnd_scan (row g y) 80 0).1] at h
  exact h
theorem ev_equal0 (p q : List Int) (hl : p.length = q.length) (hs : p.length ≤ 2000000) : ∀ (d i : Nat), i + d = p.length → Ev (fun k => spec_l03Equal.l0 k p q i) (decide (p.drop i = q.drop i))
  | 0, i, h => by
    rw [List.drop_eq_nil_of_le (by omega), List.drop_eq_nil_of_le (by omega)]
    refine Ev.step (f := fun _ => some true) (fun k => ?_) (Ev.now true)
    simp only [spec_l03Equal.l0]
    rw [if_neg (by omega)]
  | d + 1, i, h => by
    have h1 : i < p.length := by omega
    have h2 : i < q.length := by omega
    have r1 : rd p (i : Int) = p[i] := by unfold rd; rw [Int.toNat_natCast, List.getD_eq_getElem?_getD, List.getElem?_eq_getElem h1]; rfl
    have r2 : rd q (i : Int) = q[i] := by unfold rd; rw [Int.toNat_natCast, List.getD_eq_getElem?_getD, List.getElem?_eq_getElem h2]; rfl
    rw [List.drop_eq_getElem_cons h1, List.drop_eq_getElem_cons h2]
    by_cases he : p[i] = q[i]
    · rw [show decide (p[i] :: p.drop (i + 1) = q[i] :: q.drop (i + 1)) = decide (p.drop (i + 1) = q.drop (i + 1)) from by rw [decide_eq_decide, List.cons.injEq]; exact ⟨fun h => h.2, fun h => ⟨he, h⟩⟩]
      refine Ev.step (fun k => ?_) (ev_equal0 p q hl hs d (i + 1) (by omega))
      simp only [spec_l03Equal.l0]
      rw [if_pos (by omega), if_pos (by omega), if_pos (by omega), r1, r2, if_pos he, wrap_up i (by omega)]
    · rw [show decide (p[i] :: p.drop (i + 1) = q[i] :: q.drop (i + 1)) = false from by rw [decide_eq_false_iff_not, List.cons.injEq]; exact fun h => he h.1]
      refine Ev.step (f := fun _ => some false) (fun k => ?_) (Ev.now false)
      simp only [spec_l03Equal.l0]
      rw [if_pos (by omega), if_pos (by omega), if_pos (by omega), r1, r2, if_neg he]
theorem ev_equal (p q : List Int) (hs : p.length ≤ 2000000) : Ev (fun k => spec_l03Equal.f k p q) (decide (p = q)) := by
  by_cases hl : p.length = q.length
  · refine Ev.congr (fun k => ?_) (ev_equal0 p q hl hs p.length 0 (by omega))
    unfold spec_l03Equal.f
    rw [if_pos (by omega)]
    rfl
  · refine Ev.congr (f := fun _ => some (decide (p = q))) (fun k => ?_) (Ev.now _)
    unfold spec_l03Equal.f
    rw [if_neg (by omega), decide_eq_false (fun e => hl (by rw [e]))]
/-! the canonical rectangles -/
theorem ev_c2 (g : Nat → Bool) (y e : Nat) {res : List Rc} (acc0 : List Rc) (hacc : acc0.length ≤ 2000000) (h : Ev (fun k => spec_l03Canon.l0 k (bl g) (acc0 ++ rectsOf y e (runs (row g y))) ((e : Int) - 40)) res) :
    ∀ (d i : Nat), i + d = (runs (row g y)).length → Ev (fun k => spec_l03Canon.l2 k (bl g) (acc0 ++ rectsOf y e ((runs (row g y)).take i)) ((y : Int) - 40) (rl g y) ((e : Int) - 40) ((2 * i : Nat) : Int)) res
  | 0, i, hi => by
    have hlen := rl_len g y
    have h40 := runs_len (row g y)
    refine Ev.step (fun k => ?_) h
    simp only [spec_l03Canon.l2]
    rw [if_neg (by unfold wrap64; omega), List.take_of_length_le (by omega)]
  | d + 1, i, hi => by
    have hlen := rl_len g y
    have h40 := runs_len (row g y)
    have hlt : i < (runs (row g y)).length := by omega
    obtain ⟨f1, f2⟩ := flat_get (runs (row g y)) i hlt
    have r1 : rd (rl g y) ((2 * i : Nat) : Int) = ((runs (row g y))[i].1 : Int) - 40 := by
      unfold rd rl; rw [Int.toNat_natCast, List.getD_eq_getElem?_getD, List.getElem?_map, f1]; rfl
    have hw : wrap64 (((2 * i : Nat) : Int) + 1) = ((2 * i + 1 : Nat) : Int) := by unfold wrap64; omega
    have hw2 : wrap64 (((2 * i : Nat) : Int) + 2) = ((2 * (i + 1) : Nat) : Int) := by unfold wrap64; omega
    have r2 : rd (rl g y) ((2 * i + 1 : Nat) : Int) = ((runs (row g y))[i].2 : Int) - 40 := by
      unfold rd rl; rw [Int.toNat_natCast, List.getD_eq_getElem?_getD, List.getElem?_map, f2]; rfl
    refine Ev.step (fun k => ?_) (ev_c2 g y e acc0 hacc h d (i + 1) (by omega))
    simp only [spec_l03Canon.l2]
    rw [hw, if_pos (by omega), if_pos (by omega), if_pos (by omega), if_pos (by omega), if_pos (by simp only [rectsOf, List.length_append, List.length_map, List.length_take]; omega), r1, r2, hw2, List.take_succ_eq_append_getElem hlt]
    simp only [rectsOf, List.map_append, List.map_cons, List.map_nil, List.append_assoc]
theorem ev_c1 (g : Nat → Bool) (y : Nat) (hy : y < 80) {res : List Rc} (acc : List Rc) (h : Ev (fun k => spec_l03Canon.j2 k (bl g) acc ((y : Int) - 40) (rl g y) ((bEnd g y : Int) - 40)) res) :
    ∀ (d e : Nat), e + d = 80 → bandEnd g y d e = bEnd g y → Ev (fun k => spec_l03Canon.l1 k (bl g) acc ((y : Int) - 40) (rl g y) ((e : Int) - 40)) res
  | 0, e, he, hb => by
    have : e = 80 := by omega
    subst this
    simp only [bandEnd] at hb
    refine Ev.step (fun k => ?_) h
    simp only [spec_l03Canon.l1]
    rw [if_neg (by omega), ← hb]
  | d + 1, e, he, hb => by
    have hlen := rl_len g e
    have h40 := runs_len (row g e)
    have he8 : e < 80 := by omega
    have hbind := fun (c : Bool) (hc : rowEq g y e = c) (f : Nat → Bool → Option (List Rc)) (hf : Ev (fun k => f k c) res) => Ev.bind (f := fun k t => (spec_l03Equal.f k t (rl g y)).bind (f k)) (ev_runs g e he8) (Ev.bind (f := fun k t => f k t) (by have := ev_equal (rl g e) (rl g y) (by omega); rw [rl_eq, hc] at this; exact this) hf)
    simp only [bandEnd] at hb
    cases hc : rowEq g y e with
    | true =>
      rw [if_pos ⟨he8, hc⟩] at hb
      have ih := ev_c1 g y hy acc h d (e + 1) (by omega) hb
      have hw : wrap64 ((e : Int) - 40 + 1) = ((e + 1 : Nat) : Int) - 40 := by unfold wrap64; omega
      have := hbind true hc (fun k t => if t = true then spec_l03Canon.l1 k (bl g) acc ((y : Int) - 40) (rl g y) (wrap64 ((e : Int) - 40 + 1)) else spec_l03Canon.j2 k (bl g) acc ((y : Int) - 40) (rl g y) ((e : Int) - 40)) (by simp only [if_true]; rw [hw]; exact ih)
      refine Ev.step (fun k => ?_) this
      simp only [spec_l03Canon.l1]
      rw [if_pos (by omega)]
    | false =>
      rw [if_neg (by rw [hc]; simp)] at hb
      have := hbind false hc (fun k t => if t = true then spec_l03Canon.l1 k (bl g) acc ((y : Int) - 40) (rl g y) (wrap64 ((e : Int) - 40 + 1)) else spec_l03Canon.j2 k (bl g) acc ((y : Int) - 40) (rl g y) ((e : Int) - 40)) (by simp only [Bool.false_eq_true, if_false]; rw [hb]; exact h)
      refine Ev.step (fun k => ?_) this
      simp only [spec_l03Canon.l1]
      rw [if_pos (by omega)]
theorem ev_c0 (g : Nat → Bool) : ∀ (d y : Nat) (acc : List Rc), y ≤ 80 → 80 ≤ d + y → acc.length ≤ 40 * y → Ev (fun k => spec_l03Canon.l0 k (bl g) acc ((y : Int) - 40)) (acc ++ canonFrom g d y)
  | 0, y, acc, hy, hd, ha => by
    refine Ev.step (f := fun _ => some (acc ++ canonFrom g 0 y)) (fun k => ?_) (Ev.now _)
    simp only [spec_l03Canon.l0, canonFrom, List.append_nil]
    rw [if_neg (by omega)]
  | d + 1, y, acc, hy, hd, ha => by
    simp only [canonFrom]
    by_cases h80 : y < 80
    · rw [if_pos h80]
      obtain ⟨b1, b2, _, _⟩ := bEnd_ok g y h80
      have hr := runs_len (row g y)
      have h0 := ev_c0 g d (bEnd g y) (acc ++ rectsOf y (bEnd g y) (runs (row g y))) b2 (by omega) (by simp only [rectsOf, List.length_append, List.length_map]; omega)
      rw [List.append_assoc] at h0
      have h2 := ev_c2 g y (bEnd g y) acc (by omega) (by rw [← List.append_assoc] at h0; rw [List.append_assoc] at h0; exact h0) (runs (row g y)).length 0 (by omega)
      have h1 := ev_c1 g y h80 acc (res := acc ++ (rectsOf y (bEnd g y) (runs (row g y)) ++ canonFrom g d (bEnd g y))) (by
        refine Ev.step (fun k => ?_) h2
        simp only [spec_l03Canon.j2, List.take_zero, rectsOf, List.map_nil, List.append_nil]
        rfl) (80 - (y + 1)) (y + 1) (by omega) (bandEnd_fuel g y _ 80 (y + 1) (by omega) (by omega) (by omega))
      have hw : wrap64 ((y : Int) - 40 + 1) = ((y + 1 : Nat) : Int) - 40 := by unfold wrap64; omega
      refine Ev.step (fun k => ?_) (Ev.bind (f := fun k t => spec_l03Canon.l1 k (bl g) acc ((y : Int) - 40) t (wrap64 ((y : Int) - 40 + 1))) (ev_runs g y h80) (by rw [hw]; exact h1))
      simp only [spec_l03Canon.l0]
      rw [if_pos (by omega)]
    · rw [if_neg h80]
      refine Ev.step (f := fun _ => some (acc ++ [])) (fun k => ?_) (Ev.now _)
      simp only [spec_l03Canon.l0, List.append_nil]
      rw [if_neg (by omega)]
theorem ev_canon (g : Nat → Bool) : Ev (fun k => spec_l03Canon.f k (bl g)) (canon g) := by
  have h := ev_c0 g 80 0 [] (by omega) (by omega) (by simp)
  exact h
/-! the test -/
theorem spec_okR (r : Rc) : spec_IsValidRect.f r.f0 r.f1 r.f2 r.f3 = some (okR r) := by
  unfold spec_IsValidRect.f okR
  by_cases a : -40 ≤ r.f0 <;> by_cases b : r.f0 < r.f2 <;> by_cases c : r.f2 ≤ 40 <;> by_cases d : -40 ≤ r.f1 <;> by_cases e : r.f1 < r.f3 <;> simp [a, b, c, d, e]
def vals' (l : List Rc) : Bool := decide (l.length ≤ 3200) && l.all okR
theorem ev_valid0 (l : List Rc) (hl : l.length ≤ 2000000) : ∀ (d i : Nat), i + d = l.length → Ev (fun k => spec_l03Valid.l0 k l i) ((l.drop i).all okR)
  | 0, i, h => by
    rw [List.drop_eq_nil_of_le (by omega)]
    refine Ev.step (f := fun _ => some true) (fun k => ?_) (Ev.now true)
    simp only [spec_l03Valid.l0]
    rw [if_neg (by omega)]
  | d + 1, i, h => by
    have hi : i < l.length := by omega
    rw [List.drop_eq_getElem_cons hi, List.all_cons]
    cases ho : okR l[i] with
    | false =>
      refine Ev.step (f := fun _ => some false) (fun k => ?_) (Ev.now false)
      simp only [spec_l03Valid.l0]
      rw [if_pos (by omega), if_pos (by omega), rdS l i hi, spec_okR, ho, Option.bind_some, if_neg (by decide)]
    | true =>
      refine Ev.step (fun k => ?_) (ev_valid0 l hl d (i + 1) (by omega))
      simp only [spec_l03Valid.l0]
      rw [if_pos (by omega), if_pos (by omega), rdS l i hi, spec_okR, ho, Option.bind_some, if_pos rfl, wrap_up i (by omega)]
theorem ev_valid (l : List Rc) (hl : l.length ≤ 2000000) : Ev (fun k => spec_l03Valid.f k l) (vals' l) := by
  unfold vals'
  by_cases h : l.length ≤ 3200
  · rw [decide_eq_true h, Bool.true_and]
    refine Ev.congr (fun k => ?_) (ev_valid0 l hl l.length 0 (by omega))
    unfold spec_l03Valid.f
    rw [if_neg (by omega)]
    rfl
  · rw [decide_eq_false h, Bool.false_and]
    refine Ev.congr (f := fun _ => some false) (fun k => ?_) (Ev.now _)
    unfold spec_l03Valid.f
    rw [if_pos (by omega)]
theorem ev_same0 (l m : List Rc) (hl : l.length ≤ 2000000) (hm : l.length = m.length) : ∀ (d i : Nat), i + d = l.length → Ev (fun k => spec_l03Same.l0 k l m i) (decide (l.drop i = m.drop i))
  | 0, i, h => by
    rw [List.drop_eq_nil_of_le (by omega), List.drop_eq_nil_of_le (by omega)]
    refine Ev.step (f := fun _ => some true) (fun k => ?_) (Ev.now true)
    simp only [spec_l03Same.l0]
    rw [if_neg (by omega)]
  | d + 1, i, h => by
    have hi : i < l.length := by omega
    have hi2 : i < m.length := by omega
    have hc : (!((l[i].f0) == (m[i].f0)) || (!((l[i].f1) == (m[i].f1)) || (!((l[i].f2) == (m[i].f2)) || (!((l[i].f3) == (m[i].f3)))))) = !decide (l[i] = m[i]) := by
      generalize l[i] = a
      generalize m[i] = b
      obtain ⟨a0, a1, a2, a3⟩ := a
      obtain ⟨b0, b1, b2, b3⟩ := b
      rw [Bool.eq_iff_iff]
      by_cases h0 : a0 = b0 <;> by_cases h1 : a1 = b1 <;> by_cases h2 : a2 = b2 <;> by_cases h3 : a3 = b3 <;> simp [h0, h1, h2, h3]
    rw [List.drop_eq_getElem_cons hi, List.drop_eq_getElem_cons hi2]
    by_cases he : l[i] = m[i]
    · rw [show decide (l[i] :: l.drop (i + 1) = m[i] :: m.drop (i + 1)) = decide (l.drop (i + 1) = m.drop (i + 1)) from by rw [decide_eq_decide, List.cons.injEq]; exact ⟨fun h => h.2, fun h => ⟨he, h⟩⟩]
      refine Ev.step (fun k => ?_) (ev_same0 l m hl hm d (i + 1) (by omega))
      simp only [spec_l03Same.l0]
      rw [if_pos (by omega), if_pos (by omega), if_pos (by omega), rdS l i hi, rdS m i hi2, hc, decide_eq_true he, if_neg (by decide), wrap_up i (by omega)]
    · rw [show decide (l[i] :: l.drop (i + 1) = m[i] :: m.drop (i + 1)) = false from by rw [decide_eq_false_iff_not, List.cons.injEq]; exact fun h => he h.1]
      refine Ev.step (f := fun _ => some false) (fun k => ?_) (Ev.now false)
      simp only [spec_l03Same.l0]
      rw [if_pos (by omega), if_pos (by omega), if_pos (by omega), rdS l i hi, rdS m i hi2, hc, decide_eq_false he, if_pos (by decide)]
theorem ev_same (l m : List Rc) (hl : l.length ≤ 2000000) : Ev (fun k => spec_l03Same.f k l m) (decide (l = m)) := by
  by_cases hm : l.length = m.length
  · refine Ev.congr (fun k => ?_) (ev_same0 l m hl hm l.length 0 (by omega))
    unfold spec_l03Same.f
    rw [if_pos (by omega)]
    rfl
  · refine Ev.congr (f := fun _ => some (decide (l = m))) (fun k => ?_) (Ev.now _)
    unfold spec_l03Same.f
    rw [if_neg (by omega), decide_eq_false (fun e => hm (by rw [e]))]
theorem area_f {r : Rc} (h : okR r = true) : spec_RectArea.f r.f0 r.f1 r.f2 r.f3 = some (area r) := by
  have hb := okR_b h
  have ha := area_pos h
  unfold spec_RectArea.f
  rw [spec_okR, h, Option.bind_some, if_pos rfl, w64s (x := r.f2 - r.f0) (by omega) (by omega), w64s (x := r.f3 - r.f1) (by omega) (by omega)]
  unfold area at *
  rw [w64s (by omega) (by omega)]
theorem ev_ok0 (l : List Rc) (hl : l.length ≤ 3200) (hok : ∀ r ∈ l, okR r = true) : ∀ (d i : Nat) (s : Int), i + d = l.length → 0 ≤ s → s ≤ 6400 * i → Ev (fun k => spec_l03Ok.l0 k l s i) (decide (s + areas (l.drop i) ≤ 6400) && decide (canon (cov l) = l))
  | 0, i, s, h, h0, h1 => by
    rw [List.drop_eq_nil_of_le (by omega)]
    by_cases hs : s ≤ 6400
    · rw [decide_eq_true (by simpa [areas] using hs), Bool.true_and]
      refine Ev.step (fun k => ?_) (Ev.bind (f := fun k t => (spec_l03Canon.f k t).bind fun t154 => ((spec_l03Same.f k t154 l).bind fun t157 => (some t157))) (ev_bits (by omega) hok) (Ev.bind (ev_canon (cov l)) (Ev.bind (ev_same (canon (cov l)) l (by have := canon_len (cov l); omega)) (Ev.now _))))
      simp only [spec_l03Ok.l0]
      rw [if_neg (by omega), if_pos hs]
    · rw [decide_eq_false (by simpa [areas] using hs), Bool.false_and]
      refine Ev.step (f := fun _ => some false) (fun k => ?_) (Ev.now false)
      simp only [spec_l03Ok.l0]
      rw [if_neg (by omega), if_neg hs]
  | d + 1, i, s, h, h0, h1 => by
    have hi : i < l.length := by omega
    have hr := hok _ (List.getElem_mem hi)
    have ha := area_pos hr
    have e : s + areas (l.drop i) = (s + area l[i]) + areas (l.drop (i + 1)) := by
      rw [List.drop_eq_getElem_cons hi]; simp only [areas, List.map_cons, List.sum_cons]; omega
    rw [e]
    have hw : wrap64 (s + area l[i]) = s + area l[i] := by unfold wrap64; omega
    refine Ev.step (fun k => ?_) (ev_ok0 l hl hok d (i + 1) (s + area l[i]) (by omega) (by omega) (by omega))
    simp only [spec_l03Ok.l0]
    rw [if_pos (by omega), if_pos (by omega), rdS l i hi, area_f hr, Option.bind_some, hw, wrap_up i (by omega)]
theorem ev_ok (l : List Rc) (hl : l.length ≤ 2000000) : Ev (fun k => spec_l03Ok.f k l) (isReg l) := by
  refine Ev.congr (fun k => by unfold spec_l03Ok.f; rfl) (Ev.bind (ev_valid l hl) ?_)
  cases hv : vals' l with
  | false =>
    have : isReg l = false := by show (vals' l && _) = false; rw [hv, Bool.false_and]
    rw [this]
    simp only [Bool.false_eq_true, if_false]
    exact Ev.now _
  | true =>
    have hi : isReg l = decide (canon (cov l) = l) := by show (vals' l && _) = _; rw [hv, Bool.true_and]
    have hv2 := hv
    unfold vals' at hv2
    rw [Bool.and_eq_true, decide_eq_true_eq, List.all_eq_true] at hv2
    have h := ev_ok0 l hv2.1 hv2.2 l.length 0 0 (by omega) (by omega) (by omega)
    have e : (decide ((0 : Int) + areas (l.drop 0) ≤ 6400) && decide (canon (cov l) = l)) = isReg l := by
      rw [hi]
      by_cases hc : canon (cov l) = l
      · have := canon_area (cov l)
        rw [hc] at this
        rw [decide_eq_true (by simpa using this), Bool.true_and]
      · rw [decide_eq_false hc, Bool.and_false]
    rw [e] at h
    simp only [if_true]
    exact h
end Go.Proofs.Ytncjjplpenjghaa.G

/-! ### RegLaw -/
/- The laws on regions, the plain side: sizes, copies, equality of [][]Rect and []Rect. -/
set_option linter.unusedVariables false
set_option linter.unusedSimpArgs false
namespace Go.Proofs.Ytncjjplpenjghaa.G
open Go.RowKit Go.Proofs.Ytncjjplpenjghaa.P Go.Proofs.Ytncjjplpenjghaa.H Go.Proofs.YtncjjplpenjghaaW.PrintWords Go.Proofs.YtncjjplpenjghaaW.PrintLast
abbrev Lc := S81
theorem rdL (l : List Lc) (i : Nat) (h : i < l.length) : rd_T81 l (i : Int) = l[i] := by simp [rd_T81, List.getD_eq_getElem?_getD, h]
theorem rdLL (l : List (List Lc)) (i : Nat) (h : i < l.length) : rd_L2 l (i : Int) = l[i] := by simp [rd_L2, List.getD_eq_getElem?_getD, h]
theorem rdRR (l : List (List Rc)) (i : Nat) (h : i < l.length) : rd_L5 l (i : Int) = l[i] := by simp [rd_L5, List.getD_eq_getElem?_getD, h]
/-- What the size test leaves. -/
def SmallL (l : List (List Lc)) : Prop := l.length ≤ 1048576 ∧ ∀ x ∈ l, x.length ≤ 1048576
theorem sz1 (l : List Lc) (a : Int) (h0 : 0 ≤ a) (h1 : a ≤ 1048576) (hl : l.length ≤ 9223372036854775807) : ∃ r : Int, laws_szRectS.f l a = some r ∧ (r < 0 ∨ (0 ≤ r ∧ r = a - l.length ∧ (l.length : Int) ≤ a)) := by
  unfold laws_szRectS.f
  rcases size_off l.length a h0 h1 hl with hs | ⟨hs, hle⟩
  · exact ⟨-1, by rw [if_pos hs], .inl (by omega)⟩
  · exact ⟨a - l.length, by rw [hs, if_neg (by omega)], .inr ⟨by omega, rfl, hle⟩⟩
theorem ev_szL (l : List (List Lc)) (hl : l.length ≤ 1048576) (hm : ∀ x ∈ l, x.length ≤ 9223372036854775807) : ∀ (d i : Nat) (a : Int), 0 ≤ a → a ≤ 1048576 → i + d = l.length → ∃ r : Int, Ev (fun k => laws_szRectSS.l0 k l a i) r ∧ (r < 0 ∨ (0 ≤ r ∧ r ≤ 1048576 ∧ ∀ x ∈ l.drop i, x.length ≤ 1048576))
  | 0, i, a, h0, h1, h => ⟨a, by
      refine Ev.step (f := fun _ => some a) (fun k => ?_) (Ev.now a)
      simp only [laws_szRectSS.l0]
      rw [if_neg (by omega)], .inr ⟨h0, h1, by rw [List.drop_eq_nil_of_le (by omega)]; simp⟩⟩
  | d + 1, i, a, h0, h1, h => by
    have hi : i < l.length := by omega
    obtain ⟨b, hb, hc⟩ := sz1 l[i] a h0 h1 (hm _ (List.getElem_mem hi))
    rcases hc with hc | ⟨b0, b1, hle⟩
    · refine ⟨-1, ?_, .inl (by omega)⟩
      refine Ev.step (f := fun _ => some (-1)) (fun k => ?_) (Ev.now _)
      simp only [laws_szRectSS.l0]
      rw [if_pos (by omega), if_pos (by omega), rdLL l i hi, hb, Option.bind_some, if_pos hc]
    · obtain ⟨r, hr, hc⟩ := ev_szL l hl hm d (i + 1) b (by omega) (by omega) (by omega)
      refine ⟨r, ?_, ?_⟩
      · refine Ev.step (fun k => ?_) hr
        simp only [laws_szRectSS.l0]
        rw [if_pos (by omega), if_pos (by omega), rdLL l i hi, hb, Option.bind_some, if_neg (by omega), wrap_up i (by omega)]
      · rcases hc with hc | ⟨c1, c2, c3⟩
        · exact .inl hc
        · refine .inr ⟨c1, c2, ?_⟩
          rw [List.drop_eq_getElem_cons hi]
          intro x hx
          rcases List.mem_cons.1 hx with rfl | hx
          · omega
          · exact c3 x hx
theorem ev_szSS (l : List (List Lc)) (a : Int) (h0 : 0 ≤ a) (h1 : a ≤ 1048576) (hl : l.length ≤ 9223372036854775807) (hm : ∀ x ∈ l, x.length ≤ 9223372036854775807) :
    ∃ r : Int, Ev (fun k => laws_szRectSS.f k l a) r ∧ (r < 0 ∨ (0 ≤ r ∧ r ≤ 1048576 ∧ SmallL l)) := by
  rcases size_off l.length a h0 h1 hl with hs | ⟨hs, hle⟩
  · refine ⟨-1, ?_, .inl (by omega)⟩
    refine Ev.congr (f := fun _ => some (-1)) (fun k => ?_) (Ev.now _)
    simp only [laws_szRectSS.f]
    rw [if_pos hs]
  · obtain ⟨r, hr, hc⟩ := ev_szL l (by omega) hm l.length 0 (a - l.length) (by omega) (by omega) (by omega)
    refine ⟨r, Ev.congr (fun k => ?_) hr, ?_⟩
    · simp only [laws_szRectSS.f]
      rw [hs, if_neg (by omega)]
      rfl
    · rcases hc with hc | ⟨c1, c2, c3⟩
      · exact .inl hc
      · exact .inr ⟨c1, c2, by omega, by simpa using c3⟩
/-- The rectangle as the program has it. -/
def toR (e : Lc) : Rc := ⟨e.f0, e.f1, e.f2, e.f3⟩
theorem ev_toS (l : List Lc) (hl : l.length ≤ 1048576) : Ev (fun k => laws_toRectS.f k l) (l.map toR) := by
  have h := gen_to rd_T81 rdL (fun _ e => laws_toRect.f e.f0 e.f1 e.f2 e.f3) (fun e => (e.f0, e.f1, e.f2, e.f3)) (fun b => (⟨b.1, b.2.1, b.2.2.1, b.2.2.2⟩ : Rc)) laws_toRectS.l0 (fun k x y i => rfl) l z75 (by omega) (fun e _ => Ev.const rfl) l.length 0 (by omega)
  refine Ev.congr (fun k => ?_) h
  simp only [laws_toRectS.f]
  rw [if_pos (by omega), if_pos (by omega), Int.toNat_natCast]
  rfl
theorem ev_toSS (l : List (List Lc)) (hs : SmallL l) : Ev (fun k => laws_toRectSS.f k l) (l.map fun x => x.map toR) := by
  have h := gen_to rd_L2 rdLL laws_toRectS.f (fun x => x.map toR) id laws_toRectSS.l0 (fun k x y i => rfl) l [] (by have := hs.1; omega) (fun e he => ev_toS e (hs.2 e he)) l.length 0 (by omega)
  refine Ev.congr (fun k => ?_) h
  have := hs.1
  simp only [laws_toRectSS.f]
  rw [if_pos (by omega), if_pos (by omega), Int.toNat_natCast]
  rfl
theorem ev_eqS (l : List Rc) (hl : l.length ≤ 1048576) : Ev (fun k => laws_eqRectS.f k l l) true := by
  have h := gen_eq rd_T75 rdS (fun _ a b => laws_eqRect.f a.f0 a.f1 a.f2 a.f3 b.f0 b.f1 b.f2 b.f3) laws_eqRectS.l0 (fun k x y i => rfl) l (by omega) (fun a _ => Ev.const (by simp [laws_eqRect.f]))
  refine Ev.congr (fun k => ?_) h
  simp only [laws_eqRectS.f]
  rw [if_pos trivial]
theorem ev_eqSS (l : List (List Rc)) (hl : l.length ≤ 1048576) (hm : ∀ x ∈ l, x.length ≤ 1048576) : Ev (fun k => laws_eqRectSS.f k l l) true := by
  have h := gen_eq rd_L5 rdRR laws_eqRectS.f laws_eqRectSS.l0 (fun k x y i => rfl) l (by omega) (fun a ha => ev_eqS a (hm a ha))
  refine Ev.congr (fun k => ?_) h
  simp only [laws_eqRectSS.f]
  rw [if_pos trivial]
end Go.Proofs.Ytncjjplpenjghaa.G

/-! ### PureFnExactIsLayout -/
/- FnExactIsLayout: the pure part. -/
set_option linter.unusedVariables false
namespace Go.Proofs.Ytncjjplpenjghaa.fnExactIsLayout
open Go.RowKit Go.Proofs.Ytncjjplpenjghaa.P Go.Proofs.Ytncjjplpenjghaa.G Go.Proofs.Ytncjjplpenjghaa.H Go.Proofs.YtncjjplpenjghaaW.PrintWords Go.Proofs.YtncjjplpenjghaaW.PrintLast
theorem ev_lay0 (l : List (List Rc)) (hl : l.length ≤ 1000) (hm : ∀ x ∈ l, x.length ≤ 2000000) : ∀ (d i : Nat), i + d = l.length → Ev (fun k => spec_IsLayout.l0 k l i) ((l.drop i).all isReg)
  | 0, i, h => by
    rw [List.drop_eq_nil_of_le (by omega)]
    refine Ev.step (f := fun _ => some true) (fun k => ?_) (Ev.now true)
    simp only [spec_IsLayout.l0]
    rw [if_neg (by omega)]
  | d + 1, i, h => by
    have hi : i < l.length := by omega
    rw [List.drop_eq_getElem_cons hi, List.all_cons]
    have hx := ev_ok l[i] (hm _ (List.getElem_mem hi))
    refine Ev.step (f := fun k => (spec_l03Ok.f k l[i]).bind fun t159 => (if t159 = true then (spec_IsLayout.l0 k l ((i + 1 : Nat) : Int)) else (some false))) (fun k => ?_) (Ev.bind hx ?_)
    · simp only [spec_IsLayout.l0]
      rw [if_pos (by omega), if_pos (by omega), rdRR l i hi, wrap_up i (by omega)]
    · cases ho : isReg l[i] with
      | false => simp only [Bool.false_eq_true, if_false, Bool.false_and]; exact Ev.now _
      | true => simp only [if_true, Bool.true_and]; exact ev_lay0 l hl hm d (i + 1) (by omega)
theorem ev_lay (l : List (List Rc)) (hm : ∀ x ∈ l, x.length ≤ 2000000) : Ev (fun k => spec_IsLayout.f k l) (isLay l) := by
  unfold isLay
  by_cases h : l.length = 8
  · rw [decide_eq_true h, Bool.true_and]
    refine Ev.congr (fun k => ?_) (ev_lay0 l (by omega) hm l.length 0 (by omega))
    unfold spec_IsLayout.f
    rw [if_pos (by omega)]
    rfl
  · rw [decide_eq_false h, Bool.false_and]
    refine Ev.congr (f := fun _ => some false) (fun k => ?_) (Ev.now _)
    unfold spec_IsLayout.f
    rw [if_neg (by omega)]
theorem pure : Stm := by
  intro l0 hI
  obtain ⟨h0, h1⟩ := hI
  obtain ⟨r, hr, hc⟩ := ev_szSS l0 1048576 (by omega) (by omega) h0 (fun x hx => (h1 x hx).1)
  refine Ev.rounds (Ev.congr (fun k => by unfold laws_FnExactIsLayout.f; rfl) (Ev.bind hr ?_))
  by_cases hneg : r < 0
  · simp only [hneg, if_true]
    exact Ev.now _
  · simp only [hneg, if_false]
    obtain ⟨_, _, hs⟩ := hc.resolve_left hneg
    have hm : ∀ x ∈ l0.map (fun x => x.map toR), x.length ≤ 1048576 := by
      intro x hx
      obtain ⟨y, hy, rfl⟩ := List.mem_map.1 hx
      rw [List.length_map]
      exact hs.2 y hy
    have hf : impl_IsLayout.f (l0.map fun x => x.map toR) = some (isLay (l0.map fun x => x.map toR)) := by
      unfold impl_IsLayout.f
      rw [if_pos]
      exact List.all_eq_true.2 (fun x hx => decide_eq_true (by have := hm x hx; omega))
    refine Ev.bind (ev_toSS _ hs) (Ev.bind (ev_lay _ (fun x hx => by have := hm x hx; omega)) (Ev.bind (ev_toSS _ hs) (Ev.bind (Ev.const hf) ?_)))
    simp only [bne_self_eq_false, Bool.false_eq_true, if_false]
    refine Ev.bind (ev_toSS _ hs) (Ev.bind (ev_eqSS _ (by rw [List.length_map]; exact hs.1) hm) ?_)
    simp only [if_true]
    exact Ev.now _
end Go.Proofs.Ytncjjplpenjghaa.fnExactIsLayout

/-! ### LawFnExactIsLayout -/
/- FnExactIsLayout: for every input the law returns true and leaves its arguments as they were. Conditions: none. -/
namespace Go.Proofs.Ytncjjplpenjghaa.fnExactIsLayout
open Go.ChangeShapes Go.WideShapes Go.ChangeAt Go.RowKit Go.Proofs.Ytncjjplpenjghaa.P Go.Proofs.YtncjjplpenjghaaW.PrintWords Go.Proofs.YtncjjplpenjghaaW.PrintLast
set_option linter.unusedVariables false
theorem own : ownKnob Try.prog.godebug = none := by kernel_rfl
theorem laidOut : laidOutB Try.prog = true := by kernel_rfl
theorem fine22 : Try.prog.readableRec 22 = true := by kernel_rfl
theorem there22 : 22 < Try.prog.types.size := of_decide_eq_true (by kernel_rfl)
set_option maxRecDepth 100000 in
theorem lifted (os : Os) (started : os.Started) (H : Type) (enc : TypeId × Value → H) :
    ReturnsInHanded {} Try.checked os 3 .any (Rows.fnExactIsLayoutSpec.pre6 enc Try.prog Try.f3 Rows.fnExactIsLayoutRow.domain false) (Rows.fnExactIsLayoutSpec.post enc Try.prog Try.f3 false true false false) := by
  refine returnsInHanded_of_change_sized (C := Try.checked) own started (by kernel_rfl) Try.func3
    (ChangeSpec.witness6 (enc := enc) (C := Try.checked) false ⟨#[], #[.slice none 0 0], []⟩ 8 (by kernel_rfl) (by kernel_rfl) (by kernel_rfl) (by kernel_rfl)) ?_
  intro W base args ds gs before hval0 hW hcnd hsz0 _
  have hval : ∀ (j : Nat) t v, Try.f3.params[j]? = some t → args[j]? = some v → Value.okWide Try.prog W .any base t v := hval0
  have hW' := hW
  obtain ⟨p, q, hA0, hV, rfl, hfz, hnd⟩ := hW
  have hA : DataW.TrodAll enc Try.prog W 0 (fun _ => true) true Try.f3.params.toList args.toList ds p := hA0
  rw [Try.params3] at hA hval
  obtain ⟨v0, vs0, d0, ds0, p0, q0, hargs, rfl, rfl, h0, r0⟩ := trodAll_cons hA
  obtain ⟨rfl, rfl, rfl⟩ := trodAll_nil r0
  obtain rfl : args = #[v0] := by cases args; simp_all
  obtain ⟨rfl, rfl⟩ := trodVars_none hV
  have lt0 : ∀ x ∈ p0, x.block < W.heap.size := by obtain ⟨m, hm⟩ := h0; exact DataW.trod_lt m _ _ _ hm
  obtain ⟨y0, ky0, iy0⟩ := opens22.arg h0
  obtain ⟨a0, len0, cap0, rfl⟩ := okWide_slice Try.underlying22 (hval 0 22 v0 rfl rfl)
  obtain ⟨A0, c0, e0, hc0, hr0⟩ := ky0
  simp only [Value.cells, List.cons.injEq, Value.slice.injEq, and_true] at e0
  obtain ⟨rfl, rfl, rfl⟩ := e0
  obtain ⟨k, hk⟩ := pure y0 iy0
  refine (laws_FnExactIsLayout.calls k _ _ y0 true W hr0 hc0 hk).mono ?_
  rintro e W' ⟨rfl, bel⟩
  exact ⟨_, rfl, _, _, _, [], _, [], hW', trodAll_mk1 (shut_bool Try.underlying4 _), (trodAll_cons_mk (Below.trod laidOut fine22 there22 h0 bel lt0) trodAll_mk0), rfl, bel.frame _, fun h => by cases h⟩
theorem over : Rows.fnExactIsLayoutRow.holds Try.pinned (OpenSpec.ofChange Rows.fnExactIsLayoutSpec) :=
  OpenClaim.holds_of_wide 3 Try.f3 rfl rfl rfl rfl rfl rfl rfl ⟨rfl, rfl, rfl, rfl, rfl⟩ rfl rfl rfl rfl rfl (by kernel_rfl) Try.func3 (by kernel_rfl)
    (of_decide_eq_true (by kernel_rfl)) (by unfold Func.isWrapper; first | (rw [if_pos (by decide +kernel)]; kernel_rfl) | (rw [if_neg (by decide +kernel)]; exact ⟨rfl, rfl⟩))
    (fun os started H enc _ => lifted os started H enc)
theorem proved : Rows.FnExactIsLayoutSaid := over
#print axioms proved
end Go.Proofs.Ytncjjplpenjghaa.fnExactIsLayout
namespace Go.Proofs.Ytncjjplpenjghaa
/-- The row, under a short name, for the claim. -/
theorem fnExactIsLayout_holds : Rows.FnExactIsLayoutSaid := fnExactIsLayout.proved
end Go.Proofs.Ytncjjplpenjghaa
