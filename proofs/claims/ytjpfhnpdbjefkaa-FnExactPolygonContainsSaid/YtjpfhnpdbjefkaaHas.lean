/- has: a grid's unit cell, false for one that is not on the chip. -/
import Derived.Test.YtjpfhnpdbjefkaaPx43
import Derived.Test.YtjpfhnpdbjefkaaHand
import Derived.Lib.Hide
set_option linter.unusedVariables false
namespace Go.Proofs.Ytjpfhnpdbjefkaa.H
open Go.RowKit Go.Proofs.Ytjpfhnpdbjefkaa.P Go.Proofs.YtjpfhnpdbjefkaaW.PrintWords Go.Proofs.YtjpfhnpdbjefkaaW.PrintLast
def uc (x y : Int) : Bool := decide (-40 ≤ x ∧ x ≤ 39 ∧ -40 ≤ y ∧ y ≤ 39)
theorem unit_f (x y : Int) : impl_isUnitCell.f x y = some (uc x y) := by
  unfold impl_isUnitCell.f impl_within.f uc
  by_cases a : -40 ≤ x <;> by_cases b : x ≤ 39 <;> by_cases c : -40 ≤ y <;> by_cases d : y ≤ 39 <;> simp [a, b, c, d]
/-- The place of a unit cell in a grid. -/
def at_ (x y : Int) : Nat := (y + 40).toNat * 80 + (x + 40).toNat
def hasG (g : Nat → Bool) (x y : Int) : Bool := uc x y && g (at_ x y)
set_option maxHeartbeats 400000 in
theorem has_calls (b : Nat) (g : Nat → Bool) (x y : Int) (w : World) (hb : Grid w b g) :
    Calls Try.prog 43 #[.pointer (some ⟨b, 0, none⟩), .int .i64 x, .int .i64 y] w fun e w' => e = .returned (.bool (hasG g x y)) ∧ Below w.heap.size w w' := by
  have HB := Lib.hid hb
  clear hb
  by_cases h : -40 ≤ x ∧ x ≤ 39 ∧ -40 ≤ y ∧ y ≤ 39
  · have hu : uc x y = true := decide_eq_true h
    have HU := Lib.hid ((unit_f x y).trans (congrArg some hu))
    have HR := Lib.hid (show hasG g x y = g ((y + 40).toNat * 80 + (x + 40).toNat) by unfold hasG at_; rw [hu, Bool.true_and])
    clear hu
    obtain ⟨h0, h1, h2, h3⟩ := h
    go_enter Try.func43, Try.ntmps43
    go_wp2_with fail
    refine (impl_isUnitCell.calls x y true _ HU.out).mono ?_
    rintro e w1 ⟨rfl, hb1⟩
    have hc := (HB.out.below hb1).cell ((y + 40).toNat * 80 + (x + 40).toNat) (by omega)
    go_wp2_with fail
    go_ret
    rw [HR.out]
    exact ⟨rfl, hb1⟩
  · have hu : uc x y = false := decide_eq_false h
    have HU := Lib.hid ((unit_f x y).trans (congrArg some hu))
    have HR := Lib.hid (show hasG g x y = false by unfold hasG; rw [hu, Bool.false_and])
    clear hu h
    go_enter Try.func43, Try.ntmps43
    go_wp2_with fail
    refine (impl_isUnitCell.calls x y false _ HU.out).mono ?_
    rintro e w1 ⟨rfl, hb1⟩
    go_wp2_with fail
    go_ret
    rw [HR.out]
    exact ⟨rfl, hb1⟩
end Go.Proofs.Ytjpfhnpdbjefkaa.H
