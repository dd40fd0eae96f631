/- composed: the orientation of two orientations, one after the other; walked by hand, for orientations 0 to 7. -/
import Derived.Test.YteepckjegpnffaaBox
import Derived.Test.YteepckjegpnffaaPx0
set_option linter.unusedVariables false
set_option linter.unusedSimpArgs false
namespace Go.Proofs.Yteepckjegpnffaa.Q
/-- Two orientations, one after the other. -/
def cmpo (a b : Int) : Int := if b ≥ 4 then (if a ≥ 4 then (b % 4 + 4 - a) % 4 else (b % 4 + 4 - a) % 4 + 4) else (if a ≥ 4 then (b + a) % 4 + 4 else (b + a) % 4)
end Go.Proofs.Yteepckjegpnffaa.Q
namespace Go.Proofs.Yteepckjegpnffaa.P
open Go.RowKit Go.Proofs.Yteepckjegpnffaa.H Go.Proofs.Yteepckjegpnffaa.Q Go.Proofs.YteepckjegpnffaaW.PrintWords Go.Proofs.YteepckjegpnffaaW.PrintLast
theorem ret_int {k : IntKind} {a b : Int} (h : a = b) : Ending.returned (.int k a) = .returned (.int k b) := by rw [h]
def impl_composed.f (a0 a1 : Int) : Option Int := if 0 ≤ a0 ∧ a0 ≤ 7 ∧ 0 ≤ a1 ∧ a1 ≤ 7 then some (cmpo a0 a1) else none
set_option maxHeartbeats 400000 in
theorem impl_composed.calls (a0 a1 r : Int) (w : World) (h : impl_composed.f a0 a1 = some r) :
    Calls Try.prog 111 #[.int .i64 a0, .int .i64 a1] w fun e w' => e = .returned (.int .i64 r) ∧ Drawn0 w w' := by
  unfold impl_composed.f at h
  split at h
  · rename_i hb
    obtain ⟨h0, h1, h2, h3⟩ := hb
    have hr := Option.some.inj h
    clear h
    have HR := Lib.hid hr
    clear hr
    by_cases ha : 4 ≤ a0 <;> by_cases hb : 4 ≤ a1
    all_goals
      go_enter Try.func111, Try.ntmps111
      go_wp2
      go_ret
      refine ⟨ret_int ?_, Drawn0.refl _⟩
      rw [← HR.out]
      unfold cmpo
      repeat' split
      all_goals omega
  · cases h
end Go.Proofs.Yteepckjegpnffaa.P
