/- IsValidPolygon, the reference's, walked by hand: it tells whether the polygon is valid. -/
import Derived.Test.YteepckjegpnffaaValidI
import Derived.BigQuiet
import Derived.BigRegion
import Derived.Deep.QuietTactic
import Derived.Lib.Hide
set_option linter.unusedVariables false
set_option linter.unusedSimpArgs false
namespace Go.Proofs.Yteepckjegpnffaa.Q
open Go.RowKit Go.Proofs.Yteepckjegpnffaa.P Go.Proofs.Yteepckjegpnffaa.H Go.Proofs.YteepckjegpnffaaW.PrintWords Go.Proofs.YteepckjegpnffaaW.PrintLast
def WRel (p : List S36) (w0 : World) (v : Value) (w' : World) : Prop := ∃ k : Nat, k ≤ p.length ∧ v = .int .i64 k ∧ (List.range k).all (okS p) = true ∧ Below w0.heap.size w0 w'
theorem WRel.next {p : List S36} {w0 w' : World} {k : Nat} (hk : k < p.length) (ha : (List.range k).all (okS p) = true) (ho : okS p k = true) (hb : Below w0.heap.size w0 w') : WRel p w0 (.int .i64 (↑k + 1)) w' :=
  ⟨k + 1, by omega, rfl, by rw [List.range_succ, List.all_append, ha, List.all_cons, List.all_nil, ho]; rfl, hb⟩
def PB (x y : Int) : Obj := .cells #[.int .i64 x, .int .i64 y] 36 (0, 0)
theorem threeBelow {w wr w3 : World} {A B C : Obj} (hb : Below w.heap.size w wr) (h3 : Below (((wr.alloc A).alloc B).alloc C).heap.size (((wr.alloc A).alloc B).alloc C) w3) : Below w.heap.size w w3 :=
  (((hb.alloc hb.size _).alloc (by simp; have := hb.size; omega) _).alloc (by simp; have := hb.size; omega) _).trans (h3.mono (by simp; have := hb.size; omega))
set_option maxHeartbeats 400000 in
theorem spec_valid_no (A0 : Option Addr) (c0 : Nat) (l0 : List S36) (w : World) (hr0 : Kd.C k36 w A0 l0.length l0) (hc0 : l0.length ≤ c0) (h : ¬ (4 ≤ l0.length ∧ l0.length ≤ 12800 ∧ l0.length % 2 = 0)) :
    Calls Try.prog 76 #[.slice A0 l0.length c0] w fun e w' => e = .returned (.bool false) ∧ Below w.heap.size w w' := by
  have hm := Kd.C_max hr0
  clear hr0
  by_cases h4 : l0.length < 4
  · go_enter Try.func76, Try.ntmps76
    go_wp2
    go_ret
    exact ⟨rfl, Below.refl _ _⟩
  · by_cases h5 : 12800 < l0.length
    · go_enter Try.func76, Try.ntmps76
      go_wp2
      go_ret
      exact ⟨rfl, Below.refl _ _⟩
    · have h2 : (((l0.length : Int) % 2) != 0) = true := by rw [bne_iff_ne]; omega
      go_enter Try.func76, Try.ntmps76
      go_wp2
      go_ret
      exact ⟨rfl, Below.refl _ _⟩
set_option maxRecDepth 100000 in
set_option maxHeartbeats 2000000 in
theorem spec_valid (A0 : Option Addr) (c0 : Nat) (l0 : List S36) (w : World) (hr0 : Kd.C k36 w A0 l0.length l0) (hc0 : l0.length ≤ c0) :
    Calls Try.prog 76 #[.slice A0 l0.length c0] w fun e w' => e = .returned (.bool (vp l0)) ∧ Below w.heap.size w w' := by
  by_cases h : 4 ≤ l0.length ∧ l0.length ≤ 12800 ∧ l0.length % 2 = 0
  · have HV := Lib.hid (show vp l0 = (List.range l0.length).all (okS l0) by unfold vp; rw [decide_eq_true h, Bool.true_and, List.range_eq_range', all_same l0 h.1 h.2.2])
    obtain ⟨h4, h5, h6⟩ := h
    have HR := Lib.hid hr0
    clear hr0
    have h2 : (((l0.length : Int) % 2) != 0) = false := by rw [bne_eq_false_iff_eq]; omega
    clear h6
    obtain ⟨ad, rfl, _, _⟩ := ptCells HR.out 0 (by omega)
    go_enter Try.func76, Try.ntmps76
    go_wp2_with fail
    clear h2
    go_loopw [4] (fun v w' => WRel l0 w v w') (fun v _ => l0.length - (intOf v).toNat)
    case atStart => exact ⟨0, by omega, rfl, rfl, Below.refl _ _⟩
    case round =>
      obtain ⟨k, hk, rfl, hall, hb⟩ := hrel
      have HA := Lib.hid hall
      have HB := Lib.hid hb
      clear hall hb
      by_cases hlt : k < l0.length
      · have hmlt : (k + 1) % l0.length < l0.length := Nat.mod_lt _ (by omega)
        have hmlt2 : (k + 2) % l0.length < l0.length := Nat.mod_lt _ (by omega)
        have hmod : ((k : Int) + 1) % (l0.length : Int) = (((k + 1) % l0.length : Nat) : Int) := (Int.natCast_emod (k + 1) l0.length).symm
        have hmod2 : ((k : Int) + 2) % (l0.length : Int) = (((k + 2) % l0.length : Nat) : Int) := (Int.natCast_emod (k + 2) l0.length).symm
        obtain ⟨_, e1, a0, a1⟩ := ptCells (Kd.C_below HR.out HB.out) k hlt
        cases e1
        obtain ⟨_, e2, b0, b1⟩ := ptCells (Kd.C_alloc (Kd.C_below HR.out HB.out) (.cells #[.int .i64 (X l0 k), .int .i64 (Y l0 k)] 36 (0, 0))) _ hmlt
        cases e2
        rw [X_mod] at b0
        rw [Y_mod] at b1
        obtain ⟨_, e3, c0', c1'⟩ := ptCells (Kd.C_alloc (Kd.C_alloc (Kd.C_below HR.out HB.out) (.cells #[.int .i64 (X l0 k), .int .i64 (Y l0 k)] 36 (0, 0))) (.cells #[.int .i64 (X l0 (k + 1)), .int .i64 (Y l0 (k + 1))] 36 (0, 0))) _ hmlt2
        cases e3
        rw [X_mod] at c0'
        rw [Y_mod] at c1'
        have hok : okS l0 k = (onC (X l0 k) (Y l0 k) && (((Y l0 k == Y l0 (k + 1)) && !(X l0 k == X l0 (k + 1)) && (X l0 (k + 1) == X l0 (k + 2)) && !(Y l0 (k + 1) == Y l0 (k + 2))) || ((X l0 k == X l0 (k + 1)) && !(Y l0 k == Y l0 (k + 1)) && (Y l0 (k + 1) == Y l0 (k + 2)) && !(X l0 (k + 1) == X l0 (k + 2))))) := rfl
        generalize (k + 1) % l0.length = m at *
        generalize (k + 2) % l0.length = m2 at *
        generalize X l0 k = ax at *
        generalize Y l0 k = ay at *
        generalize X l0 (k + 1) = bx at *
        generalize Y l0 (k + 1) = by_ at *
        generalize X l0 (k + 2) = cx at *
        generalize Y l0 (k + 2) = cy at *
        have n1 : (ay != by_) = !(ay == by_) := rfl
        have n2 : (ax != bx) = !(ax == bx) := rfl
        have n3 : (bx != cx) = !(bx == cx) := rfl
        have n4 : (by_ != cy) = !(by_ == cy) := rfl
        cases hc : onC ax ay <;> cases e1 : (ay == by_) <;> cases e2 : (ax == bx) <;> cases e3 : (bx == cx) <;> cases e4 : (by_ == cy)
        all_goals
          rw [hc, e1, e2, e3, e4] at hok
          rw [e1] at n1
          rw [e2] at n2
          rw [e3] at n3
          rw [e4] at n4
          have HC := Lib.hid ((spec_chip ax ay).trans (congrArg some hc))
          have HOK := Lib.hid hok
          clear hok hc
          go_wp2_with fail
          refine (spec_l01OnChip.calls ax ay _ _ HC.out).mono ?_
          rintro e w3 ⟨rfl, hb3⟩
          go_wp2_with fail
          first
          | (go_ret; rw [HV.out, all_no hlt HOK.out]; exact ⟨rfl, threeBelow HB.out hb3⟩)
          | exact ⟨WRel.next hlt HA.out HOK.out (threeBelow HB.out hb3), by simp [intOf]; omega⟩
      · go_wp2_with fail
        go_ret
        have e : k = l0.length := by omega
        subst e
        rw [HV.out, HA.out]
        exact ⟨rfl, HB.out⟩
  · have e : vp l0 = false := by unfold vp; rw [decide_eq_false h, Bool.false_and]
    rw [e]
    exact spec_valid_no A0 c0 l0 w hr0 hc0 h
end Go.Proofs.Yteepckjegpnffaa.Q
namespace Go.Proofs.Yteepckjegpnffaa.P
open Go.RowKit Go.Proofs.Yteepckjegpnffaa.Q Go.Proofs.YteepckjegpnffaaW.PrintWords Go.Proofs.YteepckjegpnffaaW.PrintLast
def spec_IsValidPolygon.f (l0 : List S36) : Option Bool := some (vp l0)
theorem spec_IsValidPolygon.calls (A0 : Option Addr) (c0 : Nat) (l0 : List S36) (r : Bool) (w : World) (hr0 : Kd.C k36 w A0 l0.length l0) (hc0 : l0.length ≤ c0) (h : spec_IsValidPolygon.f l0 = some r) :
    Calls Try.prog 76 #[.slice A0 l0.length c0] w fun e w' => e = .returned (.bool r) ∧ Below w.heap.size w w' := by
  obtain rfl := Option.some.inj h
  exact spec_valid A0 c0 l0 w hr0 hc0
end Go.Proofs.Yteepckjegpnffaa.P
