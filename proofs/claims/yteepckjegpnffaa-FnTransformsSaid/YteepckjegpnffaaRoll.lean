/- The drawn numbers' source and the laws' dice: how they are made from a code (l01From, roll), walked by hand. -/
import Derived.Test.YteepckjegpnffaaBox
import Derived.Test.YteepckjegpnffaaPx38
import Derived.BigRegion
import Derived.Lib.Hide
set_option linter.unusedVariables false
set_option linter.unusedSimpArgs false
namespace Go.Proofs.Yteepckjegpnffaa.Q
open Go.RowKit Go.Proofs.Yteepckjegpnffaa.H Go.Proofs.Yteepckjegpnffaa.P Go.Proofs.YteepckjegpnffaaW.PrintWords Go.Proofs.YteepckjegpnffaaW.PrintLast
def rollStep (s b : Int) : Int := IntKind.u64.wrap (IntKind.u64.wrap (IntKind.u64.wrap (s * 1099511628211) + IntKind.u64.wrap b) + 3)
def rollAt (l : List Int) (a : Int) : Int := IntKind.u64.wrap (IntKind.u64.wrap (a * 7919) + (l.length : Int))
def rollOf (l : List Int) (a : Int) : Int := l.foldl rollStep (rollAt l a)
def DRel (A0 : Option Addr) (c0 : Nat) (l0 : List Int) (a1 : Int) (w0 w : World) (v : Value) (w' : World) : Prop := ∃ k : Nat, k ≤ l0.length ∧ v = .int .i64 k ∧ Below w0.heap.size w0 w' ∧ Below w.heap.size w w' ∧ Box w' w.heap.size #[.slice A0 l0.length c0, .int .i64 0, .int .u64 ((l0.take k).foldl rollStep (rollAt l0 a1))] 106
theorem DRel.next {A0 : Option Addr} {c0 k : Nat} {l0 : List Int} {w0 w w' : World} {s b a1 : Int} (hk : k < l0.length) (hb : l0[k] = b) (hs : (l0.take k).foldl rollStep (rollAt l0 a1) = s) (h0 : Below w0.heap.size w0 w') (h1 : Below w.heap.size w w') (hsz : w0.heap.size ≤ w.heap.size)
    (hx : Box w' w.heap.size #[.slice A0 l0.length c0, .int .i64 0, .int .u64 s] 106) : DRel A0 c0 l0 a1 w0 w (.int .i64 (↑k + 1)) (w'.setCell ⟨w.heap.size, 2, none⟩ (.int .u64 (IntKind.u64.wrap (IntKind.u64.wrap (IntKind.u64.wrap (s * 1099511628211) + IntKind.u64.wrap b) + 3)))).drew :=
  ⟨k + 1, by omega, rfl, (h0.setCell hsz _).drew, (h1.setCell (Nat.le_refl _) _).drew, (hx.set 2 _ _ (by rw [List.take_succ_eq_append_getElem hk, hb, List.foldl_append, hs]; rfl)).drew⟩
set_option maxHeartbeats 400000 in
theorem roll_calls (A0 : Option Addr) (c0 : Nat) (l0 : List Int) (a1 : Int) (w0 w : World) (hB : Below w0.heap.size w0 w) (hr0 : Kd.C (Kd.int .u8) w0 A0 l0.length l0) (hc0 : l0.length ≤ c0) :
    Calls Try.prog 18 #[.slice A0 l0.length c0, .int .u64 a1] w fun e w' => ∃ g_ : Nat, e = .returned (.pointer (some ⟨g_, 0, none⟩)) ∧ Box w' g_ #[.slice A0 l0.length c0, .int .i64 0, .int .u64 (rollOf l0 a1)] 106 ∧ w0.heap.size ≤ g_ ∧ Below w0.heap.size w0 w' ∧ Below w.heap.size w w' := by
  have hm := Kd.C_max hr0
  have HR := Lib.hid hr0
  have HB := Lib.hid hB
  have hsz := hB.size
  clear hr0 hB
  go_enter Try.func18, Try.ntmps18
  go_wp2_with (first | ((with_reducible refine gate_dst (N := 15) rfl ?_); refine box_event rfl (N := 15) rfl (cs := #[.slice A0 l0.length c0, .int .i64 0, .int .u64 (IntKind.u64.wrap (IntKind.u64.wrap (a1 * 7919) + (l0.length : Int)))]) (t := 106) ?hr ?_; (case hr => first | (go_simp; done) | (go_simp; rfl)); intro gb hg w1 hbox hb))
  subst hg
  go_loopw [6] (fun v w' => DRel A0 c0 l0 a1 w0 w v w') (fun v _ => l0.length - (intOf v).toNat)
  case atStart => exact ⟨0, by omega, rfl, HB.out.trans (hb.mono hsz), hb, hbox⟩
  case round =>
    clear hbox hb
    obtain ⟨k, hk, rfl, hb0, hb1, hbox⟩ := hrel
    have HB0 := Lib.hid hb0
    have HB1 := Lib.hid hb1
    have HX := Lib.hid hbox
    have f2 := hbox.cell 2 _ rfl
    have fz := hbox.frozen 2
    clear hb0 hb1 hbox
    generalize hs : (l0.take k).foldl rollStep (rollAt l0 a1) = s at *
    have HS := Lib.hid hs
    clear hs
    by_cases hlt : k < l0.length
    · obtain ⟨ad, rfl, hc⟩ := byteCell (Kd.C_below HR.out HB0.out) k hlt
      generalize hb : l0[k] = b at *
      have HBb := Lib.hid hb
      clear hb
      go_wp2_with fail
      go_region
      all_goals
        go_wp2_with fail
        exact ⟨DRel.next hlt HBb.out HS.out HB0.out HB1.out hsz HX.out, by simp [intOf]; omega⟩
    · go_wp2_with fail
      go_ret
      exact ⟨_, rfl, by rw [show rollOf l0 a1 = s from by rw [← HS.out]; unfold rollOf; rw [List.take_of_length_le (by omega)]]; exact HX.out, hsz, HB0.out, HB1.out⟩
end Go.Proofs.Yteepckjegpnffaa.Q
namespace Go.Proofs.Yteepckjegpnffaa.P
open Go.RowKit Go.Proofs.Yteepckjegpnffaa.H Go.Proofs.Yteepckjegpnffaa.Q Go.Proofs.YteepckjegpnffaaW.PrintWords Go.Proofs.YteepckjegpnffaaW.PrintLast
def laws_roll.f (l0 : List Int) (a1 : Int) : Option (List Int × Int × Int) := some (l0, 0, rollOf l0 a1)
theorem laws_roll.calls (A0 : Option Addr) (c0 : Nat) (l0 : List Int) (a1 : Int) (r1 : List Int) (r2 : Int) (r3 : Int) (w0 w : World) (hB : Below w0.heap.size w0 w) (hr0 : Kd.C (Kd.int .u8) w0 A0 l0.length l0) (hc0 : l0.length ≤ c0) (h : laws_roll.f l0 a1 = some (r1, r2, r3)) :
    Calls Try.prog 18 #[.slice A0 l0.length c0, .int .u64 a1] w fun e w' => ∃ g_ : Nat, e = .returned (.pointer (some ⟨g_, 0, none⟩)) ∧ IsS106 w0 w' g_ r1 r2 r3 ∧ Below w0.heap.size w0 w' ∧ Below w.heap.size w w' := by
  simp only [laws_roll.f, Option.some.injEq, Prod.mk.injEq] at h
  obtain ⟨rfl, rfl, rfl⟩ := h
  refine (roll_calls A0 c0 l0 a1 w0 w hB hr0 hc0).mono ?_
  rintro e w' ⟨g, rfl, hx, hg, h0, h1⟩
  exact ⟨g, rfl, ⟨A0, c0, hx, hg, hr0⟩, h0, h1⟩
end Go.Proofs.Yteepckjegpnffaa.P
