/- IsValidPolygon, the program's, walked by hand: it tells whether the polygon is valid. -/
import Derived.Test.YteepckjegpnffaaPolyBase
import Derived.BigQuiet
import Derived.BigRegion
import Derived.Deep.QuietTactic
import Derived.Lib.Hide
set_option linter.unusedVariables false
set_option linter.unusedSimpArgs false
namespace Go.Proofs.Yteepckjegpnffaa.Q
open Go.RowKit Go.Proofs.Yteepckjegpnffaa.P Go.Proofs.Yteepckjegpnffaa.H Go.Proofs.YteepckjegpnffaaW.PrintWords Go.Proofs.YteepckjegpnffaaW.PrintLast
def VRel (p : List S36) (w0 : World) (v : Value) (w' : World) : Prop := ∃ k : Nat, k ≤ p.length ∧ v = .int .i64 k ∧ (List.range k).all (okI p) = true ∧ Below w0.heap.size w0 w'
set_option maxHeartbeats 400000 in
theorem impl_valid_no (A0 : Option Addr) (c0 : Nat) (l0 : List S36) (w : World) (hr0 : Kd.C k36 w A0 l0.length l0) (hc0 : l0.length ≤ c0) (h : ¬ (4 ≤ l0.length ∧ l0.length ≤ 12800 ∧ l0.length % 2 = 0)) :
    Calls Try.prog 78 #[.slice A0 l0.length c0] w fun e w' => e = .returned (.bool false) ∧ Below w.heap.size w w' := by
  have hm := Kd.C_max hr0
  clear hr0
  by_cases h4 : l0.length < 4
  · go_enter Try.func78, Try.ntmps78
    go_wp2
    go_ret
    exact ⟨rfl, Below.refl _ _⟩
  · by_cases h5 : 12800 < l0.length
    · go_enter Try.func78, Try.ntmps78
      go_wp2
      go_ret
      exact ⟨rfl, Below.refl _ _⟩
    · have h2 : (((l0.length : Int) % 2) == 1) = true := by rw [beq_iff_eq]; omega
      go_enter Try.func78, Try.ntmps78
      go_wp2
      go_ret
      exact ⟨rfl, Below.refl _ _⟩
theorem VRel.next {p : List S36} {w0 w' : World} {k : Nat} (hk : k < p.length) (ha : (List.range k).all (okI p) = true) (ho : okI p k = true) (hb : Below w0.heap.size w0 w') : VRel p w0 (.int .i64 (↑k + 1)) w' :=
  ⟨k + 1, by omega, rfl, by rw [List.range_succ, List.all_append, ha, List.all_cons, List.all_nil, ho]; rfl, hb⟩
theorem all_no {p : Nat → Bool} {n k : Nat} (hk : k < n) (h : p k = false) : (List.range n).all p = false := by
  rw [Bool.eq_false_iff]
  intro ha
  rw [List.all_eq_true.1 ha k (List.mem_range.2 hk)] at h
  cases h
theorem twoBelow {w wr w3 : World} {A B : Obj} (hb : Below w.heap.size w wr) (h3 : Below ((wr.alloc A).alloc B).heap.size ((wr.alloc A).alloc B) w3) : Below w.heap.size w w3 :=
  ((hb.alloc hb.size _).alloc (by simp; have := hb.size; omega) _).trans (h3.mono (by simp; have := hb.size; omega))
theorem twoBoxes {wr w3 : World} {ax ay bx by_ : Int} {t u : Nat} (h3 : Below ((wr.alloc (.cells #[.int .i64 ax, .int .i64 ay] t (0, 0))).alloc (.cells #[.int .i64 bx, .int .i64 by_] u (0, 0))).heap.size ((wr.alloc (.cells #[.int .i64 ax, .int .i64 ay] t (0, 0))).alloc (.cells #[.int .i64 bx, .int .i64 by_] u (0, 0))) w3) :
    w3.cell? ⟨wr.heap.size, 0, none⟩ = some (.int .i64 ax) ∧ w3.cell? ⟨wr.heap.size, 1, none⟩ = some (.int .i64 ay) ∧ w3.cell? ⟨wr.heap.size + 1, 0, none⟩ = some (.int .i64 bx) ∧ w3.cell? ⟨wr.heap.size + 1, 1, none⟩ = some (.int .i64 by_) := by
  have b1 := ((Box.new wr #[.int .i64 ax, .int .i64 ay] t).alloc (.cells #[.int .i64 bx, .int .i64 by_] u (0, 0))).below h3
  have b2 := (Box.new (wr.alloc (.cells #[.int .i64 ax, .int .i64 ay] t (0, 0))) #[.int .i64 bx, .int .i64 by_] u).below h3
  rw [World.size_alloc] at b2
  exact ⟨b1.cell 0 _ rfl, b1.cell 1 _ rfl, b2.cell 0 _ rfl, b2.cell 1 _ rfl⟩
set_option maxHeartbeats 1000000 in
theorem impl_valid (A0 : Option Addr) (c0 : Nat) (l0 : List S36) (w : World) (hr0 : Kd.C k36 w A0 l0.length l0) (hc0 : l0.length ≤ c0) :
    Calls Try.prog 78 #[.slice A0 l0.length c0] w fun e w' => e = .returned (.bool (vp l0)) ∧ Below w.heap.size w w' := by
  by_cases h : 4 ≤ l0.length ∧ l0.length ≤ 12800 ∧ l0.length % 2 = 0
  · have HV := Lib.hid (show vp l0 = (List.range l0.length).all (okI l0) by unfold vp; rw [decide_eq_true h, Bool.true_and])
    obtain ⟨h4, h5, h6⟩ := h
    have HR := Lib.hid hr0
    clear hr0
    have h2 : (((l0.length : Int) % 2) == 1) = false := by rw [beq_eq_false_iff_ne]; omega
    have H6 := Lib.hid h6
    clear h6
    obtain ⟨ad, rfl, p0, p1⟩ := ptCells HR.out 0 (by omega)
    obtain ⟨ad', e', q0, q1⟩ := ptCells HR.out 1 (by omega)
    cases e'
    rw [Nat.zero_mul] at p0 p1
    rw [Nat.one_mul] at q0 q1
    have p0' : w.cell? ad = some (.int .i64 (X l0 0)) := p0
    have p1' : w.cell? ⟨ad.block, ad.off + 1, none⟩ = some (.int .i64 (Y l0 0)) := p1
    have q1' : w.cell? ⟨ad.block, ad.off + 2 + 1, none⟩ = some (.int .i64 (Y l0 1)) := q1
    have HL := Lib.hid (show hor l0 0 = (Y l0 0 == Y l0 1) from rfl)
    go_enter Try.func78, Try.ntmps78
    go_wp2_with fail
    go_region
    go_wp2_with fail
    clear p0 p1 q0 q1 p0' p1' q1' h2
    have HLV : Hid ((Y l0 0 == Y l0 1) = hor l0 0) := Lib.hid rfl
    rw [HLV.out]
    generalize hlv : hor l0 0 = lv
    have HLV2 := Lib.hid hlv
    clear hlv HLV HL
    go_loopw [32] (fun v w' => VRel l0 w v w') (fun v _ => l0.length - (intOf v).toNat)
    case atStart => exact ⟨0, by omega, rfl, rfl, (Below.refl _ _).drew⟩
    case round =>
      obtain ⟨k, hk, rfl, hall, hb⟩ := hrel
      have HA := Lib.hid hall
      have HB := Lib.hid hb
      clear hall hb
      by_cases hlt : k < l0.length
      · have hmlt : (k + 1) % l0.length < l0.length := Nat.mod_lt _ (by omega)
        have hmod : ((k : Int) + 1) % (l0.length : Int) = (((k + 1) % l0.length : Nat) : Int) := (Int.natCast_emod (k + 1) l0.length).symm
        obtain ⟨_, e1, a0, a1⟩ := ptCells (Kd.C_below HR.out HB.out) k hlt
        cases e1
        obtain ⟨_, e2, b0, b1⟩ := ptCells (Kd.C_alloc (Kd.C_below HR.out HB.out) (.cells #[.int .i64 (X l0 k), .int .i64 (Y l0 k)] 36 (0, 0))) _ hmlt
        cases e2
        rw [X_mod] at b0
        rw [Y_mod] at b1
        have hok : okI l0 k = (onC (X l0 k) (Y l0 k) && ((Y l0 k == Y l0 (k + 1)) != (X l0 k == X l0 (k + 1))) && ((Y l0 k == Y l0 (k + 1)) == (hor l0 0 == (k % 2 == 0)))) := rfl
        rw [HLV2.out] at hok
        have hpar : ((k : Int) % 2 == 0) = (k % 2 == 0) := by rw [Bool.eq_iff_iff, beq_iff_eq, beq_iff_eq]; omega
        generalize (k + 1) % l0.length = m at *
        generalize X l0 k = ax at *
        generalize Y l0 k = ay at *
        generalize X l0 (k + 1) = bx at *
        generalize Y l0 (k + 1) = by_ at *
        generalize (k % 2 == 0) = par at *
        cases hc : onC ax ay with
        | false =>
          rw [hc] at hok
          have HOK := Lib.hid hok
          have HC := Lib.hid ((impl_chip ax ay).trans (congrArg some hc))
          clear hok hc
          go_wp2_with fail
          refine (impl_onChip.calls ax ay false _ HC.out).mono ?_
          rintro e w3 ⟨rfl, hb3⟩
          go_wp2_with fail
          go_ret
          rw [HV.out, all_no hlt HOK.out]
          exact ⟨rfl, twoBelow HB.out hb3⟩
        | true =>
          rw [hc] at hok
          have HC := Lib.hid ((impl_chip ax ay).trans (congrArg some hc))
          clear hc
          cases e1 : (ay == by_) <;> cases e2 : (ax == bx) <;> cases lv <;> cases par
          all_goals
            rw [e1, e2] at hok
            have HOK := Lib.hid hok
            clear hok
            go_wp2_with fail
            refine (impl_onChip.calls ax ay true _ HC.out).mono ?_
            rintro e w3 ⟨rfl, hb3⟩
            obtain ⟨f0, f1, f2, f3⟩ := twoBoxes hb3
            go_wp2_with fail
            first
            | (go_ret; rw [HV.out, all_no hlt HOK.out]; exact ⟨rfl, twoBelow HB.out hb3⟩)
            | exact ⟨VRel.next hlt HA.out HOK.out (twoBelow HB.out hb3), by simp [intOf]; omega⟩
      · go_wp2_with fail
        go_ret
        have e : k = l0.length := by omega
        subst e
        rw [HV.out, HA.out]
        exact ⟨rfl, HB.out⟩
  · have e : vp l0 = false := by unfold vp; rw [decide_eq_false h, Bool.false_and]
    rw [e]
    exact impl_valid_no A0 c0 l0 w hr0 hc0 h
end Go.Proofs.Yteepckjegpnffaa.Q
namespace Go.Proofs.Yteepckjegpnffaa.P
open Go.RowKit Go.Proofs.Yteepckjegpnffaa.Q Go.Proofs.YteepckjegpnffaaW.PrintWords Go.Proofs.YteepckjegpnffaaW.PrintLast
def impl_IsValidPolygon.f (l0 : List S36) : Option Bool := some (vp l0)
theorem impl_IsValidPolygon.calls (A0 : Option Addr) (c0 : Nat) (l0 : List S36) (r : Bool) (w : World) (hr0 : Kd.C k36 w A0 l0.length l0) (hc0 : l0.length ≤ c0) (h : impl_IsValidPolygon.f l0 = some r) :
    Calls Try.prog 78 #[.slice A0 l0.length c0] w fun e w' => e = .returned (.bool r) ∧ Below w.heap.size w w' := by
  obtain rfl := Option.some.inj h
  exact impl_valid A0 c0 l0 w hr0 hc0
end Go.Proofs.Yteepckjegpnffaa.P
