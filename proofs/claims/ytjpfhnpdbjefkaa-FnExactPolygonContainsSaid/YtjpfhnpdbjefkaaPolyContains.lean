/- PolygonContains, the program's: proved by hand over its callees. -/
import Derived.Test.YtjpfhnpdbjefkaaQSides
import Derived.Test.YtjpfhnpdbjefkaaParity
import Derived.Test.YtjpfhnpdbjefkaaHas
set_option linter.unusedVariables false
namespace Go.Proofs.Ytjpfhnpdbjefkaa.Q
open Go.RowKit Go.Proofs.Ytjpfhnpdbjefkaa.P Go.Proofs.Ytjpfhnpdbjefkaa.H Go.Proofs.YtjpfhnpdbjefkaaW.PrintWords Go.Proofs.YtjpfhnpdbjefkaaW.PrintLast
/-- The unit cells inside a polygon, as a grid. -/
def insideG (p : List S47) : Nat → Bool := px (flips ((sides p).filter upright))
theorem vp_len {p : List S47} (h : vp p = true) : p.length ≤ 12800 := by
  unfold vp at h
  simp only [Bool.and_eq_true, decide_eq_true_eq] at h
  exact h.1.2.1
theorem vp_chip {p : List S47} (h : vp p = true) (i : Nat) : onC (X p i) (Y p i) = true := by
  unfold vp at h
  simp only [Bool.and_eq_true, decide_eq_true_eq, List.all_eq_true, List.mem_range] at h
  have h1 := h.2 (i % p.length) (Nat.mod_lt _ (by omega))
  unfold okI at h1
  simp only [Bool.and_eq_true] at h1
  rw [← X_mod, ← Y_mod]
  exact h1.1.1
theorem sides_ok {p : List S47} (h : vp p = true) : ∀ e ∈ sides p, EOk e := by
  intro e he
  simp only [sides, List.mem_map] at he
  obtain ⟨i, _, rfl⟩ := he
  have h1 := vp_chip h i
  have h2 := vp_chip h (i + 1)
  simp only [onC, decide_eq_true_eq] at h1 h2
  exact ⟨⟨h1.1, h1.2.1⟩, ⟨h1.2.2.1, h1.2.2.2⟩, ⟨h2.1, h2.2.1⟩, ⟨h2.2.2.1, h2.2.2.2⟩⟩
end Go.Proofs.Ytjpfhnpdbjefkaa.Q
namespace Go.Proofs.Ytjpfhnpdbjefkaa.P
open Go.RowKit Go.Proofs.Ytjpfhnpdbjefkaa.H Go.Proofs.Ytjpfhnpdbjefkaa.Q Go.Proofs.YtjpfhnpdbjefkaaW.PrintWords Go.Proofs.YtjpfhnpdbjefkaaW.PrintLast
def impl_PolygonContains.f (l0 : List S47) (a1 a2 : Int) : Option Bool := some (vp l0 && hasG (insideG l0) a1 a2)
set_option maxHeartbeats 400000 in
theorem impl_PolygonContains.calls (A0 : Option Addr) (c0 : Nat) (l0 : List S47) (a1 a2 : Int) (r : Bool) (w : World) (hr0 : Kd.C k47 w A0 l0.length l0) (hc0 : l0.length ≤ c0) (h : impl_PolygonContains.f l0 a1 a2 = some r) :
    Calls Try.prog 27 #[.slice A0 l0.length c0, .int .i64 a1, .int .i64 a2] w fun e w' => e = .returned (.bool r) ∧ Below w.heap.size w w' := by
  obtain rfl := Option.some.inj h
  clear h
  have HR := Lib.hid hr0
  clear hr0
  obtain ⟨k1, hk1⟩ := (impl_vp l0).rounds
  have HK1 := Lib.hid hk1
  clear hk1
  by_cases hv : vp l0 = true
  · have hl := vp_len hv
    have hok := sides_ok hv
    have HV := Lib.hid hv
    obtain ⟨k2, hk2⟩ := (impl_vert l0 (by omega)).rounds
    have HK2 := Lib.hid hk2
    clear hk2
    have HOK := Lib.hid (show ∀ e ∈ (sides l0).filter upright, EOk e from fun e he => hok e (List.mem_filter.1 he).1)
    have hle : ((sides l0).filter upright).length ≤ 1048576 := Nat.le_trans (List.length_filter_le _ _) (by rw [sides_len]; omega)
    rw [hv] at HK1
    have HE := Lib.hid (show (vp l0 && hasG (insideG l0) a1 a2) = hasG (insideG l0) a1 a2 by rw [hv, Bool.true_and])
    clear hok hv
    go_enter Try.func27, Try.ntmps27
    go_wp2_with fail
    refine (impl_IsValidPolygon.calls k1 _ _ l0 _ _ HR.out hc0 HK1.out).mono ?_
    rintro e w1 ⟨rfl, hb1⟩
    have HR1 := Lib.hid (Kd.C_below HR.out hb1)
    go_wp2_with fail
    refine (impl_verticals.calls k2 _ _ l0 _ _ HR1.out hc0 HK2.out).mono ?_
    rintro e w2 ⟨v, rfl, hv2, hb2⟩
    obtain ⟨A2, c2, rfl, hl2, hr2⟩ := Kd.R_reads hv2
    go_wp2_with fail
    refine (parity_calls A2 c2 _ _ hr2 hl2 hle HOK.out).mono ?_
    rintro e w3 ⟨b, rfl, _, hb3, hg⟩
    go_wp2_with fail
    refine (has_calls b _ a1 a2 _ hg).mono ?_
    rintro e w4 ⟨rfl, hb4⟩
    go_wp2_with fail
    go_ret
    rw [HE.out]
    exact ⟨rfl, hb1.trans ((hb2.mono hb1.size).trans ((hb3.mono (Nat.le_trans hb1.size hb2.size)).trans (hb4.mono (Nat.le_trans hb1.size (Nat.le_trans hb2.size hb3.size)))))⟩
  · rw [Bool.eq_false_iff.2 hv] at HK1
    have HE := Lib.hid (show (vp l0 && hasG (insideG l0) a1 a2) = false by rw [Bool.eq_false_iff.2 hv, Bool.false_and])
    clear hv
    go_enter Try.func27, Try.ntmps27
    go_wp2_with fail
    refine (impl_IsValidPolygon.calls k1 _ _ l0 _ _ HR.out hc0 HK1.out).mono ?_
    rintro e w1 ⟨rfl, hb1⟩
    go_wp2_with fail
    go_ret
    rw [HE.out]
    exact ⟨rfl, hb1⟩
end Go.Proofs.Ytjpfhnpdbjefkaa.P
