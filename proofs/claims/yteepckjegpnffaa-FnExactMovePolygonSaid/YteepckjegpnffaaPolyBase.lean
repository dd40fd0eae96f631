/- Polygons: when one is valid; the reference's local test is the program's. -/
import Derived.Test.YteepckjegpnffaaBox
import Derived.Test.YteepckjegpnffaaPx15
import Derived.Test.YteepckjegpnffaaPx7
set_option linter.unusedVariables false
set_option linter.unusedSimpArgs false
namespace Go.Proofs.Yteepckjegpnffaa.Q
open Go.RowKit Go.Proofs.Yteepckjegpnffaa.P Go.Proofs.Yteepckjegpnffaa.H Go.Proofs.YteepckjegpnffaaW.PrintWords Go.Proofs.YteepckjegpnffaaW.PrintLast
theorem w64 {x : Int} (h : -4000000000000000000 ≤ x) (h2 : x ≤ 4000000000000000000) : wrap64 x = x := by unfold wrap64; omega
/-! valid polygons -/
def X (p : List S36) (i : Nat) : Int := (p.getD (i % p.length) z36).f0
def Y (p : List S36) (i : Nat) : Int := (p.getD (i % p.length) z36).f1
def onC (x y : Int) : Bool := decide (-40 ≤ x ∧ x ≤ 40 ∧ -40 ≤ y ∧ y ≤ 40)
def hor (p : List S36) (i : Nat) : Bool := Y p i == Y p (i + 1)
def ver (p : List S36) (i : Nat) : Bool := X p i == X p (i + 1)
def okI (p : List S36) (i : Nat) : Bool := onC (X p i) (Y p i) && (hor p i != ver p i) && (hor p i == (hor p 0 == (i % 2 == 0)))
def okS (p : List S36) (i : Nat) : Bool := onC (X p i) (Y p i) && ((hor p i && !ver p i && ver p (i + 1) && !hor p (i + 1)) || (ver p i && !hor p i && hor p (i + 1) && !ver p (i + 1)))
/-- The polygon is valid. -/
def vp (p : List S36) : Bool := decide (4 ≤ p.length ∧ p.length ≤ 12800 ∧ p.length % 2 = 0) && (List.range p.length).all (okI p)

theorem hor_wrap (p : List S36) (i : Nat) : hor p (i % p.length) = hor p i := by
  unfold hor Y
  congr 3 <;> simp
theorem ver_wrap (p : List S36) (i : Nat) : ver p (i % p.length) = ver p i := by
  unfold ver X
  congr 3 <;> simp

theorem ok_same (p : List S36) (h4 : 4 ≤ p.length) (h2 : p.length % 2 = 0) : (∀ i, i < p.length → okI p i = true) ↔ (∀ i, i < p.length → okS p i = true) := by
  constructor
  · intro h i hi
    have h1 := h i hi
    have hn : okI p ((i + 1) % p.length) = true := h _ (Nat.mod_lt _ (by omega))
    unfold okI at h1 hn
    rw [hor_wrap, ver_wrap] at hn
    have hp : ((i + 1) % p.length) % 2 = (i + 1) % 2 := by
      rcases Nat.lt_or_ge (i + 1) p.length with h | h
      · rw [Nat.mod_eq_of_lt h]
      · have : i + 1 = p.length := by omega
        rw [this, Nat.mod_self]; omega
    rw [hp] at hn
    unfold okS
    simp only [Bool.and_eq_true] at h1 hn
    obtain ⟨⟨a1, a2⟩, a3⟩ := h1
    obtain ⟨⟨_, b2⟩, b3⟩ := hn
    rw [a1]
    rcases Nat.mod_two_eq_zero_or_one i with e | e
    · have e' : (i + 1) % 2 = 1 := by omega
      rw [e] at a3; rw [e'] at b3
      revert a2 a3 b2 b3
      cases hor p i <;> cases ver p i <;> cases hor p (i + 1) <;> cases ver p (i + 1) <;> cases hor p 0 <;> simp
    · have e' : (i + 1) % 2 = 0 := by omega
      rw [e] at a3; rw [e'] at b3
      revert a2 a3 b2 b3
      cases hor p i <;> cases ver p i <;> cases hor p (i + 1) <;> cases ver p (i + 1) <;> cases hor p 0 <;> simp
  · intro h
    have hor_i : ∀ i, i < p.length → hor p i = (hor p 0 == (i % 2 == 0)) := by
      intro i
      induction i with
      | zero => intro _; cases hor p 0 <;> rfl
      | succ i ih =>
        intro hi
        have e := ih (by omega)
        have h1 := h i (by omega)
        unfold okS at h1
        simp only [Bool.and_eq_true] at h1
        have h1 := h1.2
        rcases Nat.mod_two_eq_zero_or_one i with m | m
        · have m' : (i + 1) % 2 = 1 := by omega
          rw [m] at e; rw [m']
          revert h1 e
          cases hor p i <;> cases ver p i <;> cases hor p (i + 1) <;> cases ver p (i + 1) <;> cases hor p 0 <;> simp
        · have m' : (i + 1) % 2 = 0 := by omega
          rw [m] at e; rw [m']
          revert h1 e
          cases hor p i <;> cases ver p i <;> cases hor p (i + 1) <;> cases ver p (i + 1) <;> cases hor p 0 <;> simp
    intro i hi
    have h1 := h i hi
    unfold okS at h1
    unfold okI
    simp only [Bool.and_eq_true] at h1
    obtain ⟨a1, h1⟩ := h1
    rw [a1, ← hor_i i hi]
    revert h1
    cases hor p i <;> cases ver p i <;> simp

theorem impl_chip (x y : Int) : impl_onChip.f x y = some (onC x y) := by
  unfold impl_onChip.f impl_within.f onC
  by_cases a : -40 ≤ x <;> by_cases b : x ≤ 40 <;> by_cases c : -40 ≤ y <;> by_cases d : y ≤ 40 <;> simp [a, b, c, d]
theorem spec_chip (x y : Int) : spec_l01OnChip.f x y = some (onC x y) := by
  unfold spec_l01OnChip.f spec_l01In.f onC
  by_cases a : -40 ≤ x <;> by_cases b : x ≤ 40 <;> by_cases c : -40 ≤ y <;> by_cases d : y ≤ 40 <;> simp [a, b, c, d]

theorem X_mod (p : List S36) (i : Nat) : X p (i % p.length) = X p i := by unfold X; simp
theorem Y_mod (p : List S36) (i : Nat) : Y p (i % p.length) = Y p i := by unfold Y; simp

theorem tmod_nat (a : Int) (b n : Nat) (h : a = b) : Int.tmod a n = ((b % n : Nat) : Int) := by
  subst h; rw [Int.tmod_eq_emod_of_nonneg (by omega)]; exact (Int.natCast_emod _ _).symm

theorem rdX (p : List S36) (i : Nat) (h : i < p.length) : (rd_T36 p i).f0 = X p i := by
  unfold X rd_T36; rw [Nat.mod_eq_of_lt h]; simp
theorem rdY (p : List S36) (i : Nat) (h : i < p.length) : (rd_T36 p i).f1 = Y p i := by
  unfold Y rd_T36; rw [Nat.mod_eq_of_lt h]; simp
theorem all_same (p : List S36) (h4 : 4 ≤ p.length) (h2 : p.length % 2 = 0) : (List.range' 0 p.length).all (okI p) = (List.range' 0 p.length).all (okS p) := by
  rw [Bool.eq_iff_iff]
  have := ok_same p h4 h2
  simp only [List.all_eq_true, List.mem_range'_1]
  constructor
  · intro h i hi; exact this.1 (fun j hj => h j ⟨by omega, by omega⟩) i (by omega)
  · intro h i hi; exact this.2 (fun j hj => h j ⟨by omega, by omega⟩) i (by omega)

theorem vp_le {p : List S36} (h : vp p = true) : p.length ≤ 12800 := by
  unfold vp at h
  simp only [Bool.and_eq_true, decide_eq_true_eq] at h
  exact h.1.2.1
/-- The cells of a point. -/
theorem ptCells {w : World} {A : Option Addr} {l : List S36} (h : Kd.C k36 w A l.length l) (i : Nat) (hi : i < l.length) :
    ∃ ad, A = some ad ∧ w.cell? (ad.add (i * 2)) = some (.int .i64 (X l i)) ∧ w.cell? ⟨(ad.add (i * 2)).block, (ad.add (i * 2)).off + 1, none⟩ = some (.int .i64 (Y l i)) := by
  obtain ⟨ad, e, h0, h1⟩ := at_T36 h (i : Int) (by omega) (by omega)
  have e1 : rd_T36 l i = l.getD (i % l.length) z36 := by unfold rd_T36; rw [Int.toNat_natCast, Nat.mod_eq_of_lt hi]
  rw [Int.toNat_natCast] at h0 h1
  rw [e1] at h0 h1
  exact ⟨ad, e, h0, h1⟩
end Go.Proofs.Yteepckjegpnffaa.Q
