/- Polygons, the plain side: what the conversions give, when a polygon is valid; the program's and the reference's IsValidPolygon come to one answer. -/
import Derived.Test.YtjpfhnpdbjefkaaPx17
import Derived.Test.YtjpfhnpdbjefkaaPx20
import Derived.Test.YtjpfhnpdbjefkaaPx22
import Derived.Test.YtjpfhnpdbjefkaaPx25
import Derived.Test.YtjpfhnpdbjefkaaPx27
set_option linter.unusedVariables false
set_option linter.unusedSimpArgs false
namespace Go.Proofs.Ytjpfhnpdbjefkaa.Q
open Go.RowKit Go.Proofs.Ytjpfhnpdbjefkaa.P Go.Proofs.YtjpfhnpdbjefkaaW.PrintWords Go.Proofs.YtjpfhnpdbjefkaaW.PrintLast

theorem w64 {x : Int} (h : -4000000000000000000 ≤ x) (h2 : x ≤ 4000000000000000000) : wrap64 x = x := by unfold wrap64; omega

/-! conversions -/
def conv (x : S50) : S47 := ⟨x.f0, x.f1⟩
def convs (l : List S50) : List S47 := l.map conv

theorem rd50_get (l : List S50) (i : Nat) (h : i < l.length) : rd_T50 l i = l[i] := by
  simp [rd_T50, List.getD_eq_getElem?_getD, h]
theorem rd47_get (l : List S47) (i : Nat) (h : i < l.length) : rd_T47 l i = l[i] := by
  simp [rd_T47, List.getD_eq_getElem?_getD, h]

theorem toS_loop (l : List S50) (hl : l.length ≤ 1048576) (d : Nat) : ∀ i : Nat, i + d = l.length →
    Ev (fun k => laws_toPointS.l0 k l ((convs l).take i ++ List.replicate d z47) i) (convs l) := by
  induction d with
  | zero =>
    intro i hi
    refine Ev.step (f := fun _ => some (convs l)) (fun k => ?_) (Ev.now _)
    simp only [laws_toPointS.l0]
    rw [if_neg (by omega)]
    rw [List.take_of_length_le (by simp [convs]; omega)]
    simp
  | succ d ih =>
    intro i hi
    refine Ev.step (fun k => ?_) (ih (i + 1) (by omega))
    simp only [laws_toPointS.l0, laws_toPoint.f, Option.bind_some]
    rw [if_pos (by omega), if_pos (by omega), if_pos (by simp [convs]; omega), w64 (by omega) (by omega), Int.toNat_natCast, rd50_get _ _ (by omega)]
    have e : (((convs l).take i ++ List.replicate (d + 1) z47).set i (⟨(l[i]'(by omega)).f0, (l[i]'(by omega)).f1⟩ : S47)) = (convs l).take (i + 1) ++ List.replicate d z47 := by
      have hi2 : ((convs l).take i).length = i := by simp [convs]; omega
      rw [List.set_append_right _ _ (by omega), hi2, Nat.sub_self, List.replicate_succ, List.set_cons_zero, List.take_succ_eq_append_getElem (by simp [convs]; omega)]
      simp [convs, conv]
    rw [e]
    rfl

theorem toS (l : List S50) (hl : l.length ≤ 1048576) : Ev (fun k => laws_toPointS.f k l) (convs l) := by
  have h := toS_loop l hl l.length 0 (by omega)
  refine Ev.congr (fun k => ?_) h
  simp only [laws_toPointS.f]
  rw [if_pos (by omega), if_pos (by omega)]
  simp

theorem sz_ok (l : List S50) (hl : l.length ≤ maxLen) (b : Nat) (hb : b ≤ 1048576) : laws_szPointS.f l b = some (if l.length ≤ b then ((b - l.length : Nat) : Int) else -1) := by
  unfold maxLen at hl
  unfold laws_szPointS.f
  have e : wrap64 ((b : Int) - l.length) = b - l.length := by unfold wrap64; omega
  rw [e]
  split <;> split <;> (first | rfl | omega | (congr 1; omega))

theorem eq_pt (a b c d : Int) : laws_eqPoint.f a b c d = some (decide (a = c ∧ b = d)) := by
  unfold laws_eqPoint.f
  by_cases h1 : a = c <;> by_cases h2 : b = d <;> simp [h1, h2]

theorem eqS_loop (l : List S47) (hl : l.length ≤ 1048576) (d : Nat) : ∀ i : Nat, i + d = l.length → Ev (fun k => laws_eqPointS.l0 k l l i) true := by
  induction d with
  | zero =>
    intro i hi
    refine Ev.step (f := fun _ => some true) (fun k => ?_) (Ev.now _)
    simp only [laws_eqPointS.l0]
    rw [if_neg (by omega)]
  | succ d ih =>
    intro i hi
    refine Ev.step (fun k => ?_) (ih (i + 1) (by omega))
    simp only [laws_eqPointS.l0]
    rw [if_pos (by omega), if_pos (by omega), if_pos (by omega), eq_pt, w64 (by omega) (by omega)]
    simp

theorem eqS (l : List S47) (hl : l.length ≤ 1048576) : Ev (fun k => laws_eqPointS.f k l l) true := by
  refine Ev.congr (fun k => ?_) (eqS_loop l hl l.length 0 (by omega))
  simp only [laws_eqPointS.f]
  rw [if_pos trivial]
  rfl

/-! valid polygons -/
def X (p : List S47) (i : Nat) : Int := (p.getD (i % p.length) z47).f0
def Y (p : List S47) (i : Nat) : Int := (p.getD (i % p.length) z47).f1
def onC (x y : Int) : Bool := decide (-40 ≤ x ∧ x ≤ 40 ∧ -40 ≤ y ∧ y ≤ 40)
def hor (p : List S47) (i : Nat) : Bool := Y p i == Y p (i + 1)
def ver (p : List S47) (i : Nat) : Bool := X p i == X p (i + 1)
def okI (p : List S47) (i : Nat) : Bool := onC (X p i) (Y p i) && (hor p i != ver p i) && (hor p i == (hor p 0 == (i % 2 == 0)))
def okS (p : List S47) (i : Nat) : Bool := onC (X p i) (Y p i) && ((hor p i && !ver p i && ver p (i + 1) && !hor p (i + 1)) || (ver p i && !hor p i && hor p (i + 1) && !ver p (i + 1)))
/-- The polygon is valid. -/
def vp (p : List S47) : Bool := decide (4 ≤ p.length ∧ p.length ≤ 12800 ∧ p.length % 2 = 0) && (List.range p.length).all (okI p)

theorem hor_wrap (p : List S47) (i : Nat) : hor p (i % p.length) = hor p i := by
  unfold hor Y
  congr 3 <;> simp
theorem ver_wrap (p : List S47) (i : Nat) : ver p (i % p.length) = ver p i := by
  unfold ver X
  congr 3 <;> simp

theorem ok_same (p : List S47) (h4 : 4 ≤ p.length) (h2 : p.length % 2 = 0) : (∀ i, i < p.length → okI p i = true) ↔ (∀ i, i < p.length → okS p i = true) := by
  constructor
  · intro h i hi
    have h1 := h i hi
    have hn : okI p ((i + 1) % p.length) = true := h _ (Nat.mod_lt _ (by omega))
    unfold okI at h1 hn
    rw [hor_wrap, ver_wrap] at hn
    have hp : ((i + 1) % p.length) % 2 = (i + 1) % 2 := by
      rcases Nat.lt_or_ge (i + 1) p.length with h | h
      · rw [Nat.mod_eq_of_lt h]
      · have : i + 1 = p.length := by omega
        rw [this, Nat.mod_self]; omega
    rw [hp] at hn
    unfold okS
    simp only [Bool.and_eq_true] at h1 hn
    obtain ⟨⟨a1, a2⟩, a3⟩ := h1
    obtain ⟨⟨_, b2⟩, b3⟩ := hn
    rw [a1]
    rcases Nat.mod_two_eq_zero_or_one i with e | e
    · have e' : (i + 1) % 2 = 1 := by omega
      rw [e] at a3; rw [e'] at b3
      revert a2 a3 b2 b3
      cases hor p i <;> cases ver p i <;> cases hor p (i + 1) <;> cases ver p (i + 1) <;> cases hor p 0 <;> simp
    · have e' : (i + 1) % 2 = 0 := by omega
      rw [e] at a3; rw [e'] at b3
      revert a2 a3 b2 b3
      cases hor p i <;> cases ver p i <;> cases hor p (i + 1) <;> cases ver p (i + 1) <;> cases hor p 0 <;> simp
  · intro h
    have hor_i : ∀ i, i < p.length → hor p i = (hor p 0 == (i % 2 == 0)) := by
      intro i
      induction i with
      | zero => intro _; cases hor p 0 <;> rfl
      | succ i ih =>
        intro hi
        have e := ih (by omega)
        have h1 := h i (by omega)
        unfold okS at h1
        simp only [Bool.and_eq_true] at h1
        have h1 := h1.2
        rcases Nat.mod_two_eq_zero_or_one i with m | m
        · have m' : (i + 1) % 2 = 1 := by omega
          rw [m] at e; rw [m']
          revert h1 e
          cases hor p i <;> cases ver p i <;> cases hor p (i + 1) <;> cases ver p (i + 1) <;> cases hor p 0 <;> simp
        · have m' : (i + 1) % 2 = 0 := by omega
          rw [m] at e; rw [m']
          revert h1 e
          cases hor p i <;> cases ver p i <;> cases hor p (i + 1) <;> cases ver p (i + 1) <;> cases hor p 0 <;> simp
    intro i hi
    have h1 := h i hi
    unfold okS at h1
    unfold okI
    simp only [Bool.and_eq_true] at h1
    obtain ⟨a1, h1⟩ := h1
    rw [a1, ← hor_i i hi]
    revert h1
    cases hor p i <;> cases ver p i <;> simp

theorem impl_chip (x y : Int) : impl_onChip.f x y = some (onC x y) := by
  unfold impl_onChip.f impl_within.f onC
  by_cases a : -40 ≤ x <;> by_cases b : x ≤ 40 <;> by_cases c : -40 ≤ y <;> by_cases d : y ≤ 40 <;> simp [a, b, c, d]
theorem spec_chip (x y : Int) : spec_l01OnChip.f x y = some (onC x y) := by
  unfold spec_l01OnChip.f spec_l01In.f onC
  by_cases a : -40 ≤ x <;> by_cases b : x ≤ 40 <;> by_cases c : -40 ≤ y <;> by_cases d : y ≤ 40 <;> simp [a, b, c, d]

theorem rdX (p : List S47) (i : Nat) (h : i < p.length) : (rd_T47 p i).f0 = X p i := by
  unfold X rd_T47; rw [Nat.mod_eq_of_lt h]; simp
theorem rdY (p : List S47) (i : Nat) (h : i < p.length) : (rd_T47 p i).f1 = Y p i := by
  unfold Y rd_T47; rw [Nat.mod_eq_of_lt h]; simp
theorem X_mod (p : List S47) (i : Nat) : X p (i % p.length) = X p i := by unfold X; simp
theorem Y_mod (p : List S47) (i : Nat) : Y p (i % p.length) = Y p i := by unfold Y; simp

theorem tmod_nat (a : Int) (b n : Nat) (h : a = b) : Int.tmod a n = ((b % n : Nat) : Int) := by
  subst h; rw [Int.tmod_eq_emod_of_nonneg (by omega)]; exact (Int.natCast_emod _ _).symm

theorem impl_loop (p : List S47) (h4 : 4 ≤ p.length) (hl : p.length ≤ 12800) (d : Nat) : ∀ i : Nat, i + d = p.length →
    Ev (fun k => impl_IsValidPolygon.l0 k p p.length (hor p 0) p p.length i) ((List.range' i d).all (okI p)) := by
  induction d with
  | zero =>
    intro i hi
    refine Ev.step (f := fun _ => some true) (fun k => ?_) (Ev.now _)
    simp only [impl_IsValidPolygon.l0]
    rw [if_neg (by omega)]
  | succ d ih =>
    intro i hi
    have hm : (i + 1) % p.length < p.length := Nat.mod_lt _ (by omega)
    have e1 : Int.tmod (wrap64 ((i : Int) + 1)) p.length = (((i + 1) % p.length : Nat) : Int) := tmod_nat _ _ _ (by rw [w64 (by omega) (by omega)]; omega)
    have e2 : (Int.tmod (i : Int) 2 == 0) = (i % 2 == 0) := by
      rw [show ((2 : Int)) = ((2 : Nat) : Int) from rfl, tmod_nat (i : Int) i 2 rfl]
      rw [Bool.eq_iff_iff]; simp; omega
    have step : ∀ k, impl_IsValidPolygon.l0 (k + 1) p p.length (hor p 0) p p.length i = if okI p i = true then impl_IsValidPolygon.l0 k p p.length (hor p 0) p p.length ((i + 1 : Nat) : Int) else some false := by
      intro k
      simp only [impl_IsValidPolygon.l0]
      rw [if_pos (by omega), if_pos (by omega), if_pos (by omega), if_neg (by omega), e1, if_pos (by omega), if_pos (by omega), impl_chip, Option.bind_some, e2, rdX p i (by omega), rdY p i (by omega), rdX p _ hm, rdY p _ hm, X_mod, Y_mod, w64 (x := (i : Int) + 1) (by omega) (by omega)]
      show (if onC (X p i) (Y p i) = true then if (hor p i == ver p i) = true then some false else if (hor p i != (hor p 0 == (i % 2 == 0))) = true then some false else impl_IsValidPolygon.l0 k p p.length (hor p 0) p p.length ((i : Int) + 1) else some false) = _
      unfold okI
      cases onC (X p i) (Y p i) <;> cases (hor p i) <;> cases (ver p i) <;> cases (hor p 0) <;> cases (i % 2 == 0) <;> simp
    by_cases ho : okI p i = true
    · refine Ev.step (fun k => (step k).trans (if_pos ho)) ?_
      rw [List.range'_succ, List.all_cons, ho, Bool.true_and]
      exact ih (i + 1) (by omega)
    · refine Ev.step (f := fun _ => some false) (fun k => (step k).trans (if_neg ho)) ?_
      rw [List.range'_succ, List.all_cons, Bool.eq_false_iff.2 ho, Bool.false_and]
      exact Ev.now _

theorem impl_vp (p : List S47) : Ev (fun k => impl_IsValidPolygon.f k p) (vp p) := by
  by_cases h : 4 ≤ p.length ∧ p.length ≤ 12800 ∧ p.length % 2 = 0
  · obtain ⟨h4, h5, h2⟩ := h
    have hv : vp p = (List.range' 0 p.length).all (okI p) := by
      unfold vp; rw [decide_eq_true ⟨h4, h5, h2⟩, Bool.true_and, List.range_eq_range']
    rw [hv]
    refine Ev.congr (f := fun k => impl_IsValidPolygon.j0 k p p.length false) (fun k => ?_) (Ev.step (fun k => ?_) (impl_loop p h4 h5 p.length 0 (by omega)))
    · simp only [impl_IsValidPolygon.f]
      rw [if_neg (by omega), if_neg (by omega), show (((p.length : Int) % 2) == 1) = false from by rw [beq_eq_false_iff_ne]; omega]
    · simp only [impl_IsValidPolygon.j0]
      rw [if_neg (by simp), if_pos (by omega), if_pos (by omega)]
      have e0 := rdY p 0 (by omega)
      have e1 := rdY p 1 (by omega)
      have e0' : (rd_T47 p 0).f1 = Y p 0 := e0
      have e1' : (rd_T47 p 1).f1 = Y p 1 := e1
      rw [e0', e1']
      rfl
  · have hv : vp p = false := by unfold vp; rw [decide_eq_false h, Bool.false_and]
    rw [hv]
    refine Ev.congr (f := fun k => impl_IsValidPolygon.j0 k p p.length true) (fun k => ?_) (Ev.step (f := fun _ => some false) (fun k => ?_) (Ev.now _))
    · simp only [impl_IsValidPolygon.f]
      by_cases a : (p.length : Int) < 4
      · rw [if_pos a]
      · rw [if_neg a]
        by_cases b : (p.length : Int) > 12800
        · rw [if_pos b]
        · rw [if_neg b, show (((p.length : Int) % 2) == 1) = true from by rw [beq_iff_eq]; omega]
    · simp [impl_IsValidPolygon.j0]

theorem spec_loop (p : List S47) (h4 : 4 ≤ p.length) (hl : p.length ≤ 12800) (d : Nat) : ∀ i : Nat, i + d = p.length →
    Ev (fun k => spec_IsValidPolygon.l0 k p p.length i) ((List.range' i d).all (okS p)) := by
  induction d with
  | zero =>
    intro i hi
    refine Ev.step (f := fun _ => some true) (fun k => ?_) (Ev.now _)
    simp only [spec_IsValidPolygon.l0]
    rw [if_neg (by omega)]
  | succ d ih =>
    intro i hi
    have hm : (i + 1) % p.length < p.length := Nat.mod_lt _ (by omega)
    have hm2 : (i + 2) % p.length < p.length := Nat.mod_lt _ (by omega)
    have e1 : Int.tmod (wrap64 ((i : Int) + 1)) p.length = (((i + 1) % p.length : Nat) : Int) := tmod_nat _ _ _ (by rw [w64 (by omega) (by omega)]; omega)
    have e2 : Int.tmod (wrap64 ((i : Int) + 2)) p.length = (((i + 2) % p.length : Nat) : Int) := tmod_nat _ _ _ (by rw [w64 (by omega) (by omega)]; omega)
    have step : ∀ k, spec_IsValidPolygon.l0 (k + 1) p p.length i = if okS p i = true then spec_IsValidPolygon.l0 k p p.length ((i + 1 : Nat) : Int) else some false := by
      intro k
      simp only [spec_IsValidPolygon.l0]
      rw [if_pos (by omega), if_pos (by omega), if_pos (by omega), if_neg (by omega), e1, e2, if_pos (by omega), if_pos (by omega), if_pos (by omega), if_pos (by omega)]
      simp only [spec_chip, Option.bind_some]
      rw [rdX p i (by omega), rdY p i (by omega), rdX p _ hm, rdY p _ hm, rdX p _ hm2, rdY p _ hm2, X_mod, Y_mod, X_mod, Y_mod, w64 (x := (i : Int) + 1) (by omega) (by omega)]
      unfold okS hor ver
      cases onC (X p i) (Y p i) <;> by_cases a : Y p i = Y p (i + 1) <;> by_cases b : X p i = X p (i + 1) <;> by_cases c : X p (i + 1) = X p (i + 2) <;> by_cases d : Y p (i + 1) = Y p (i + 2) <;> simp [a, b, c, d]
    by_cases ho : okS p i = true
    · refine Ev.step (fun k => (step k).trans (if_pos ho)) ?_
      rw [List.range'_succ, List.all_cons, ho, Bool.true_and]
      exact ih (i + 1) (by omega)
    · refine Ev.step (f := fun _ => some false) (fun k => (step k).trans (if_neg ho)) ?_
      rw [List.range'_succ, List.all_cons, Bool.eq_false_iff.2 ho, Bool.false_and]
      exact Ev.now _

theorem all_same (p : List S47) (h4 : 4 ≤ p.length) (h2 : p.length % 2 = 0) : (List.range' 0 p.length).all (okI p) = (List.range' 0 p.length).all (okS p) := by
  rw [Bool.eq_iff_iff]
  have := ok_same p h4 h2
  simp only [List.all_eq_true, List.mem_range'_1]
  constructor
  · intro h i hi; exact this.1 (fun j hj => h j ⟨by omega, by omega⟩) i (by omega)
  · intro h i hi; exact this.2 (fun j hj => h j ⟨by omega, by omega⟩) i (by omega)

theorem spec_vp (p : List S47) : Ev (fun k => spec_IsValidPolygon.f k p) (vp p) := by
  by_cases h : 4 ≤ p.length ∧ p.length ≤ 12800 ∧ p.length % 2 = 0
  · obtain ⟨h4, h5, h2⟩ := h
    have hv : vp p = (List.range' 0 p.length).all (okS p) := by
      unfold vp; rw [decide_eq_true ⟨h4, h5, h2⟩, Bool.true_and, List.range_eq_range', all_same p h4 h2]
    rw [hv]
    refine Ev.congr (f := fun k => spec_IsValidPolygon.j0 k p p.length false) (fun k => ?_) (Ev.step (fun k => ?_) (spec_loop p h4 h5 p.length 0 (by omega)))
    · simp only [spec_IsValidPolygon.f]
      rw [if_neg (by omega), if_neg (by omega), show (((p.length : Int) % 2) != 0) = false from by rw [bne_eq_false_iff_eq]; omega]
    · simp only [spec_IsValidPolygon.j0]
      rw [if_neg (by simp)]
      rfl
  · have hv : vp p = false := by unfold vp; rw [decide_eq_false h, Bool.false_and]
    rw [hv]
    refine Ev.congr (f := fun k => spec_IsValidPolygon.j0 k p p.length true) (fun k => ?_) (Ev.step (f := fun _ => some false) (fun k => ?_) (Ev.now _))
    · simp only [spec_IsValidPolygon.f]
      by_cases a : (p.length : Int) < 4
      · rw [if_pos a]
      · rw [if_neg a]
        by_cases b : (p.length : Int) > 12800
        · rw [if_pos b]
        · rw [if_neg b, show (((p.length : Int) % 2) != 0) = true from by rw [bne_iff_ne]; omega]
    · simp [spec_IsValidPolygon.j0]
end Go.Proofs.Ytjpfhnpdbjefkaa.Q
