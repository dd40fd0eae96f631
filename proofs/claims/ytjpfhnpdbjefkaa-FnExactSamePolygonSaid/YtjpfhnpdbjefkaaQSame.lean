/- SamePolygon: the reference's search over all turns comes to the program's. -/
import Derived.Test.YtjpfhnpdbjefkaaSamePoly
import Derived.Test.YtjpfhnpdbjefkaaPx29
set_option linter.unusedVariables false
set_option linter.unusedSimpArgs false
namespace Go.Proofs.Ytjpfhnpdbjefkaa.Q
open Go.RowKit Go.Proofs.Ytjpfhnpdbjefkaa.P Go.Proofs.YtjpfhnpdbjefkaaW.PrintWords Go.Proofs.YtjpfhnpdbjefkaaW.PrintLast
def ptAt (p : List S47) (i : Nat) : S47 := p.getD (i % p.length) z47
def rotI (p q : List S47) (k i : Nat) : Bool := decide (ptAt p (i + k) = ptAt q i)
def rot (p q : List S47) (k : Nat) : Bool := (List.range q.length).all (rotI p q k)
theorem ptAt_get (p : List S47) (i : Nat) (h : i < p.length) : ptAt p i = p[i] := by
  unfold ptAt; rw [Nat.mod_eq_of_lt h]; simp [List.getD_eq_getElem?_getD, h]

theorem turned_rot (p q : List S47) (h : p.length = q.length) (x : Nat) (hx : x < q.length) : turned p q x = rot p q ((p.length - x) % p.length) := by
  have key : (p.take (p.length - x) = q.drop x ∧ p.drop (p.length - x) = q.take x) ↔ rot p q ((p.length - x) % p.length) = true := by
    unfold rot
    rw [List.all_eq_true]
    constructor
    · rintro ⟨h1, h2⟩ i hi
      have hi := List.mem_range.1 hi
      unfold rotI
      rw [decide_eq_true_eq, ptAt_get q i hi]
      unfold ptAt
      rw [Nat.add_mod_mod]
      rcases Nat.lt_or_ge i x with c | c
      · have e : (i + (p.length - x)) % p.length = p.length - x + i := by rw [Nat.add_comm, Nat.mod_eq_of_lt (by omega)]
        have e2 : (q.take x)[i]? = (p.drop (p.length - x))[i]? := by rw [h2]
        rw [List.getElem?_take, if_pos c, List.getElem?_drop] at e2
        rw [e, List.getD_eq_getElem?_getD, ← e2]
        simp [hi]
      · have e : (i + (p.length - x)) % p.length = i - x := by
          rw [show i + (p.length - x) = (i - x) + p.length from by omega, Nat.add_mod_right, Nat.mod_eq_of_lt (by omega)]
        have e2 : (q.drop x)[i - x]? = (p.take (p.length - x))[i - x]? := by rw [h1]
        rw [List.getElem?_take, if_pos (by omega), List.getElem?_drop, show x + (i - x) = i from by omega] at e2
        rw [e, List.getD_eq_getElem?_getD, ← e2]
        simp [hi]
    · intro hr
      have at_i : ∀ i, (hi : i < q.length) → q[i]? = p[(i + (p.length - x)) % p.length]? := by
        intro i hi
        have h1 := hr i (List.mem_range.2 hi)
        unfold rotI at h1
        rw [decide_eq_true_eq, ptAt_get q i hi] at h1
        unfold ptAt at h1
        rw [Nat.add_mod_mod] at h1
        have hm : (i + (p.length - x)) % p.length < p.length := Nat.mod_lt _ (by omega)
        rw [List.getD_eq_getElem?_getD, List.getElem?_eq_getElem hm] at h1
        rw [List.getElem?_eq_getElem hi, List.getElem?_eq_getElem hm]
        exact congrArg some h1.symm
      constructor
      · apply List.ext_getElem?
        intro j
        rw [List.getElem?_take, List.getElem?_drop]
        by_cases hj : j < p.length - x
        · rw [if_pos hj, at_i (x + j) (by omega), show x + j + (p.length - x) = j + p.length from by omega, Nat.add_mod_right, Nat.mod_eq_of_lt (by omega)]
        · rw [if_neg hj, List.getElem?_eq_none (by omega)]
      · apply List.ext_getElem?
        intro j
        rw [List.getElem?_take, List.getElem?_drop]
        by_cases hj : j < x
        · rw [if_pos hj, at_i j (by omega), Nat.mod_eq_of_lt (by omega), Nat.add_comm]
        · rw [if_neg hj, List.getElem?_eq_none (by omega)]
  have first : decide (p = q.drop x) = true → rot p q ((p.length - x) % p.length) = true := by
    intro hp
    have hp := of_decide_eq_true hp
    have hx0 : x = 0 := by
      have := congrArg List.length hp
      rw [List.length_drop] at this
      omega
    subst hx0
    rw [List.drop_zero] at hp
    refine key.1 ⟨?_, ?_⟩
    · rw [Nat.sub_zero, List.take_length, List.drop_zero, hp]
    · rw [Nat.sub_zero, List.drop_length, List.take_zero]
  unfold turned
  rw [Bool.eq_iff_iff, Bool.or_eq_true, Bool.and_eq_true, decide_eq_true_eq, decide_eq_true_eq, decide_eq_true_eq, key]
  constructor
  · rintro (h1 | h1)
    · exact first (decide_eq_true h1)
    · exact h1
  · exact .inr

theorem any_same (p q : List S47) (h : p.length = q.length) : (List.range q.length).any (turned p q) = (List.range p.length).any (rot p q) := by
  rw [Bool.eq_iff_iff, List.any_eq_true, List.any_eq_true]
  constructor
  · rintro ⟨x, hx, ht⟩
    have hx := List.mem_range.1 hx
    rw [turned_rot p q h x hx] at ht
    exact ⟨_, List.mem_range.2 (Nat.mod_lt _ (by omega)), ht⟩
  · rintro ⟨x, hx, ht⟩
    have hx := List.mem_range.1 hx
    refine ⟨(p.length - x) % p.length, List.mem_range.2 (by rw [← h]; exact Nat.mod_lt _ (by omega)), ?_⟩
    rw [turned_rot p q h _ (by rw [← h]; exact Nat.mod_lt _ (by omega))]
    have e : (p.length - (p.length - x) % p.length) % p.length = x := by
      rcases Nat.eq_zero_or_pos x with rfl | hp
      · rw [Nat.sub_zero, Nat.mod_self, Nat.sub_zero, Nat.mod_self]
      · rw [Nat.mod_eq_of_lt (show p.length - x < p.length by omega), show p.length - (p.length - x) = x from by omega, Nat.mod_eq_of_lt hx]
    rw [e]
    exact ht

theorem rd_pt (p : List S47) (i : Nat) (h : i < p.length) : rd_T47 p i = ptAt p i := by rw [rd47_get p i h, ptAt_get p i h]
theorem ptAt_mod (p : List S47) (i : Nat) : ptAt p (i % p.length) = ptAt p i := by unfold ptAt; simp

theorem spec_l1 (p q : List S47) (h : p.length = q.length) (h0 : 0 < p.length) (hl : p.length ≤ 12800) (x : Nat) (hx : x < p.length) {r : Bool} (d : Nat) : ∀ (i : Nat), i + d = p.length →
    Ev (fun k => if (List.range' i d).all (rotI p q x) = true then some true else spec_SamePolygon.l0 k p q ((x + 1 : Nat) : Int)) r →
    Ev (fun k => spec_SamePolygon.l1 k p q x true i) r := by
  induction d with
  | zero =>
    intro i hi hr
    refine Ev.step (fun k => ?_) hr
    simp only [spec_SamePolygon.l1]
    rw [if_neg (by omega)]
    simp
  | succ d ih =>
    intro i hi hr
    have hm : (i + x) % p.length < p.length := Nat.mod_lt _ h0
    have e1 : Int.tmod (wrap64 ((i : Int) + x)) p.length = (((i + x) % p.length : Nat) : Int) := tmod_nat _ _ _ (by rw [w64 (by omega) (by omega)]; omega)
    have step : ∀ k, spec_SamePolygon.l1 (k + 1) p q x true i = spec_SamePolygon.l1 k p q x (rotI p q x i) ((i + 1 : Nat) : Int) := by
      intro k
      simp only [spec_SamePolygon.l1]
      rw [if_pos (by omega), if_pos trivial, if_neg (by omega), e1, if_pos (by omega), if_pos (by omega), if_pos (by omega), if_pos (by omega), rd_pt p _ hm, rd_pt q i (by omega), ptAt_mod, w64 (by omega) (by omega)]
      have e : ((ptAt p (i + x)).f0 == (ptAt q i).f0 && ((ptAt p (i + x)).f1 == (ptAt q i).f1)) = rotI p q x i := by
        unfold rotI
        generalize ptAt p (i + x) = a
        generalize ptAt q i = b
        rcases a with ⟨a0, a1⟩; rcases b with ⟨b0, b1⟩
        rw [Bool.eq_iff_iff]
        simp
      rw [e]
      rfl
    rw [List.range'_succ] at hr
    cases hc : rotI p q x i with
    | true =>
      refine Ev.step (fun k => (step k).trans (by rw [hc])) (ih (i + 1) (by omega) ?_)
      simp only [List.all_cons, hc, Bool.true_and] at hr
      exact hr
    | false =>
      simp only [List.all_cons, hc, Bool.false_and, Bool.false_eq_true, if_false] at hr
      refine Ev.step (fun k => (step k).trans (by rw [hc])) ?_
      by_cases hlast : i + 1 < p.length
      · refine Ev.step (fun k => ?_) hr
        simp only [spec_SamePolygon.l1]
        rw [if_pos (by omega), if_neg (by simp), w64 (by omega) (by omega)]
        rfl
      · refine Ev.step (fun k => ?_) hr
        simp only [spec_SamePolygon.l1]
        rw [if_neg (by omega), if_neg (by simp), w64 (by omega) (by omega)]
        rfl

theorem spec_l0 (p q : List S47) (h : p.length = q.length) (h0 : 0 < p.length) (hl : p.length ≤ 12800) (d : Nat) : ∀ x : Nat, x + d = p.length →
    Ev (fun k => spec_SamePolygon.l0 k p q x) ((List.range' x d).any (rot p q)) := by
  induction d with
  | zero =>
    intro x hx
    refine Ev.step (f := fun _ => some false) (fun k => ?_) (Ev.now _)
    simp only [spec_SamePolygon.l0]
    rw [if_neg (by omega)]
  | succ d ih =>
    intro x hx
    refine Ev.step (f := fun k => spec_SamePolygon.l1 k p q x true (0 : Nat)) (fun k => ?_) (spec_l1 p q h h0 hl x (by omega) p.length 0 (by omega) ?_)
    · simp only [spec_SamePolygon.l0]
      rw [if_pos (by omega)]
      rfl
    · have e : (List.range' 0 p.length).all (rotI p q x) = rot p q x := by unfold rot; rw [← h, List.range_eq_range']
      rw [e, List.range'_succ, List.any_cons]
      cases hr : rot p q x with
      | true => simpa using Ev.now true
      | false => simpa using ih (x + 1) (by omega)

theorem spec_same (p q : List S47) : Ev (fun k => spec_SamePolygon.f k p q) (sameP p q) := by
  unfold spec_SamePolygon.f sameP
  refine Ev.bind (spec_vp p) ?_
  cases hp : vp p with
  | false =>
    simp only [Bool.false_eq_true, if_false, Bool.false_and]
    refine Ev.step (f := fun _ => some false) (fun k => ?_) (Ev.now _)
    simp [spec_SamePolygon.j0]
  | true =>
    simp only [if_true, Bool.true_and]
    refine Ev.bind (spec_vp q) ?_
    cases hq : vp q with
    | false =>
      simp only [Bool.false_eq_true, if_false, Bool.false_and]
      refine Ev.step (f := fun _ => some false) (fun k => ?_) (Ev.now _)
      simp [spec_SamePolygon.j0]
    | true =>
      simp only [if_true, Bool.true_and]
      by_cases h : p.length = q.length
      · have e : ((p.length : Int) != (q.length : Int)) = false := by rw [bne_eq_false_iff_eq]; omega
        rw [e, decide_eq_true h, Bool.true_and, any_same p q h]
        have h0 : 0 < p.length := by
          unfold vp at hp
          simp only [Bool.and_eq_true, decide_eq_true_eq] at hp
          omega
        refine Ev.step (f := fun k => spec_SamePolygon.l0 k p q (0 : Nat)) (fun k => ?_) (by rw [List.range_eq_range']; exact spec_l0 p q h h0 (vp_le hp) p.length 0 (by omega))
        simp [spec_SamePolygon.j0]
      · have e : ((p.length : Int) != (q.length : Int)) = true := by rw [bne_iff_ne]; omega
        rw [e, decide_eq_false h, Bool.false_and]
        refine Ev.step (f := fun _ => some false) (fun k => ?_) (Ev.now _)
        simp [spec_SamePolygon.j0]
end Go.Proofs.Ytjpfhnpdbjefkaa.Q
