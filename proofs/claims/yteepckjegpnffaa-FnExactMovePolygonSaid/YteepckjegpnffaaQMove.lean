/- Moved polygons, the plain side: the program's MovePolygon and the reference's come to one answer; slices.Reverse; marks and what is held. -/
import Derived.Test.YteepckjegpnffaaQTurn
import Derived.Test.YteepckjegpnffaaQPoly
import Derived.Test.YteepckjegpnffaaPx9
import Derived.Test.YteepckjegpnffaaPx20
import Derived.Test.YteepckjegpnffaaPx23
import Derived.Test.YteepckjegpnffaaPx24
set_option linter.unusedVariables false
set_option linter.unusedSimpArgs false
namespace Go.Proofs.Yteepckjegpnffaa.Q
open Go.RowKit Go.Proofs.Yteepckjegpnffaa.P Go.Proofs.YteepckjegpnffaaW.PrintWords Go.Proofs.YteepckjegpnffaaW.PrintLast

/-! marks -/
def mk (n : Nat) : List S36 := (List.range n).map (fun (i : Nat) => (⟨1 + 2 * (i : Int), 2 + 2 * (i : Int)⟩ : S36))
theorem mk_len (n : Nat) : (mk n).length = n := by simp [mk]
theorem mk_get (n i : Nat) (h : i < n) : (mk n)[i]'(by rw [mk_len]; exact h) = ⟨1 + 2 * (i : Int), 2 + 2 * (i : Int)⟩ := by simp [mk]
theorem mark_loop (l : List S36) (hl : l.length ≤ 1048576) (d : Nat) : ∀ i : Nat, i + d = l.length →
    Ev (fun k => laws_markPointS.l0 k ((mk l.length).take i ++ l.drop i) (1 + 2 * (i : Int)) i) (1 + 2 * (l.length : Int), mk l.length) := by
  induction d with
  | zero =>
    intro i hi
    refine Ev.step (f := fun _ => some (1 + 2 * (l.length : Int), mk l.length)) (fun k => ?_) (Ev.now _)
    simp only [laws_markPointS.l0]
    rw [if_neg (by simp [mk_len]; omega), List.take_of_length_le (by rw [mk_len]; omega), List.drop_eq_nil_of_le (by omega), List.append_nil, show i = l.length from by omega]
  | succ d ih =>
    intro i hi
    refine Ev.step (fun k => ?_) (ih (i + 1) (by omega))
    have hlen : ((mk l.length).take i ++ l.drop i).length = l.length := by simp [mk_len]; omega
    have h1 : ((mk l.length).take i).length = i := by simp [mk_len]; omega
    simp only [laws_markPointS.l0]
    rw [hlen, if_pos (by omega), if_pos (by omega), Option.bind_some, Int.toNat_natCast, w64 (x := 1 + 2 * (i : Int) + 1) (by omega) (by omega), w64 (x := 1 + 2 * (i : Int) + 1 + 1) (by omega) (by omega), w64 (x := (i : Int) + 1) (by omega) (by omega)]
    have e : ((((mk l.length).take i ++ l.drop i).set i (⟨1 + 2 * (i : Int), (rd_T36 ((mk l.length).take i ++ l.drop i) i).f1⟩ : S36)).set i (⟨(rd_T36 (((mk l.length).take i ++ l.drop i).set i (⟨1 + 2 * (i : Int), (rd_T36 ((mk l.length).take i ++ l.drop i) i).f1⟩ : S36)) i).f0, 1 + 2 * (i : Int) + 1⟩ : S36)) = (mk l.length).take (i + 1) ++ l.drop (i + 1) := by
      generalize (rd_T36 ((mk l.length).take i ++ l.drop i) i).f1 = q
      rw [rd47_get _ i (by simp only [List.length_set]; omega), List.set_set, List.getElem_set_self]
      rw [List.set_append_right _ _ (by omega), h1, Nat.sub_self, List.drop_eq_getElem_cons (by omega), List.set_cons_zero, List.take_succ_eq_append_getElem (by rw [mk_len]; omega), mk_get _ _ (by omega), List.append_assoc]
      rw [show (1 + 2 * (i : Int) + 1) = 2 + 2 * (i : Int) from by omega]
      rfl
    rw [e, show ((i + 1 : Nat) : Int) = (i : Int) + 1 from by omega, show 1 + 2 * ((i : Int) + 1) = 1 + 2 * (i : Int) + 1 + 1 from by omega]
theorem mark_f (l : List S36) (hl : l.length ≤ 1048576) : Ev (fun k => laws_markPointS.f k l 1) (1 + 2 * (l.length : Int), mk l.length) :=
  Ev.congr (fun k => by simp [laws_markPointS.f]) (mark_loop l hl l.length 0 (by omega))
theorem held_loop (n : Nat) (hl : n ≤ 1048576) (d : Nat) : ∀ i : Nat, i + d = n →
    Ev (fun k => laws_heldPointS.l0 k (mk n) (1 + 2 * (i : Int)) i) (1 + 2 * (n : Int)) := by
  induction d with
  | zero =>
    intro i hi
    refine Ev.step (f := fun _ => some (1 + 2 * (n : Int))) (fun k => ?_) (Ev.now _)
    simp only [laws_heldPointS.l0]
    rw [if_neg (by rw [mk_len]; omega), show i = n from by omega]
  | succ d ih =>
    intro i hi
    refine Ev.step (fun k => ?_) (ih (i + 1) (by omega))
    simp only [laws_heldPointS.l0]
    rw [rd47_get _ i (by rw [mk_len]; omega), mk_get _ _ (by omega), mk_len, if_pos (by omega), if_pos (by omega), if_pos rfl, w64 (x := 1 + 2 * (i : Int) + 1) (by omega) (by omega), if_pos (show 2 + 2 * (i : Int) = 1 + 2 * (i : Int) + 1 from by omega), w64 (x := 1 + 2 * (i : Int) + 1 + 1) (by omega) (by omega), w64 (x := (i : Int) + 1) (by omega) (by omega)]
    rw [show ((i + 1 : Nat) : Int) = (i : Int) + 1 from by omega, show 1 + 2 * ((i : Int) + 1) = 1 + 2 * (i : Int) + 1 + 1 from by omega]
theorem held_f (n : Nat) (hl : n ≤ 1048576) : Ev (fun k => laws_heldPointS.f k (mk n) 1) (1 + 2 * (n : Int)) :=
  Ev.congr (fun k => by simp [laws_heldPointS.f]) (held_loop n hl n 0 (by omega))

/-! slices.Reverse -/
theorem rev_loop (n : Nat) (hn : n ≤ 1048576) (d : Nat) : ∀ (x : List S36) (i : Nat), x.length = n → 2 * i + d = n →
    ∃ y : List S36, Ev (fun k => impl_Point.l0 k x i ((n : Int) - 1 - i)) y ∧ y.length = n ∧ ∀ p, p < n → y[p]? = if i ≤ p ∧ p < n - i then x[n - 1 - p]? else x[p]? := by
  induction d using Nat.strongRecOn with
  | ind d ih =>
    intro x i hx hd
    by_cases h : d ≤ 1
    · refine ⟨x, Ev.step (f := fun _ => some x) (fun k => ?_) (Ev.now _), hx, fun p hp => ?_⟩
      · simp only [impl_Point.l0]
        rw [if_neg (by omega)]
      · split
        · rw [show n - 1 - p = p from by omega]
        · rfl
    · have e1 : (n : Int) - 1 - i = ((n - 1 - i : Nat) : Int) := by omega
      obtain ⟨y, hy, hl, hp⟩ := ih (d - 2) (by omega) ((x.set i (x[n - 1 - i]'(by omega))).set (n - 1 - i) (x[i]'(by omega))) (i + 1) (by simp [hx]) (by omega)
      refine ⟨y, Ev.step (fun k => ?_) hy, hl, fun p hlt => ?_⟩
      · simp only [impl_Point.l0]
        rw [e1, if_pos (by omega), if_pos (by omega), if_pos (by omega), if_pos (by omega), if_pos (by omega), rd47_get _ _ (by omega), rd47_get _ _ (by omega), Int.toNat_natCast, Int.toNat_natCast, w64 (by omega) (by omega), w64 (by omega) (by omega)]
        rw [show ((n - 1 - i : Nat) : Int) - 1 = (n : Int) - 1 - ((i + 1 : Nat) : Int) from by omega]
        rfl
      · rw [hp p hlt]
        by_cases a : i + 1 ≤ p ∧ p < n - (i + 1)
        · rw [if_pos a, if_pos (by omega), List.getElem?_set_ne (by omega), List.getElem?_set_ne (by omega)]
        · rw [if_neg a]
          by_cases b : p = i
          · subst b
            rw [if_pos (by omega), List.getElem?_set_ne (by omega), List.getElem?_set_self (by omega), List.getElem?_eq_getElem]
          · by_cases c : p = n - 1 - i
            · subst c
              rw [if_pos (by omega), List.getElem?_set_self (by simp; omega), show n - 1 - (n - 1 - i) = i from by omega, List.getElem?_eq_getElem]
            · rw [if_neg (by omega), List.getElem?_set_ne (by omega), List.getElem?_set_ne (by omega)]
theorem rev_f (x : List S36) (hx : x.length ≤ 1048576) : Ev (fun k => impl_Point.f k x) x.reverse := by
  obtain ⟨y, hy, hl, hp⟩ := rev_loop x.length hx x.length x 0 rfl (by omega)
  have e : y = x.reverse := by
    apply List.ext_getElem?
    intro p
    rcases Nat.lt_or_ge p x.length with h | h
    · rw [hp p h, if_pos (by omega), List.getElem?_reverse h]
    · rw [List.getElem?_eq_none (by omega), List.getElem?_eq_none (by simp; omega)]
  rw [← e]
  refine Ev.congr (fun k => ?_) hy
  simp only [impl_Point.f]
  have e0 : (x.length : Int) - 1 - ((0 : Nat) : Int) = (x.length : Int) - 1 := by omega
  rw [w64 (by omega) (by omega), e0]
  rfl

/-! the moved polygon -/
def img (o a b : Int) (q : S36) : S36 := ⟨tx o q.f0 q.f1 + a, ty o q.f0 q.f1 + b⟩
def onQ (q : S36) : Bool := onP q.f0 q.f1
theorem spec_onP (x y : Int) : spec_l01OnChip.f x y = some (onP x y) := by
  unfold spec_l01OnChip.f spec_l01In.f onP
  by_cases a : -40 ≤ x <;> by_cases b : x ≤ 40 <;> by_cases c : -40 ≤ y <;> by_cases d : y ≤ 40 <;> simp [a, b, c, d]
theorem vp_on {l : List S36} (h : vp l = true) : l.length ≤ 12800 ∧ ∀ i (hi : i < l.length), -40 ≤ l[i].f0 ∧ l[i].f0 ≤ 40 ∧ -40 ≤ l[i].f1 ∧ l[i].f1 ≤ 40 := by
  unfold vp at h
  rw [Bool.and_eq_true, decide_eq_true_eq] at h
  refine ⟨h.1.2.1, fun i hi => ?_⟩
  have := List.all_eq_true.1 h.2 i (by simpa using hi)
  unfold okI at this
  simp only [Bool.and_eq_true] at this
  have h1 := of_decide_eq_true this.1.1
  unfold X Y at h1
  rw [Nat.mod_eq_of_lt hi] at h1
  simpa [List.getD_eq_getElem?_getD, hi] using h1
def mvRes (o a b : Int) (l : List S36) : List S36 := if o ≥ 4 then (l.map (img o a b)).reverse else l.map (img o a b)
def mvPol (o a b : Int) (l : List S36) : List S36 × Bool :=
  if okT o a b && vp l && l.all (fun q => onQ (img o a b q)) then (mvRes o a b l, true) else ([], false)
theorem mvRes_len (o a b : Int) (l : List S36) : (mvRes o a b l).length = l.length := by unfold mvRes; split <;> simp
theorem mvPol_len (o a b : Int) (l : List S36) : (mvPol o a b l).1.length ≤ l.length := by
  unfold mvPol
  split
  · exact Nat.le_of_eq (mvRes_len o a b l)
  · simp
section
variable {o a b : Int} {l : List S36} (hT : okT o a b = true) (hV : vp l = true)
include hT hV
theorem impl_loop (d : Nat) : ∀ i : Nat, i + d = l.length →
    Ev (fun k => impl_MovePolygon.l0 k ((l.take i).map (img o a b)) l (l.length : Int) i o a b) (if (l.drop i).all (fun q => onQ (img o a b q)) then (mvRes o a b l, true) else ([], false)) := by
  obtain ⟨hlen, hon⟩ := vp_on hV
  obtain ⟨a0, a1, a2, a3, a4, a5⟩ := okT_bd hT
  induction d with
  | zero =>
    intro i hi
    rw [List.drop_eq_nil_of_le (by omega), List.take_of_length_le (by omega)]
    simp only [List.all_nil, if_true]
    by_cases h : o ≥ 4
    · refine Ev.step (f := fun k => (impl_Point.f k (l.map (img o a b))).bind fun t => some (t, true)) (fun k => ?_) (Ev.bind (rev_f _ (by simp; omega)) ?_)
      · simp only [impl_MovePolygon.l0]
        rw [if_neg (by omega), if_pos h]
      · unfold mvRes
        rw [if_pos h]
        exact Ev.now _
    · refine Ev.step (f := fun k => some (l.map (img o a b), true)) (fun k => ?_) ?_
      · simp only [impl_MovePolygon.l0]
        rw [if_neg (by omega), if_neg h]
      · unfold mvRes
        rw [if_neg h]
        exact Ev.now _
  | succ d ih =>
    intro i hi
    have hi' : i < l.length := by omega
    obtain ⟨b0, b1, b2, b3⟩ := hon i hi'
    rw [List.drop_eq_getElem_cons hi', List.all_cons]
    refine Ev.step (f := fun k => (impl_move.f k o a b l[i].f0 l[i].f1).bind fun bt176 => ((impl_onChip.f bt176.1 bt176.2).bind fun t179 => (if t179 = true then (if ((l.take i).map (img o a b)).length < 8796093022208 then (impl_MovePolygon.l0 k ((l.take i).map (img o a b) ++ [(⟨bt176.1, bt176.2⟩ : S36)]) l l.length (wrap64 ((i : Int) + 1)) o a b) else (none)) else (some (([] : List (S36)), false))))) (fun k => ?_)
      (Ev.bind (impl_move_f o a b l[i].f0 l[i].f1 a0 a1 (by unfold B; omega) (by unfold B; omega) (by unfold B; omega) (by unfold B; omega)) ?_)
    · simp only [impl_MovePolygon.l0]
      rw [if_pos (by omega), if_pos (by omega), if_pos (by omega), rd47_get _ _ hi']
    · simp only [impl_onP, Option.bind_some]
      have e : onQ (img o a b l[i]) = onP (tx o l[i].f0 l[i].f1 + a) (ty o l[i].f0 l[i].f1 + b) := rfl
      rw [e]
      cases onP (tx o l[i].f0 l[i].f1 + a) (ty o l[i].f0 l[i].f1 + b) with
      | false => simp only [Bool.false_eq_true, if_false, Bool.false_and]; exact Ev.now _
      | true =>
        simp only [if_true, Bool.true_and]
        have hm : ((l.take i).map (img o a b)).length < 8796093022208 := by simp only [List.length_map, List.length_take]; omega
        have hw : wrap64 ((i : Int) + 1) = (i : Int) + 1 := w64 (by omega) (by omega)
        simp only [if_pos hm, hw]
        have h := ih (i + 1) (by omega)
        rw [List.take_succ_eq_append_getElem hi', List.map_append] at h
        exact h
theorem spec_loop (d : Nat) : ∀ i : Nat, i + d = l.length →
    Ev (fun k => spec_MovePolygon.l0 k l (mvRes o a b (l.take i)) i o a b) (if (l.drop i).all (fun q => onQ (img o a b q)) then (mvRes o a b l, true) else ([], false)) := by
  obtain ⟨hlen, hon⟩ := vp_on hV
  obtain ⟨a0, a1, a2, a3, a4, a5⟩ := okT_bd hT
  induction d with
  | zero =>
    intro i hi
    rw [List.drop_eq_nil_of_le (by omega), List.take_of_length_le (by omega)]
    simp only [List.all_nil, if_true]
    refine Ev.step (f := fun k => some (mvRes o a b l, true)) (fun k => ?_) (Ev.now _)
    simp only [spec_MovePolygon.l0]
    rw [if_neg (by omega)]
  | succ d ih =>
    intro i hi
    have hi' : i < l.length := by omega
    obtain ⟨b0, b1, b2, b3⟩ := hon i hi'
    have hm : (mvRes o a b (l.take i)).length < 8796093022208 := by rw [mvRes_len]; simp; omega
    have hm2 : ∀ q : S36, [q].length + (mvRes o a b (l.take i)).length < 8796093022208 := fun q => by rw [mvRes_len]; simp; omega
    rw [List.drop_eq_getElem_cons hi', List.all_cons]
    refine Ev.step (f := fun k => (spec_l01Move.f k o a b l[i].f0 l[i].f1).bind fun bt123 => ((spec_l01OnChip.f bt123.1 bt123.2).bind fun t126 => (if t126 = true then (spec_MovePolygon.l0 k l (if o ≥ 4 then [(⟨bt123.1, bt123.2⟩ : S36)] ++ mvRes o a b (l.take i) else mvRes o a b (l.take i) ++ [(⟨bt123.1, bt123.2⟩ : S36)]) ((i : Int) + 1) o a b) else (some (([] : List (S36)), false))))) (fun k => ?_)
      (Ev.bind (spec_move_f o a b l[i].f0 l[i].f1 a0 a1 (by unfold B; omega) (by unfold B; omega) (by unfold B; omega) (by unfold B; omega)) ?_)
    · simp only [spec_MovePolygon.l0]
      rw [if_pos (by omega), if_pos (by omega), rd47_get _ _ hi', w64 (by omega) (by omega)]
      by_cases h : o ≥ 4
      · simp only [if_pos h, Option.bind_some, if_pos (hm2 _)]
      · simp only [if_neg h, if_pos hm]
    · simp only [spec_onP, Option.bind_some]
      have e : onQ (img o a b l[i]) = onP (tx o l[i].f0 l[i].f1 + a) (ty o l[i].f0 l[i].f1 + b) := rfl
      rw [e]
      cases onP (tx o l[i].f0 l[i].f1 + a) (ty o l[i].f0 l[i].f1 + b) with
      | false => simp only [Bool.false_eq_true, if_false, Bool.false_and]; exact Ev.now _
      | true =>
        simp only [if_true, Bool.true_and]
        have h := ih (i + 1) (by omega)
        have e2 : mvRes o a b (l.take (i + 1)) = if o ≥ 4 then [img o a b l[i]] ++ mvRes o a b (l.take i) else mvRes o a b (l.take i) ++ [img o a b l[i]] := by
          unfold mvRes
          rw [List.take_succ_eq_append_getElem hi', List.map_append]
          split <;> simp
        rw [e2] at h
        exact h
end
theorem impl_mvPol (o a b : Int) (l : List S36) : Ev (fun k => impl_MovePolygon.f k o a b l) (mvPol o a b l) := by
  unfold impl_MovePolygon.f mvPol
  simp only [impl_okT, Option.bind_some]
  cases hT : okT o a b with
  | false =>
    simp only [Bool.false_eq_true, if_false, Bool.false_and]
    exact Ev.step (f := fun _ => some ([], false)) (fun k => by simp [impl_MovePolygon.j0]) (Ev.now _)
  | true =>
    simp only [if_true, Bool.true_and]
    have hv : impl_IsValidPolygon.f l = some (vp l) := rfl
    simp only [hv, Option.bind_some]
    cases hV : vp l with
    | false =>
      simp only [Bool.not_false, Bool.false_and, Bool.false_eq_true, if_false]
      exact Ev.step (f := fun _ => some ([], false)) (fun k => by simp [impl_MovePolygon.j0]) (Ev.now _)
    | true =>
      simp only [Bool.not_true, Bool.true_and]
      refine Ev.step (fun k => ?_) (impl_loop hT hV l.length 0 (by omega))
      simp only [impl_MovePolygon.j0, Bool.false_eq_true, if_false, List.take_zero, List.map_nil]
      rfl
theorem spec_mvPol (o a b : Int) (l : List S36) : Ev (fun k => spec_MovePolygon.f k o a b l) (mvPol o a b l) := by
  unfold spec_MovePolygon.f mvPol
  simp only [spec_okT, Option.bind_some]
  cases hT : okT o a b with
  | false =>
    simp only [Bool.false_eq_true, if_false, Bool.false_and]
    exact Ev.step (f := fun _ => some ([], false)) (fun k => by simp [spec_MovePolygon.j0]) (Ev.now _)
  | true =>
    simp only [if_true, Bool.true_and]
    have hv : spec_IsValidPolygon.f l = some (vp l) := rfl
    simp only [hv, Option.bind_some]
    cases hV : vp l with
    | false =>
      simp only [Bool.not_false, Bool.false_and, Bool.false_eq_true, if_false]
      exact Ev.step (f := fun _ => some ([], false)) (fun k => by simp [spec_MovePolygon.j0]) (Ev.now _)
    | true =>
      simp only [Bool.not_true, Bool.true_and]
      refine Ev.step (fun k => ?_) (spec_loop hT hV l.length 0 (by omega))
      simp only [spec_MovePolygon.j0, Bool.false_eq_true, if_false, List.take_zero]
      have e : mvRes o a b [] = [] := by unfold mvRes; split <;> rfl
      rw [e]
      rfl
end Go.Proofs.Yteepckjegpnffaa.Q
