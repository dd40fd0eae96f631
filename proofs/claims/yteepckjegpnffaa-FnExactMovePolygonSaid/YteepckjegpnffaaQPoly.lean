/- Lists of points: what the laws' conversions and comparisons give. -/
import Derived.Test.YteepckjegpnffaaPx2
import Derived.Test.YteepckjegpnffaaPx12
import Derived.Test.YteepckjegpnffaaPolyBase
import Derived.Test.YteepckjegpnffaaPx22
set_option linter.unusedVariables false
set_option linter.unusedSimpArgs false
namespace Go.Proofs.Yteepckjegpnffaa.Q
open Go.RowKit Go.Proofs.Yteepckjegpnffaa.P Go.Proofs.YteepckjegpnffaaW.PrintWords Go.Proofs.YteepckjegpnffaaW.PrintLast


/-! conversions -/
def conv (x : S74) : S36 := ⟨x.f0, x.f1⟩
def convs (l : List S74) : List S36 := l.map conv

theorem rd50_get (l : List S74) (i : Nat) (h : i < l.length) : rd_T74 l i = l[i] := by
  simp [rd_T74, List.getD_eq_getElem?_getD, h]
theorem rd47_get (l : List S36) (i : Nat) (h : i < l.length) : rd_T36 l i = l[i] := by
  simp [rd_T36, List.getD_eq_getElem?_getD, h]

theorem toS_loop (l : List S74) (hl : l.length ≤ 1048576) (d : Nat) : ∀ i : Nat, i + d = l.length →
    Ev (fun k => laws_toPointS.l0 k l ((convs l).take i ++ List.replicate d z36) i) (convs l) := by
  induction d with
  | zero =>
    intro i hi
    refine Ev.step (f := fun _ => some (convs l)) (fun k => ?_) (Ev.now _)
    simp only [laws_toPointS.l0]
    rw [if_neg (by omega)]
    rw [List.take_of_length_le (by simp [convs]; omega)]
    simp
  | succ d ih =>
    intro i hi
    refine Ev.step (fun k => ?_) (ih (i + 1) (by omega))
    simp only [laws_toPointS.l0, laws_toPoint.f, Option.bind_some]
    rw [if_pos (by omega), if_pos (by omega), if_pos (by simp [convs]; omega), w64 (by omega) (by omega), Int.toNat_natCast, rd50_get _ _ (by omega)]
    have e : (((convs l).take i ++ List.replicate (d + 1) z36).set i (⟨(l[i]'(by omega)).f0, (l[i]'(by omega)).f1⟩ : S36)) = (convs l).take (i + 1) ++ List.replicate d z36 := by
      have hi2 : ((convs l).take i).length = i := by simp [convs]; omega
      rw [List.set_append_right _ _ (by omega), hi2, Nat.sub_self, List.replicate_succ, List.set_cons_zero, List.take_succ_eq_append_getElem (by simp [convs]; omega)]
      simp [convs, conv]
    rw [e]
    rfl

theorem toS (l : List S74) (hl : l.length ≤ 1048576) : Ev (fun k => laws_toPointS.f k l) (convs l) := by
  have h := toS_loop l hl l.length 0 (by omega)
  refine Ev.congr (fun k => ?_) h
  simp only [laws_toPointS.f]
  rw [if_pos (by omega), if_pos (by omega)]
  simp

theorem sz_ok (l : List S74) (hl : l.length ≤ maxLen) (b : Nat) (hb : b ≤ 1048576) : laws_szPointS.f l b = some (if l.length ≤ b then ((b - l.length : Nat) : Int) else -1) := by
  unfold maxLen at hl
  unfold laws_szPointS.f
  have e : wrap64 ((b : Int) - l.length) = b - l.length := by unfold wrap64; omega
  rw [e]
  split <;> split <;> (first | rfl | omega | (congr 1; omega))

theorem eq_pt (a b c d : Int) : laws_eqPoint.f a b c d = some (decide (a = c ∧ b = d)) := by
  unfold laws_eqPoint.f
  by_cases h1 : a = c <;> by_cases h2 : b = d <;> simp [h1, h2]

theorem eqS_loop (l : List S36) (hl : l.length ≤ 1048576) (d : Nat) : ∀ i : Nat, i + d = l.length → Ev (fun k => laws_eqPointS.l0 k l l i) true := by
  induction d with
  | zero =>
    intro i hi
    refine Ev.step (f := fun _ => some true) (fun k => ?_) (Ev.now _)
    simp only [laws_eqPointS.l0]
    rw [if_neg (by omega)]
  | succ d ih =>
    intro i hi
    refine Ev.step (fun k => ?_) (ih (i + 1) (by omega))
    simp only [laws_eqPointS.l0]
    rw [if_pos (by omega), if_pos (by omega), if_pos (by omega), eq_pt, w64 (by omega) (by omega)]
    simp

theorem eqS (l : List S36) (hl : l.length ≤ 1048576) : Ev (fun k => laws_eqPointS.f k l l) true := by
  refine Ev.congr (fun k => ?_) (eqS_loop l hl l.length 0 (by omega))
  simp only [laws_eqPointS.f]
  rw [if_pos trivial]
  rfl

end Go.Proofs.Yteepckjegpnffaa.Q
