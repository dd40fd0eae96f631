/- MovePolygon: the pure statement. -/
import Derived.Test.YteepckjegpnffaaStmFnExactMovePolygon
import Derived.Test.YteepckjegpnffaaQMove
set_option linter.unusedVariables false
set_option linter.unusedSimpArgs false
namespace Go.Proofs.Yteepckjegpnffaa.fnExactMovePolygon
open Go.RowKit Go.Proofs.Yteepckjegpnffaa.P Go.Proofs.Yteepckjegpnffaa.Q Go.Proofs.YteepckjegpnffaaW.PrintWords Go.Proofs.YteepckjegpnffaaW.PrintLast
theorem pure : Stm := by
  intro s l _ hl
  apply Ev.rounds
  unfold laws_FnExactMovePolygon.f
  refine Ev.bind (g := fun _ => laws_szPointS.f l 1048576) (Ev.congr (fun _ => sz_ok l hl.1 1048576 (by omega)) (Ev.now _)) ?_
  by_cases h : l.length ≤ 1048576
  · simp only [if_pos h]
    have hn : ¬ (((1048576 - l.length : Nat) : Int) < 0) := by omega
    simp only [if_neg hn]
    have hc : (convs l).length ≤ 1048576 := by simpa [convs] using h
    have ht : laws_toTransform.f s.f0 s.f1 s.f2 = some (s.f0, s.f1, s.f2) := rfl
    simp only [ht, Option.bind_some]
    have hr : (mvPol s.f0 s.f1 s.f2 (convs l)).1.length ≤ 1048576 := Nat.le_trans (mvPol_len _ _ _ _) hc
    refine Ev.bind (toS l h) (Ev.bind (spec_mvPol s.f0 s.f1 s.f2 (convs l)) (Ev.bind (toS l h) (Ev.bind (impl_mvPol s.f0 s.f1 s.f2 (convs l)) (Ev.bind (eqS _ hr) ?_))))
    simp only [if_true, bne_self_eq_false]
    generalize hm : mvPol s.f0 s.f1 s.f2 (convs l) = m at hr
    refine Ev.step (f := fun k => (laws_toPointS.f k l).bind fun t215 => ((laws_eqPointS.f k (convs l) t215).bind fun t218 => (if t218 = true then ((laws_markPointS.f k (convs l) 1).bind fun bt219 => (if bt219.1 < 0 then (laws_FnExactMovePolygon.j1 k l m.1 m.2 m.1 true s.f0 s.f1 s.f2) else ((laws_eqPointS.f k m.1 m.1).bind fun t221 => (if t221 = true then (laws_FnExactMovePolygon.j1 k l m.1 m.2 m.1 (m.2 != m.2) s.f0 s.f1 s.f2) else (laws_FnExactMovePolygon.j1 k l m.1 m.2 m.1 true s.f0 s.f1 s.f2))))) else (some false))))
      (fun k => by simp only [laws_FnExactMovePolygon.j0, Bool.false_eq_true, if_false]) ?_
    refine Ev.bind (toS l h) (Ev.bind (eqS _ hc) ?_)
    simp only [if_true]
    refine Ev.bind (mark_f _ hc) ?_
    have hn2 : ¬ (1 + 2 * ((convs l).length : Int) < 0) := by omega
    simp only [if_neg hn2]
    refine Ev.bind (eqS _ hr) ?_
    simp only [if_true, bne_self_eq_false]
    refine Ev.step (f := fun k => (laws_markPointS.f k m.1 1).bind fun bt222 => ((laws_heldPointS.f k bt222.2 1).bind fun t224 => (if t224 < 0 then (some false) else (if t224 = bt222.1 then ((laws_toTransform.f s.f0 s.f1 s.f2).bind fun bt225 => ((laws_toPointS.f k l).bind fun t228 => ((impl_MovePolygon.f k bt225.1 bt225.2.1 bt225.2.2 t228).bind fun bt231 => ((laws_eqPointS.f k bt231.1 m.1).bind fun t235 => (if t235 = true then (laws_FnExactMovePolygon.j2 k bt222.2 bt222.1 (bt231.2 != m.2)) else (laws_FnExactMovePolygon.j2 k bt222.2 bt222.1 true)))))) else (some false)))))
      (fun k => by simp only [laws_FnExactMovePolygon.j1, Bool.false_eq_true, if_false]) ?_
    refine Ev.bind (mark_f _ hr) (Ev.bind (held_f _ hr) ?_)
    have hn3 : ¬ (1 + 2 * (m.1.length : Int) < 0) := by omega
    simp only [if_neg hn3, if_true, ht, Option.bind_some]
    refine Ev.bind (toS l h) (Ev.bind (hm ▸ impl_mvPol s.f0 s.f1 s.f2 (convs l)) (Ev.bind (eqS _ hr) ?_))
    simp only [if_true, bne_self_eq_false]
    refine Ev.step (f := fun k => (laws_heldPointS.f k (mk m.1.length) 1).bind fun t236 => (if t236 < 0 then (some false) else (if t236 = 1 + 2 * (m.1.length : Int) then (some true) else (some false))))
      (fun k => by simp only [laws_FnExactMovePolygon.j2, Bool.false_eq_true, if_false]) ?_
    refine Ev.bind (held_f _ hr) ?_
    simp only [if_neg hn3, if_true]
    exact Ev.now true
  · simp only [if_neg h]
    exact Ev.now true
end Go.Proofs.Yteepckjegpnffaa.fnExactMovePolygon
