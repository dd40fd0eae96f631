/- IsValidPolygon: the pure statement. -/
import Derived.Test.YtjpfhnpdbjefkaaStmFnExactIsValidPolygon
import Derived.Test.YtjpfhnpdbjefkaaQPoly
set_option linter.unusedVariables false
namespace Go.Proofs.Ytjpfhnpdbjefkaa.fnExactIsValidPolygon
open Go.RowKit Go.Proofs.Ytjpfhnpdbjefkaa.P Go.Proofs.Ytjpfhnpdbjefkaa.Q Go.Proofs.YtjpfhnpdbjefkaaW.PrintWords Go.Proofs.YtjpfhnpdbjefkaaW.PrintLast
theorem pure : Stm := by
  intro l hl
  apply Ev.rounds
  unfold laws_FnExactIsValidPolygon.f
  refine Ev.bind (g := fun _ => laws_szPointS.f l 1048576) (Ev.congr (fun _ => sz_ok l hl.1 1048576 (by omega)) (Ev.now _)) ?_
  by_cases h : l.length ≤ 1048576
  · simp only [if_pos h]
    have hn : ¬ (((1048576 - l.length : Nat) : Int) < 0) := by omega
    simp only [if_neg hn]
    have hc : (convs l).length ≤ 1048576 := by simpa [convs] using h
    refine Ev.bind (toS l h) (Ev.bind (spec_vp _ hc) (Ev.bind (toS l h) (Ev.bind (impl_vp _ hc) ?_)))
    simp only [bne_self_eq_false, Bool.false_eq_true, if_false]
    refine Ev.bind (toS l h) (Ev.bind (eqS _ hc) ?_)
    exact Ev.now true
  · simp only [if_neg h]
    exact Ev.now true
end Go.Proofs.Ytjpfhnpdbjefkaa.fnExactIsValidPolygon
