/- PolygonContains: the pure statement. -/
import Derived.Test.YtjpfhnpdbjefkaaStmFnExactPolygonContains
import Derived.Test.YtjpfhnpdbjefkaaQFill
import Derived.Test.YtjpfhnpdbjefkaaPx41
set_option linter.unusedVariables false
set_option linter.unusedSimpArgs false
namespace Go.Proofs.Ytjpfhnpdbjefkaa.fnExactPolygonContains
open Go.RowKit Go.Proofs.Ytjpfhnpdbjefkaa.P Go.Proofs.Ytjpfhnpdbjefkaa.Q Go.Proofs.Ytjpfhnpdbjefkaa.H Go.Proofs.YtjpfhnpdbjefkaaW.PrintWords Go.Proofs.YtjpfhnpdbjefkaaW.PrintLast
theorem spec_pc (p : List S47) (hl : p.length ≤ 1048576) (x y : Int) : Ev (fun k => spec_PolygonContains.f k p x y) (vp p && hasG (insideG p) x y) := by
  unfold spec_PolygonContains.f
  refine Ev.bind (spec_vp p) ?_
  by_cases h : vp p = true
  · simp only [h, if_true, Bool.true_and]
    refine Ev.bind (spec_sides p hl) (Ev.bind (spec_inside p h) ?_)
    simp only [l03Has_f, Option.bind_some]
    exact Ev.now _
  · simp only [h, if_false, Bool.eq_false_iff.2 h, Bool.false_and]
    exact Ev.now false
theorem pure : Stm := by
  intro l x y hl _ _
  apply Ev.rounds
  unfold laws_FnExactPolygonContains.f
  refine Ev.bind (g := fun _ => laws_szPointS.f l 1048576) (Ev.congr (fun _ => sz_ok l hl.1 1048576 (by omega)) (Ev.now _)) ?_
  by_cases h : l.length ≤ 1048576
  · simp only [if_pos h]
    have hn : ¬ (((1048576 - l.length : Nat) : Int) < 0) := by omega
    simp only [if_neg hn]
    have hc : (convs l).length ≤ 1048576 := by simpa [convs] using h
    refine Ev.bind (toS l h) (Ev.bind (spec_pc _ hc x y) (Ev.bind (toS l h) (Ev.bind (Ev.now (vp (convs l) && hasG (insideG (convs l)) x y)) ?_)))
    simp only [bne_self_eq_false, Bool.false_eq_true, if_false]
    refine Ev.bind (toS l h) (Ev.bind (eqS _ hc) ?_)
    exact Ev.now true
  · simp only [if_neg h]
    exact Ev.now true
end Go.Proofs.Ytjpfhnpdbjefkaa.fnExactPolygonContains
