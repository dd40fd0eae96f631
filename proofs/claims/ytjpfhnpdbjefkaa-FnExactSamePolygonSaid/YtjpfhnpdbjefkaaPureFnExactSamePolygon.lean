/- SamePolygon: the pure statement. -/
import Derived.Test.YtjpfhnpdbjefkaaStmFnExactSamePolygon
import Derived.Test.YtjpfhnpdbjefkaaQSame
set_option linter.unusedVariables false
set_option linter.unusedSimpArgs false
namespace Go.Proofs.Ytjpfhnpdbjefkaa.fnExactSamePolygon
open Go.RowKit Go.Proofs.Ytjpfhnpdbjefkaa.P Go.Proofs.Ytjpfhnpdbjefkaa.Q Go.Proofs.YtjpfhnpdbjefkaaW.PrintWords Go.Proofs.YtjpfhnpdbjefkaaW.PrintLast
theorem pure : Stm := by
  intro l m hl hm
  apply Ev.rounds
  unfold laws_FnExactSamePolygon.f
  refine Ev.bind (g := fun _ => laws_szPointS.f l 1048576) (Ev.congr (fun _ => sz_ok l hl.1 1048576 (by omega)) (Ev.now _)) ?_
  by_cases h : l.length ≤ 1048576
  · simp only [if_pos h]
    have hn : ¬ (((1048576 - l.length : Nat) : Int) < 0) := by omega
    simp only [if_neg hn]
    refine Ev.bind (g := fun _ => laws_szPointS.f m ((1048576 - l.length : Nat) : Int)) (Ev.congr (fun _ => sz_ok m hm.1 (1048576 - l.length) (by omega)) (Ev.now _)) ?_
    by_cases h2 : m.length ≤ 1048576 - l.length
    · simp only [if_pos h2]
      have hn2 : ¬ (((1048576 - l.length - m.length : Nat) : Int) < 0) := by omega
      simp only [if_neg hn2]
      have hc : (convs l).length ≤ 1048576 := by simpa [convs] using h
      have hc2 : (convs m).length ≤ 1048576 := by simp [convs]; omega
      have hm2 : m.length ≤ 1048576 := by omega
      refine Ev.bind (toS l h) (Ev.bind (toS m hm2) (Ev.bind (spec_same _ _) (Ev.bind (toS l h) (Ev.bind (toS m hm2) (Ev.bind (Ev.now (sameP (convs l) (convs m))) ?_)))))
      simp only [bne_self_eq_false, Bool.false_eq_true, if_false]
      refine Ev.bind (toS l h) (Ev.bind (eqS _ hc) ?_)
      simp only [if_true]
      refine Ev.bind (toS m hm2) (Ev.bind (eqS _ hc2) ?_)
      exact Ev.now true
    · simp only [if_neg h2]
      exact Ev.now true
  · simp only [if_neg h]
    exact Ev.now true
end Go.Proofs.Ytjpfhnpdbjefkaa.fnExactSamePolygon
