/- FnTransforms: the pure statement. -/
import Derived.Test.YteepckjegpnffaaStmFnTransforms
namespace Go.Proofs.Yteepckjegpnffaa.fnTransforms
open Go.RowKit Go.Proofs.Yteepckjegpnffaa.P Go.Proofs.Yteepckjegpnffaa.Q Go.Proofs.YteepckjegpnffaaW.PrintWords Go.Proofs.YteepckjegpnffaaW.PrintLast
theorem pure : Stm := by
  intro l hl
  unfold laws_FnTransforms.f
  refine if_pos (fun x hx => ?_)
  have h := hl.2 x hx
  simp only [I5, Lit.wf, Bool.and_eq_true, decide_eq_true_eq] at h
  have h1 : IntKind.u8.min = 0 := by decide
  have h2 : IntKind.u8.max = 255 := by decide
  rw [h1, h2] at h
  omega
end Go.Proofs.Yteepckjegpnffaa.fnTransforms
