/- The pure statement of FnTransforms, and how its arguments are read. -/
import Derived.Test.YteepckjegpnffaaTransforms
import Derived.Test.YteepckjegpnffaaOpens
import Derived.KernelRfl
namespace Go.Proofs.Yteepckjegpnffaa.fnTransforms
open Go.RowKit Go.Proofs.Yteepckjegpnffaa Go.Proofs.Yteepckjegpnffaa.P Go.Proofs.YteepckjegpnffaaW.PrintWords Go.Proofs.YteepckjegpnffaaW.PrintLast
def I5 (y : Int) : Prop := (Lit.int .u8 y).wf = true
def I22 (y : (List Int)) : Prop := y.length ≤ maxLen ∧ ∀ z ∈ y, I5 z
theorem opens5 : Opens Try.prog 5 (Kd.int .u8) I5 := Opens.int Try.underlying5
theorem opens22 : Opens Try.prog 22 (Kd.slice 5 (Kd.int .u8)) I22 := Opens.slice Try.underlying22 (by kernel_rfl) opens5
def Stm : Prop := ∀ (l0 : (List Int)), I22 l0 →  laws_FnTransforms.f l0 = some true
end Go.Proofs.Yteepckjegpnffaa.fnTransforms
