/- The pure statement of FnExactEmptyIndex, and how its arguments are read. -/
import Derived.Test.YteepckjegpnffaaEmpty
import Derived.Test.YteepckjegpnffaaOpens
import Derived.KernelRfl
namespace Go.Proofs.Yteepckjegpnffaa.fnExactEmptyIndex
open Go.RowKit Go.Proofs.Yteepckjegpnffaa Go.Proofs.Yteepckjegpnffaa.P Go.Proofs.YteepckjegpnffaaW.PrintWords Go.Proofs.YteepckjegpnffaaW.PrintLast
def Stm : Prop :=  laws_FnExactEmptyIndex.f  = some true
end Go.Proofs.Yteepckjegpnffaa.fnExactEmptyIndex
