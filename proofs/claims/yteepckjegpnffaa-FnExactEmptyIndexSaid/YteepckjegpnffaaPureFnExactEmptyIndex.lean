/- EmptyIndex: the pure statement. -/
import Derived.Test.YteepckjegpnffaaStmFnExactEmptyIndex
namespace Go.Proofs.Yteepckjegpnffaa.fnExactEmptyIndex
open Go.RowKit Go.Proofs.Yteepckjegpnffaa.P
theorem pure : Stm := rfl
end Go.Proofs.Yteepckjegpnffaa.fnExactEmptyIndex
