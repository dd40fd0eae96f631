/- The pure statement of FnExactSamePolygon, and how its arguments are read. -/
import Derived.Test.YtjpfhnpdbjefkaaPx32
import Derived.Test.YtjpfhnpdbjefkaaOpens
import Derived.KernelRfl
namespace Go.Proofs.Ytjpfhnpdbjefkaa.fnExactSamePolygon
open Go.RowKit Go.Proofs.Ytjpfhnpdbjefkaa Go.Proofs.Ytjpfhnpdbjefkaa.P Go.Proofs.YtjpfhnpdbjefkaaW.PrintWords Go.Proofs.YtjpfhnpdbjefkaaW.PrintLast
def I2 (y : Int) : Prop := (Lit.int .i64 y).wf = true
def I50 (y : S50) : Prop := I2 y.f0 ∧ I2 y.f1
def I32 (y : (List S50)) : Prop := y.length ≤ maxLen ∧ ∀ z ∈ y, I50 z
theorem opens2 : Opens Try.prog 2 (Kd.int .i64) I2 := Opens.int Try.underlying2
theorem opens50 : Opens Try.prog 50 k50 I50 := (Opens.iso (fun p => (⟨p.1, p.2⟩ : S50)) (fun _ => rfl) (Opens.struct Try.underlying50 (by kernel_rfl) (OpensF.cons rfl (by kernel_rfl) opens2 (OpensF.one rfl (by kernel_rfl) opens2)))).imp (fun _ h => h)
theorem opens32 : Opens Try.prog 32 (Kd.slice 50 k50) I32 := Opens.slice Try.underlying32 (by kernel_rfl) opens50
def Stm : Prop := ∀ (l0 : (List S50)) (l1 : (List S50)), I32 l0 → I32 l1 →  ∃ k, laws_FnExactSamePolygon.f k l0 l1 = some true
end Go.Proofs.Ytjpfhnpdbjefkaa.fnExactSamePolygon
