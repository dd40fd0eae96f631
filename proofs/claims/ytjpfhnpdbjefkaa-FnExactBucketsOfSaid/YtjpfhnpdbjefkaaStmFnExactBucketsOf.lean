/- The pure statement of FnExactBucketsOf, and how its arguments are read. -/
import Derived.Test.YtjpfhnpdbjefkaaPFnExactBucketsOfx
import Derived.Test.YtjpfhnpdbjefkaaOpens
import Derived.KernelRfl
namespace Go.Proofs.Ytjpfhnpdbjefkaa.fnExactBucketsOf
open Go.RowKit Go.Proofs.Ytjpfhnpdbjefkaa Go.Proofs.Ytjpfhnpdbjefkaa.PFnExactBucketsOf Go.Proofs.YtjpfhnpdbjefkaaW.PrintWords Go.Proofs.YtjpfhnpdbjefkaaW.PrintLast
structure S24 where
  f0 : Int
  f1 : Int
  f2 : Int
  f3 : Int
def k24 : Kd S24 := Kd.iso (Kd.pair (Kd.int .i64) (Kd.pair (Kd.int .i64) (Kd.pair (Kd.int .i64) (Kd.int .i64)))) (fun x : S24 => (x.f0, x.f1, x.f2, x.f3))
theorem k24_open {w : World} {x : S24} {cs : List Value} (h : k24.K w x cs) : cs = [.int .i64 x.f0, .int .i64 x.f1, .int .i64 x.f2, .int .i64 x.f3] := by
  obtain ⟨_, _, rfl, rfl, _, _, rfl, rfl, _, _, rfl, rfl, rfl⟩ := h
  exact rfl
def I2 (y : Int) : Prop := (Lit.int .i64 y).wf = true
def I24 (y : S24) : Prop := I2 y.f0 ∧ I2 y.f1 ∧ I2 y.f2 ∧ I2 y.f3
theorem opens2 : Opens Try.prog 2 (Kd.int .i64) I2 := Opens.int Try.underlying2
theorem opens24 : Opens Try.prog 24 k24 I24 := (Opens.iso (fun p => (⟨p.1, p.2.1, p.2.2.1, p.2.2.2⟩ : S24)) (fun _ => rfl) (Opens.struct Try.underlying24 (by kernel_rfl) (OpensF.cons rfl (by kernel_rfl) opens2 (OpensF.cons rfl (by kernel_rfl) opens2 (OpensF.cons rfl (by kernel_rfl) opens2 (OpensF.one rfl (by kernel_rfl) opens2)))))).imp (fun _ h => h)
def Stm : Prop := ∀ (s0 : S24), I24 s0 →  ∃ k, laws_FnExactBucketsOf.f k s0.f0 s0.f1 s0.f2 s0.f3 = some true
end Go.Proofs.Ytjpfhnpdbjefkaa.fnExactBucketsOf
