/- The pure statement of FnExactMovePolygon, and how its arguments are read. -/
import Derived.Test.YteepckjegpnffaaPx25
import Derived.Test.YteepckjegpnffaaOpens
import Derived.KernelRfl
namespace Go.Proofs.Yteepckjegpnffaa.fnExactMovePolygon
open Go.RowKit Go.Proofs.Yteepckjegpnffaa Go.Proofs.Yteepckjegpnffaa.P Go.Proofs.YteepckjegpnffaaW.PrintWords Go.Proofs.YteepckjegpnffaaW.PrintLast
structure S47 where
  f0 : Int
  f1 : Int
  f2 : Int
def k47 : Kd S47 := Kd.iso (Kd.pair (Kd.int .i64) (Kd.pair (Kd.int .i64) (Kd.int .i64))) (fun x : S47 => (x.f0, x.f1, x.f2))
theorem k47_open {w : World} {x : S47} {cs : List Value} (h : k47.K w x cs) : cs = [.int .i64 x.f0, .int .i64 x.f1, .int .i64 x.f2] := by
  obtain ⟨_, _, rfl, rfl, _, _, rfl, rfl, rfl⟩ := h
  exact rfl
def I2 (y : Int) : Prop := (Lit.int .i64 y).wf = true
def I47 (y : S47) : Prop := I2 y.f0 ∧ I2 y.f1 ∧ I2 y.f2
def I74 (y : S74) : Prop := I2 y.f0 ∧ I2 y.f1
def I48 (y : (List S74)) : Prop := y.length ≤ maxLen ∧ ∀ z ∈ y, I74 z
theorem opens2 : Opens Try.prog 2 (Kd.int .i64) I2 := Opens.int Try.underlying2
theorem opens47 : Opens Try.prog 47 k47 I47 := (Opens.iso (fun p => (⟨p.1, p.2.1, p.2.2⟩ : S47)) (fun _ => rfl) (Opens.struct Try.underlying47 (by kernel_rfl) (OpensF.cons rfl (by kernel_rfl) opens2 (OpensF.cons rfl (by kernel_rfl) opens2 (OpensF.one rfl (by kernel_rfl) opens2))))).imp (fun _ h => h)
theorem opens74 : Opens Try.prog 74 k74 I74 := (Opens.iso (fun p => (⟨p.1, p.2⟩ : S74)) (fun _ => rfl) (Opens.struct Try.underlying74 (by kernel_rfl) (OpensF.cons rfl (by kernel_rfl) opens2 (OpensF.one rfl (by kernel_rfl) opens2)))).imp (fun _ h => h)
theorem opens48 : Opens Try.prog 48 (Kd.slice 74 k74) I48 := Opens.slice Try.underlying48 (by kernel_rfl) opens74
def Stm : Prop := ∀ (s0 : S47) (l1 : (List S74)), I47 s0 → I48 l1 →  ∃ k, laws_FnExactMovePolygon.f k s0.f0 s0.f1 s0.f2 l1 = some true
end Go.Proofs.Yteepckjegpnffaa.fnExactMovePolygon
