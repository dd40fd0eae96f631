/- Small laws for walks by hand: a block whose cells are known. -/
import Derived.Test.YteepckjegpnffaaWWords
import Derived.Test.YteepckjegpnffaaWMore
import Derived.Laws.Tables
import Derived.Lib.Hide
set_option linter.unusedVariables false
set_option linter.unusedSimpArgs false
namespace Go.Proofs.Yteepckjegpnffaa.H
open Go.RowKit Go.Proofs.YteepckjegpnffaaW.PrintWords Go.Proofs.YteepckjegpnffaaW.PrintLast

section
variable {P : Program} {ops : Array Oper} {o : Oper} {rest : List Oper} {a : Act} {Q : Exit → Act → World → Prop} {W : World}
theorem wpList_build_nil (hg : o.guard = none) (t : TypeId) (ho : o.op = .build t #[]) (cells : Array Value) (hP : P.built t [] = some cells)
    (h : wpList P ops Q rest (a.put o.dst (.agg cells)) W) : wpList P ops Q (o :: rest) a W := by
  refine wpList_build hg t #[] ho ?_ ?_
  · simp only [List.map_toArray, List.map_nil, hP, Option.isSome_some]
  · simpa only [List.map_toArray, List.map_nil, hP, Option.getD_some] using h
end


/-! a block whose cells are known -/
def Box (w : World) (b : Nat) (cs : Array Value) (t : Nat) : Prop := w.heap[b]? = some (.cells cs t (0, 0))
section
variable {w w' : World} {b t : Nat} {cs : Array Value}
theorem Box.cell (h : Box w b cs t) (i : Nat) (v : Value) (hv : cs[i]? = some v) : w.cell? ⟨b, i, none⟩ = some v := by
  unfold Box at h
  simp only [World.cell?, h, Option.isSome_none, Bool.false_eq_true, if_false]
  exact hv
theorem Box.frozen (h : Box w b cs t) (i : Nat) : w.frozen? ⟨b, i, none⟩ = false := by
  unfold Box at h
  simp [World.frozen?, h]
theorem Box.lt (h : Box w b cs t) : b < w.heap.size := by
  unfold Box at h
  rcases Nat.lt_or_ge b w.heap.size with h1 | h1
  · exact h1
  · rw [Array.getElem?_eq_none h1] at h; cases h
theorem Box.below (h : Box w b cs t) (hb : Below w.heap.size w w') : Box w' b cs t := by
  have := h.lt
  unfold Box at *
  rw [hb.block b this]
  exact h
theorem Box.alloc (h : Box w b cs t) (o : Obj) : Box (w.alloc o) b cs t := h.below ((Below.refl _ _).alloc (Nat.le_refl _) _)
theorem Box.new (w : World) (cs : Array Value) (t : Nat) : Box (w.alloc (.cells cs t (0, 0))) w.heap.size cs t := blk_new w _
theorem Box.far (h : Box w b cs t) {p : Addr} (hp : p.block ≠ b) (v : Value) : Box (w.setCell p v) b cs t := by
  unfold Box at *
  rw [Below.heap_setCell w p v b (fun e => hp e.symm)]
  exact h
theorem Box.set (h : Box w b cs t) (i : Nat) (v : Value) (cs' : Array Value) (e : cs.setIfInBounds i v = cs') : Box (w.setCell ⟨b, i, none⟩ v) b cs' t := blk_put h i v e
theorem Box.drewN (h : Box w b cs t) (n : Nat) : Box (w.drewN n) b cs t := h
theorem Box.drew (h : Box w b cs t) : Box w.drew b cs t := h
end
/-- A byte of a slice that is read. -/
theorem byteCell {w : World} {A : Option Addr} {l : List Int} (h : Kd.C (Kd.int .u8) w A l.length l) (i : Nat) (hi : i < l.length) :
    ∃ ad, A = some ad ∧ w.cell? (ad.add i) = some (.int .u8 l[i]) := by
  obtain ⟨ad, c, e, hl, hK, hc⟩ := Kd.C_get h (0 : Int) (i : Int) (by omega) (by omega)
  have hK : c = [.int .u8 (l.getD (i : Int).toNat 0)] := hK
  subst hK
  refine ⟨ad, e, ?_⟩
  have := hc 0 _ rfl
  rw [Int.toNat_natCast] at this
  have e2 : l.getD i 0 = l[i] := by simp [List.getD_eq_getElem?_getD, hi]
  rw [e2] at this
  simpa [Kd.int, Kd.scalar] using this
end Go.Proofs.Yteepckjegpnffaa.H
