/- Several blocks whose cells are known, the newest first; and steps of a walk by hand over them: a struct's box made, written whole, read whole. -/
import Derived.Test.YteepckjegpnffaaBox
set_option linter.unusedVariables false
set_option linter.unusedSimpArgs false
namespace Go.Proofs.Yteepckjegpnffaa.H
open Go.RowKit Go.Proofs.YteepckjegpnffaaW.PrintWords Go.Proofs.YteepckjegpnffaaW.PrintLast

/-- The blocks, newest first. -/
def Bxs (w : World) : List (Nat × Array Value × Nat) → Prop
  | [] => True
  | x :: l => Box w x.1 x.2.1 x.2.2 ∧ (∀ y ∈ l, y.1 ≠ x.1) ∧ Bxs w l
section
variable {w w' : World} {l : List (Nat × Array Value × Nat)}
theorem Bxs.lt : ∀ {l : List (Nat × Array Value × Nat)}, Bxs w l → ∀ y ∈ l, y.1 < w.heap.size
  | [], _, y, hy => by cases hy
  | x :: l, h, y, hy => by
    rcases List.mem_cons.1 hy with rfl | hy
    · exact h.1.lt
    · exact Bxs.lt h.2.2 y hy
theorem Bxs.at : ∀ {l : List (Nat × Array Value × Nat)}, Bxs w l → ∀ {g : Nat} {cs : Array Value} {t : Nat}, (g, cs, t) ∈ l → Box w g cs t
  | [], _, _, _, _, hy => by cases hy
  | x :: l, h, _, _, _, hy => by
    rcases List.mem_cons.1 hy with rfl | hy
    · exact h.1
    · exact Bxs.at h.2.2 hy
theorem Bxs.below (hb : Below w.heap.size w w') : ∀ {l : List (Nat × Array Value × Nat)}, Bxs w l → Bxs w' l
  | [], _ => trivial
  | _ :: _, h => ⟨h.1.below hb, h.2.1, Bxs.below hb h.2.2⟩
theorem Bxs.keep {g : Nat} (hk : KeepBut w w' g none) : ∀ {l : List (Nat × Array Value × Nat)}, Bxs w l → (∀ y ∈ l, y.1 ≠ g) → Bxs w' l
  | [], _, _ => trivial
  | x :: l, h, hg => ⟨hk.blk h.1 (hg x (by simp)) (by simp), h.2.1, Bxs.keep hk h.2.2 (fun y hy => hg y (by simp [hy]))⟩
theorem Bxs.push {g t : Nat} {cs : Array Value} (h : Bxs w l) (hg : w.heap.size ≤ g) (hb : Below w.heap.size w w') (hx : Box w' g cs t) : Bxs w' ((g, cs, t) :: l) :=
  ⟨hx, fun y hy => by have := h.lt y hy; show y.1 ≠ g; omega, h.below hb⟩
theorem Bxs.skip {g t : Nat} {cs : Array Value} (h : Bxs w ((g, cs, t) :: l)) : Bxs w l := h.2.2
theorem Bxs.drew (h : Bxs w l) : Bxs w.drew l := Bxs.below (w' := w.drew) (Below.refl w.heap.size w).drew h
/-- The newest block, written. -/
theorem Bxs.set0 {g t : Nat} {cs cs' : Array Value} (h : Bxs w ((g, cs, t) :: l)) (hx : Box w' g cs' t) (hk : KeepBut w w' g none) : Bxs w' ((g, cs', t) :: l) :=
  ⟨hx, h.2.1, Bxs.keep hk h.2.2 h.2.1⟩
/-- The second newest block, written. -/
theorem Bxs.set1 {x : Nat × Array Value × Nat} {g t : Nat} {cs cs' : Array Value} (h : Bxs w (x :: (g, cs, t) :: l)) (hx : Box w' g cs' t) (hk : KeepBut w w' g none) : Bxs w' (x :: (g, cs', t) :: l) := by
  obtain ⟨h0, h1, h2⟩ := h
  have hne : x.1 ≠ g := fun e => h1 (g, cs, t) (by simp) e.symm
  exact ⟨hk.blk h0 hne (by simp), fun y hy => by
    rcases List.mem_cons.1 hy with rfl | hy
    · exact hne.symm
    · exact h1 y (by simp [hy]), Bxs.set0 h2 hx hk⟩
end

section
variable {P : Program} {ops : Array Oper} {o : Oper} {rest : List Oper} {a : Act} {Q : Exit → Act → World → Prop} {W : World}
theorem keep_setRow (W : World) (g : Nat) (cs : Array Value) : KeepBut W (W.setRow g cs) g none :=
  ⟨by simp, fun i _ hi _ => setRow_other W g i cs hi⟩
theorem Below.setRow' {n g : Nat} {w0 w w1 : World} (h : Below n w0 w) (hg : n ≤ g) (hb : ∀ n, n ≤ g → Below n w w1) : Below n w0 w1 := h.trans (hb n hg)
/-- A box is written whole. -/
theorem box_store (hgd : o.guard = none) (ty : TypeId) (x y : Operand) (ho : o.op = .store ty x y) (hd : o.dst = none)
    (g : Nat) (cells : Array Value) (hx : a.eval x = .pointer (some ⟨g, 0, none⟩)) (hy : a.eval y = .agg cells)
    {t : Nat} {old : Array Value} (hg : Box W g old t) (hi : (P.info? ty).map (·.size) = some cells.size)
    (hold : old.size = cells.size) (h1 : cells.all (·.oneCell') = true)
    (h : ∀ w1, Box w1 g cells t → KeepBut W w1 g none → (∀ n, n ≤ g → Below n W w1) → wpList P ops Q rest a w1) : wpList P ops Q (o :: rest) a W :=
  wpList_store_row hgd ty x y ho g cells hx hy t old hg hi hold h1
    (by rw [hd]; exact h _ (setRow_heap W g old cells t (0, 0) hg) (keep_setRow W g cells) (fun n hn => ⟨rfl, rfl, rfl, by simp, fun i hi => setRow_other W g i cells (by omega)⟩))
/-- A box is read whole. -/
theorem box_load (hgd : o.guard = none) (ty : TypeId) (x : Operand) (ho : o.op = .load ty x)
    (g : Nat) (hx : a.eval x = .pointer (some ⟨g, 0, none⟩)) {t : Nat} {cs : Array Value} (hg : Box W g cs t) (d : TypeDesc)
    (hu : P.underlying ty = some d) (hd : (match d with | .struct _ | .array _ _ => true | _ => false) = true) (hi : (P.info? ty).map (·.size) = some cs.size)
    (h : wpList P ops Q rest (a.put o.dst (.agg cs)) W) : wpList P ops Q (o :: rest) a W :=
  wpList_load_row hgd ty x ho g hx t cs (0, 0) d hg hu hd hi h
end
end Go.Proofs.Yteepckjegpnffaa.H
