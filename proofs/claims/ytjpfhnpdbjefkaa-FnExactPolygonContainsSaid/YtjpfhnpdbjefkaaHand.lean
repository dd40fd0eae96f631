/- Small laws for walks by hand: a grid of 80 by 80 bools in a block of its own. -/
import Derived.Test.YtjpfhnpdbjefkaaWWords
import Derived.Test.YtjpfhnpdbjefkaaWMore
import Derived.Test.YtjpfhnpdbjefkaaProg
import Derived.Laws.Tables
import Derived.Lib.Hide
set_option linter.unusedVariables false
set_option linter.unusedSimpArgs false
namespace Go.Proofs.Ytjpfhnpdbjefkaa.H
open Go.RowKit Go.Proofs.YtjpfhnpdbjefkaaW.PrintWords Go.Proofs.YtjpfhnpdbjefkaaW.PrintLast

section
variable {P : Program} {ops : Array Oper} {o : Oper} {rest : List Oper} {a : Act} {Q : Exit → Act → World → Prop} {W : World}
theorem wpList_build_nil (hg : o.guard = none) (t : TypeId) (ho : o.op = .build t #[]) (cells : Array Value) (hP : P.built t [] = some cells)
    (h : wpList P ops Q rest (a.put o.dst (.agg cells)) W) : wpList P ops Q (o :: rest) a W := by
  refine wpList_build hg t #[] ho ?_ ?_
  · simp only [List.map_toArray, List.map_nil, hP, Option.isSome_some]
  · simpa only [List.map_toArray, List.map_nil, hP, Option.getD_some] using h
end

def gridN (n : Nat) (g : Nat → Bool) : Array Value := Array.ofFn (n := n) fun i => .bool (g i)
theorem gridN_size (n : Nat) (g : Nat → Bool) : (gridN n g).size = n := by simp [gridN]
theorem gridN_get (n : Nat) (g : Nat → Bool) (j : Nat) (h : j < (gridN n g).size) : (gridN n g)[j] = .bool (g j) := by simp [gridN]
theorem gridN_ext (n : Nat) (g : Nat → Bool) (A : Array Value) (hs : A.size = n) (h : ∀ j (hj : j < A.size), A[j] = .bool (g j)) : A = gridN n g := by
  apply Array.ext
  · rw [hs, gridN_size]
  · intro i h1 h2
    rw [h i h1, gridN_get]
def gridArr (g : Nat → Bool) : Array Value := gridN 6400 g
/-- Block b is the grid g: 80 rows of 80. -/
def Grid (w : World) (b : Nat) (g : Nat → Bool) : Prop := w.heap[b]? = some (.cells (gridArr g) 65 (0, 0))
def gridZ : Array Value := Array.replicate 6400 (.bool false)
theorem built_grid : Try.prog.built 65 [] = some gridZ := by kernel_rfl
theorem gridZ_is : gridZ = gridArr (fun _ => false) := by
  refine gridN_ext 6400 _ _ ?_ ?_
  · exact Array.size_replicate
  · intro j hj
    exact Array.getElem_replicate ..
theorem Grid.zero {w : World} {b : Nat} (h : w.heap[b]? = some (.cells gridZ 65 (0, 0))) : Grid w b (fun _ => false) := by
  unfold Grid
  rw [← gridZ_is]
  exact h
theorem Grid.cell {w : World} {b : Nat} {g : Nat → Bool} (h : Grid w b g) (i : Nat) (hi : i < 6400) : w.cell? ⟨b, i, none⟩ = some (.bool (g i)) := by
  unfold Grid at h
  simp only [World.cell?, h, Option.isSome_none, Bool.false_eq_true, if_false]
  unfold gridArr
  rw [Array.getElem?_eq_getElem (by rw [gridN_size]; exact hi), gridN_get]
theorem Grid.frozen {w : World} {b : Nat} {g : Nat → Bool} (h : Grid w b g) (i : Nat) : w.frozen? ⟨b, i, none⟩ = false := by
  unfold Grid at h
  simp [World.frozen?, h]
theorem Grid.congr {w : World} {b : Nat} {g g' : Nat → Bool} (h : Grid w b g) (hg : ∀ i, i < 6400 → g' i = g i) : Grid w b g' := by
  have e : gridArr g = gridArr g' := by
    refine gridN_ext 6400 g' _ (gridN_size _ _) ?_
    intro i h1
    unfold gridArr at *
    rw [gridN_size] at h1
    rw [gridN_get, hg i h1]
  unfold Grid at *
  rw [← e]
  exact h
theorem Grid.set {w : World} {b : Nat} {g g' : Nat → Bool} (h : Grid w b g) {i : Nat} {v : Bool} (hi : i < 6400) (hg : ∀ j, j < 6400 → g' j = if j = i then v else g j) : Grid (w.setCell ⟨b, i, none⟩ (.bool v)) b g' := by
  unfold Grid at *
  have hb : b < w.heap.size := by
    rcases Nat.lt_or_ge b w.heap.size with h1 | h1
    · exact h1
    · rw [Array.getElem?_eq_none h1] at h; cases h
  have e : (gridArr g).setIfInBounds i (.bool v) = gridArr g' := by
    refine gridN_ext 6400 g' _ ?_ ?_
    · rw [Array.size_setIfInBounds]; exact gridN_size _ _
    · intro j h1
      have h3 : j < 6400 := by
        have e3 : ((gridArr g).setIfInBounds i (.bool v)).size = 6400 := by rw [Array.size_setIfInBounds]; exact gridN_size _ _
        omega
      have h4 : j < (gridArr g).size := by rw [Array.size_setIfInBounds] at h1; exact h1
      rw [hg j h3]
      by_cases e : j = i
      · rw [if_pos e]
        rw [Array.getElem_setIfInBounds h4, if_pos e.symm]
      · rw [if_neg e, Array.getElem_setIfInBounds h4, if_neg (fun x => e x.symm)]
        exact gridN_get ..
  unfold World.setCell
  simp only [Array.getElem?_modify, if_true, h, Option.map_some]
  simp only [Option.isSome_none, Bool.false_eq_true, if_false, e]
theorem Grid.lt {w : World} {b : Nat} {g : Nat → Bool} (h : Grid w b g) : b < w.heap.size := by
  unfold Grid at h
  rcases Nat.lt_or_ge b w.heap.size with h1 | h1
  · exact h1
  · rw [Array.getElem?_eq_none h1] at h; cases h
theorem Grid.below {w w' : World} {b : Nat} {g : Nat → Bool} (h : Grid w b g) (hb : Below w.heap.size w w') : Grid w' b g := by
  have := h.lt
  unfold Grid at *
  rw [hb.block b this]
  exact h
theorem Grid.alloc {w : World} {b : Nat} {g : Nat → Bool} (h : Grid w b g) (o : Obj) : Grid (w.alloc o) b g :=
  h.below ((Below.refl _ _).alloc (Nat.le_refl _) _)
theorem Grid.far {w : World} {b : Nat} {g : Nat → Bool} (h : Grid w b g) {p : Addr} (hp : p.block ≠ b) (v : Value) : Grid (w.setCell p v) b g := by
  unfold Grid at *
  rw [Below.heap_setCell w p v b (fun e => hp e.symm)]
  exact h
theorem Grid.drewN {w : World} {b : Nat} {g : Nat → Bool} (h : Grid w b g) (n : Nat) : Grid (w.drewN n) b g := h
theorem Grid.drew {w : World} {b : Nat} {g : Nat → Bool} (h : Grid w b g) : Grid w.drew b g := h
end Go.Proofs.Ytjpfhnpdbjefkaa.H
