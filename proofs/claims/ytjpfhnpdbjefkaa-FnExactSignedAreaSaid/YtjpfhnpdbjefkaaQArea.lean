/- The signed area: the reference's and the program's are one fold. -/
import Derived.Test.YtjpfhnpdbjefkaaQSides
import Derived.Test.YtjpfhnpdbjefkaaPx34
import Derived.Test.YtjpfhnpdbjefkaaPx36
set_option linter.unusedVariables false
set_option linter.unusedSimpArgs false
namespace Go.Proofs.Ytjpfhnpdbjefkaa.Q
open Go.RowKit Go.Proofs.Ytjpfhnpdbjefkaa.P Go.Proofs.YtjpfhnpdbjefkaaW.PrintWords Go.Proofs.YtjpfhnpdbjefkaaW.PrintLast

def addA (s : Int) (e : S54) : Int := wrap64 (s + wrap64 (e.f0 * wrap64 (e.f3 - e.f1)))
/-- The signed area. -/
def sarea (p : List S47) : Int := if vp p = true then ((sides p).filter upright).foldl addA 0 else 0

theorem rdE (l : List S54) (i : Nat) (h : i < l.length) : rd_T54 l i = l[i] := by
  simp [rd_T54, List.getD_eq_getElem?_getD, h]

theorem impl_area_loop (l : List S54) (hl : l.length ≤ 1048576) (d : Nat) : ∀ (i : Nat) (s : Int), i + d = l.length →
    Ev (fun k => impl_SignedArea.l0 k s l l.length i) ((l.drop i).foldl addA s) := by
  induction d with
  | zero =>
    intro i s hi
    refine Ev.step (f := fun _ => some s) (fun k => ?_) (by rw [List.drop_of_length_le (by omega)]; exact Ev.now s)
    simp only [impl_SignedArea.l0]
    rw [if_neg (by omega)]
  | succ d ih =>
    intro i s hi
    rw [List.drop_eq_getElem_cons (by omega), List.foldl_cons]
    refine Ev.step (fun k => ?_) (ih (i + 1) (addA s l[i]) (by omega))
    simp only [impl_SignedArea.l0]
    rw [if_pos (by omega), if_pos (by omega), if_pos (by omega), rdE l i (by omega), w64 (x := (i : Int) + 1) (by omega) (by omega)]
    rfl

theorem spec_area_loop (l : List S54) (hl : l.length ≤ 1048576) (d : Nat) : ∀ (i : Nat) (s : Int), i + d = l.length →
    Ev (fun k => spec_SignedArea.l0 k s l i) (((l.drop i).filter upright).foldl addA s) := by
  induction d with
  | zero =>
    intro i s hi
    refine Ev.step (f := fun _ => some s) (fun k => ?_) (by rw [List.drop_of_length_le (by omega)]; exact Ev.now s)
    simp only [spec_SignedArea.l0]
    rw [if_neg (by omega)]
  | succ d ih =>
    intro i s hi
    rw [List.drop_eq_getElem_cons (by omega), List.filter_cons]
    by_cases hu : l[i].f0 = l[i].f2
    · have hup : upright l[i] = true := by simp [upright, hu]
      rw [if_pos hup, List.foldl_cons]
      refine Ev.step (fun k => ?_) (ih (i + 1) (addA s l[i]) (by omega))
      simp only [spec_SignedArea.l0]
      rw [if_pos (by omega), if_pos (by omega), rdE l i (by omega), if_pos hu, w64 (x := (i : Int) + 1) (by omega) (by omega)] <;> rfl
    · have hup : upright l[i] = false := by simp [upright, hu]
      rw [hup]
      refine Ev.step (fun k => ?_) (ih (i + 1) s (by omega))
      simp only [spec_SignedArea.l0]
      rw [if_pos (by omega), if_pos (by omega), rdE l i (by omega), if_neg hu, w64 (x := (i : Int) + 1) (by omega) (by omega)] <;> rfl

theorem impl_area (p : List S47) (hl : p.length ≤ 1048576) : Ev (fun k => impl_SignedArea.f k p) (sarea p) := by
  unfold impl_SignedArea.f sarea
  refine Ev.bind (impl_vp p hl) ?_
  by_cases h : vp p = true
  · simp only [h, if_true]
    refine Ev.bind (impl_vert p hl) ?_
    have hl2 : ((sides p).filter upright).length ≤ 1048576 := Nat.le_trans (List.length_filter_le _ _) (by rw [sides_len]; exact hl)
    have := impl_area_loop _ hl2 _ 0 0 (Nat.zero_add _)
    exact this
  · simp only [h, if_false]
    exact Ev.now 0

theorem spec_area (p : List S47) (hl : p.length ≤ 1048576) : Ev (fun k => spec_SignedArea.f k p) (sarea p) := by
  unfold spec_SignedArea.f sarea
  refine Ev.bind (spec_vp p hl) ?_
  by_cases h : vp p = true
  · simp only [h, if_true]
    refine Ev.bind (spec_sides p hl) ?_
    have := spec_area_loop (sides p) (by rw [sides_len]; exact hl) _ 0 0 (Nat.zero_add _)
    exact this
  · simp only [h, if_false]
    exact Ev.now 0
end Go.Proofs.Ytjpfhnpdbjefkaa.Q
