/- The sides of a polygon: the reference lists all, the program the vertical ones; the signed areas are the same. -/
import Derived.Test.YtjpfhnpdbjefkaaQPoly
import Derived.Test.YtjpfhnpdbjefkaaPx33
import Derived.Test.YtjpfhnpdbjefkaaPx35
set_option linter.unusedVariables false
set_option linter.unusedSimpArgs false
namespace Go.Proofs.Ytjpfhnpdbjefkaa.Q
open Go.RowKit Go.Proofs.Ytjpfhnpdbjefkaa.P Go.Proofs.YtjpfhnpdbjefkaaW.PrintWords Go.Proofs.YtjpfhnpdbjefkaaW.PrintLast

def side (p : List S47) (i : Nat) : S54 := ⟨X p i, Y p i, X p (i + 1), Y p (i + 1)⟩
def sides (p : List S47) : List S54 := (List.range p.length).map (side p)
def upright (e : S54) : Bool := e.f0 == e.f2

theorem spec_sides_loop (p : List S47) (hl : p.length ≤ 1048576) (d : Nat) : ∀ (i : Nat) (acc : List S54), i + d = p.length → acc.length + d ≤ 1048576 →
    Ev (fun k => spec_l08Sides.l0 k p acc i) (acc ++ (List.range' i d).map (side p)) := by
  induction d with
  | zero =>
    intro i acc hi ha
    refine Ev.step (f := fun _ => some acc) (fun k => ?_) (by simpa using Ev.now acc)
    simp only [spec_l08Sides.l0]
    rw [if_neg (by omega)]
  | succ d ih =>
    intro i acc hi ha
    have hm : (i + 1) % p.length < p.length := Nat.mod_lt _ (by omega)
    have e1 : Int.tmod (wrap64 ((i : Int) + 1)) p.length = (((i + 1) % p.length : Nat) : Int) := tmod_nat _ _ _ (by rw [w64 (by omega) (by omega)]; omega)
    refine Ev.step (fun k => ?_) (ih (i + 1) (acc ++ [side p i]) (by omega) (by simp; omega) |> fun x => by simpa [List.range'_succ] using x)
    simp only [spec_l08Sides.l0]
    rw [if_pos (by omega), if_neg (by omega), e1, if_pos (by omega), if_pos (by omega), if_pos (by omega), if_pos (by omega), rdX p i (by omega), rdY p i (by omega), rdX p _ hm, rdY p _ hm, X_mod, Y_mod, w64 (by omega) (by omega)]
    rfl

theorem spec_sides (p : List S47) (hl : p.length ≤ 1048576) : Ev (fun k => spec_l08Sides.f k p) (sides p) := by
  have h := spec_sides_loop p hl p.length 0 [] (by omega) (by simp; omega)
  refine Ev.congr (fun k => ?_) (by simpa [sides, List.range_eq_range'] using h)
  simp [spec_l08Sides.f]

theorem impl_vert_loop (p : List S47) (hl : p.length ≤ 1048576) (d : Nat) : ∀ (i : Nat) (acc : List S54), i + d = p.length → acc.length + d ≤ 1048576 →
    Ev (fun k => impl_verticals.l0 k p acc p p.length i) (acc ++ ((List.range' i d).map (side p)).filter upright) := by
  induction d with
  | zero =>
    intro i acc hi ha
    refine Ev.step (f := fun _ => some acc) (fun k => ?_) (by simpa using Ev.now acc)
    simp only [impl_verticals.l0]
    rw [if_neg (by omega)]
  | succ d ih =>
    intro i acc hi ha
    have hm : (i + 1) % p.length < p.length := Nat.mod_lt _ (by omega)
    have e1 : Int.tmod (wrap64 ((i : Int) + 1)) p.length = (((i + 1) % p.length : Nat) : Int) := tmod_nat _ _ _ (by rw [w64 (by omega) (by omega)]; omega)
    by_cases hu : X p i = X p (i + 1)
    · have hup : upright (side p i) = true := by simp [upright, side, hu]
      refine Ev.step (fun k => ?_) (ih (i + 1) (acc ++ [side p i]) (by omega) (by simp; omega) |> fun x => by simpa [List.range'_succ, List.filter_cons, hup] using x)
      simp only [impl_verticals.l0]
      rw [if_pos (by omega), if_pos (by omega), if_pos (by omega), if_neg (by omega), e1, if_pos (by omega), if_pos (by omega), rdX p i (by omega), rdY p i (by omega), rdX p _ hm, rdY p _ hm, X_mod, Y_mod, if_pos hu, if_pos (by omega), w64 (by omega) (by omega)]
      rfl
    · have hup : upright (side p i) = false := by simp [upright, side, hu]
      refine Ev.step (fun k => ?_) (ih (i + 1) acc (by omega) (by omega) |> fun x => by simpa [List.range'_succ, List.filter_cons, hup] using x)
      simp only [impl_verticals.l0]
      rw [if_pos (by omega), if_pos (by omega), if_pos (by omega), if_neg (by omega), e1, if_pos (by omega), if_pos (by omega), rdX p i (by omega), rdX p _ hm, X_mod, if_neg hu, w64 (by omega) (by omega)] <;> rfl

theorem impl_vert (p : List S47) (hl : p.length ≤ 1048576) : Ev (fun k => impl_verticals.f k p) ((sides p).filter upright) := by
  have h := impl_vert_loop p hl p.length 0 [] (by omega) (by simp; omega)
  refine Ev.congr (fun k => ?_) (by simpa [sides, List.range_eq_range'] using h)
  simp [impl_verticals.f]
theorem sides_len (p : List S47) : (sides p).length = p.length := by simp [sides]
end Go.Proofs.Ytjpfhnpdbjefkaa.Q
