/- Turns and moves, the plain side: what the turns and moves of the program and of the reference come to. -/
import Derived.Test.YteepckjegpnffaaPx17
import Derived.Test.YteepckjegpnffaaPx6
import Derived.Test.YteepckjegpnffaaPx14
import Derived.Test.YteepckjegpnffaaPx4
import Derived.Test.YteepckjegpnffaaPx15
set_option linter.unusedVariables false
set_option linter.unusedSimpArgs false
namespace Go.Proofs.Yteepckjegpnffaa.Q
open Go.RowKit Go.Proofs.Yteepckjegpnffaa.P Go.Proofs.YteepckjegpnffaaW.PrintWords Go.Proofs.YteepckjegpnffaaW.PrintLast

theorem ws {x : Int} (h : -4000000000000000000 ≤ x) (h2 : x ≤ 4000000000000000000) : wrap64 x = x := by unfold wrap64; omega
/-- A vector under an orientation. -/
def tx (o x y : Int) : Int := if o = 0 ∨ o = 4 then x else if o = 1 ∨ o = 7 then -y else if o = 2 ∨ o = 6 then -x else y
def ty (o x y : Int) : Int := if o = 0 ∨ o = 6 then y else if o = 1 ∨ o = 5 then x else if o = 2 ∨ o = 4 then -y else -x
theorem or_cases {o : Int} (h : 0 ≤ o) (h2 : o ≤ 7) : o = 0 ∨ o = 1 ∨ o = 2 ∨ o = 3 ∨ o = 4 ∨ o = 5 ∨ o = 6 ∨ o = 7 := by omega
def B (x : Int) : Prop := -1000000000000 ≤ x ∧ x ≤ 1000000000000

theorem impl_turn_l0 (n : Nat) (hn : n ≤ 3) (x y : Int) (hx : B x) (hy : B y) :
    Ev (fun k => impl_turn.l0 k n x y) (tx n x y, ty n x y) := by
  have wn : ∀ z, B z → wrap64 (-z) = -z := fun z hz => ws (by unfold B at hz; omega) (by unfold B at hz; omega)
  have bn : ∀ z, B z → B (-z) := fun z hz => by unfold B at *; omega
  have z0 : ∀ a b : Int, Ev (fun k => impl_turn.l0 k 0 a b) (a, b) := fun a b => Ev.step (f := fun _ => some (a, b)) (fun k => by simp [impl_turn.l0]) (Ev.now _)
  have st : ∀ (m : Nat) (a b : Int) (r : Int × Int), m ≤ 3 → B a → B b → Ev (fun k => impl_turn.l0 k m (-b) a) r → Ev (fun k => impl_turn.l0 k ((m + 1 : Nat) : Int) a b) r := by
    intro m a b r hm ha hb h
    refine Ev.step (fun k => ?_) h
    simp only [impl_turn.l0]
    rw [if_pos (by omega), wn b hb, ws (by omega) (by omega), show (((m + 1 : Nat) : Int) - 1) = (m : Int) from by omega]
  obtain rfl | rfl | rfl | rfl : n = 0 ∨ n = 1 ∨ n = 2 ∨ n = 3 := by omega
  · exact z0 x y
  · exact st 0 x y _ (by omega) hx hy (z0 _ _)
  · refine st 1 x y _ (by omega) hx hy (st 0 _ _ _ (by omega) (bn _ hy) hx ?_)
    simpa [tx, ty] using z0 (-x) (-y)
  · refine st 2 x y _ (by omega) hx hy (st 1 _ _ _ (by omega) (bn _ hy) hx (st 0 _ _ _ (by omega) (bn _ hx) (bn _ hy) ?_))
    simpa [tx, ty] using z0 (- -y) (-x)

theorem spec_turn_l0 (n : Nat) (hn : n ≤ 3) (x y : Int) (hx : B x) (hy : B y) :
    Ev (fun k => spec_l01Turn.l0 k x y n) (tx n x y, ty n x y) := by
  have wn : ∀ z, B z → wrap64 (-z) = -z := fun z hz => ws (by unfold B at hz; omega) (by unfold B at hz; omega)
  have bn : ∀ z, B z → B (-z) := fun z hz => by unfold B at *; omega
  have z0 : ∀ a b : Int, Ev (fun k => spec_l01Turn.l0 k a b 0) (a, b) := fun a b => Ev.step (f := fun _ => some (a, b)) (fun k => by simp [spec_l01Turn.l0]) (Ev.now _)
  have st : ∀ (m : Nat) (a b : Int) (r : Int × Int), m ≤ 3 → B a → B b → Ev (fun k => spec_l01Turn.l0 k (-b) a m) r → Ev (fun k => spec_l01Turn.l0 k a b ((m + 1 : Nat) : Int)) r := by
    intro m a b r hm ha hb h
    refine Ev.step (fun k => ?_) h
    simp only [spec_l01Turn.l0]
    rw [if_pos (by omega), wn b hb, ws (by omega) (by omega), show (((m + 1 : Nat) : Int) - 1) = (m : Int) from by omega]
  obtain rfl | rfl | rfl | rfl : n = 0 ∨ n = 1 ∨ n = 2 ∨ n = 3 := by omega
  · exact z0 x y
  · exact st 0 x y _ (by omega) hx hy (z0 _ _)
  · refine st 1 x y _ (by omega) hx hy (st 0 _ _ _ (by omega) (bn _ hy) hx ?_)
    simpa [tx, ty] using z0 (-x) (-y)
  · refine st 2 x y _ (by omega) hx hy (st 1 _ _ _ (by omega) (bn _ hy) hx (st 0 _ _ _ (by omega) (bn _ hx) (bn _ hy) ?_))
    simpa [tx, ty] using z0 (- -y) (-x)

theorem impl_j0 {o x y : Int} {n : Nat} {r : Int × Int} (ho : Int.tmod o 4 = n) (h : Ev (fun k => impl_turn.l0 k n x y) r) : Ev (fun k => impl_turn.j0 k o x y) r :=
  Ev.step (fun k => by simp only [impl_turn.j0]; rw [ho]) h
theorem impl_turn_f (o x y : Int) (h0 : 0 ≤ o) (h7 : o ≤ 7) (hx : B x) (hy : B y) : Ev (fun k => impl_turn.f k o x y) (tx o x y, ty o x y) := by
  have wn : wrap64 (-y) = -y := ws (by unfold B at hy; omega) (by unfold B at hy; omega)
  have bn : B (-y) := by unfold B at *; omega
  rcases or_cases h0 h7 with rfl | rfl | rfl | rfl | rfl | rfl | rfl | rfl
  · exact Ev.congr (f := fun k => impl_turn.j0 k 0 x y) (fun k => by simp [impl_turn.f]) (impl_j0 (n := 0) rfl (impl_turn_l0 0 (by omega) x y hx hy))
  · exact Ev.congr (f := fun k => impl_turn.j0 k 1 x y) (fun k => by simp [impl_turn.f]) (impl_j0 (n := 1) rfl (impl_turn_l0 1 (by omega) x y hx hy))
  · exact Ev.congr (f := fun k => impl_turn.j0 k 2 x y) (fun k => by simp [impl_turn.f]) (impl_j0 (n := 2) rfl (impl_turn_l0 2 (by omega) x y hx hy))
  · exact Ev.congr (f := fun k => impl_turn.j0 k 3 x y) (fun k => by simp [impl_turn.f]) (impl_j0 (n := 3) rfl (impl_turn_l0 3 (by omega) x y hx hy))
  · exact Ev.congr (f := fun k => impl_turn.j0 k 4 x (-y)) (fun k => by simp only [impl_turn.f]; rw [if_pos (by omega), wn]) (impl_j0 (n := 0) rfl (by simpa [tx, ty] using impl_turn_l0 0 (by omega) x (-y) hx bn))
  · exact Ev.congr (f := fun k => impl_turn.j0 k 5 x (-y)) (fun k => by simp only [impl_turn.f]; rw [if_pos (by omega), wn]) (impl_j0 (n := 1) rfl (by simpa [tx, ty] using impl_turn_l0 1 (by omega) x (-y) hx bn))
  · exact Ev.congr (f := fun k => impl_turn.j0 k 6 x (-y)) (fun k => by simp only [impl_turn.f]; rw [if_pos (by omega), wn]) (impl_j0 (n := 2) rfl (by simpa [tx, ty] using impl_turn_l0 2 (by omega) x (-y) hx bn))
  · exact Ev.congr (f := fun k => impl_turn.j0 k 7 x (-y)) (fun k => by simp only [impl_turn.f]; rw [if_pos (by omega), wn]) (impl_j0 (n := 3) rfl (by simpa [tx, ty] using impl_turn_l0 3 (by omega) x (-y) hx bn))

theorem spec_j0 {o x y : Int} {n : Nat} {r : Int × Int} (ho : Int.tmod o 4 = n) (h : Ev (fun k => spec_l01Turn.l0 k x y n) r) : Ev (fun k => spec_l01Turn.j0 k o x y) r :=
  Ev.step (fun k => by simp only [spec_l01Turn.j0]; rw [ho]) h
theorem spec_turn_f (o x y : Int) (h0 : 0 ≤ o) (h7 : o ≤ 7) (hx : B x) (hy : B y) : Ev (fun k => spec_l01Turn.f k o x y) (tx o x y, ty o x y) := by
  have wn : wrap64 (-y) = -y := ws (by unfold B at hy; omega) (by unfold B at hy; omega)
  have bn : B (-y) := by unfold B at *; omega
  rcases or_cases h0 h7 with rfl | rfl | rfl | rfl | rfl | rfl | rfl | rfl
  · exact Ev.congr (f := fun k => spec_l01Turn.j0 k 0 x y) (fun k => by simp [spec_l01Turn.f]) (spec_j0 (n := 0) rfl (spec_turn_l0 0 (by omega) x y hx hy))
  · exact Ev.congr (f := fun k => spec_l01Turn.j0 k 1 x y) (fun k => by simp [spec_l01Turn.f]) (spec_j0 (n := 1) rfl (spec_turn_l0 1 (by omega) x y hx hy))
  · exact Ev.congr (f := fun k => spec_l01Turn.j0 k 2 x y) (fun k => by simp [spec_l01Turn.f]) (spec_j0 (n := 2) rfl (spec_turn_l0 2 (by omega) x y hx hy))
  · exact Ev.congr (f := fun k => spec_l01Turn.j0 k 3 x y) (fun k => by simp [spec_l01Turn.f]) (spec_j0 (n := 3) rfl (spec_turn_l0 3 (by omega) x y hx hy))
  · exact Ev.congr (f := fun k => spec_l01Turn.j0 k 4 x (-y)) (fun k => by simp only [spec_l01Turn.f]; rw [if_pos (by omega), wn]) (spec_j0 (n := 0) rfl (by simpa [tx, ty] using spec_turn_l0 0 (by omega) x (-y) hx bn))
  · exact Ev.congr (f := fun k => spec_l01Turn.j0 k 5 x (-y)) (fun k => by simp only [spec_l01Turn.f]; rw [if_pos (by omega), wn]) (spec_j0 (n := 1) rfl (by simpa [tx, ty] using spec_turn_l0 1 (by omega) x (-y) hx bn))
  · exact Ev.congr (f := fun k => spec_l01Turn.j0 k 6 x (-y)) (fun k => by simp only [spec_l01Turn.f]; rw [if_pos (by omega), wn]) (spec_j0 (n := 2) rfl (by simpa [tx, ty] using spec_turn_l0 2 (by omega) x (-y) hx bn))
  · exact Ev.congr (f := fun k => spec_l01Turn.j0 k 7 x (-y)) (fun k => by simp only [spec_l01Turn.f]; rw [if_pos (by omega), wn]) (spec_j0 (n := 3) rfl (by simpa [tx, ty] using spec_turn_l0 3 (by omega) x (-y) hx bn))

theorem t_bound (o x y : Int) {n : Int} (hx : -n ≤ x ∧ x ≤ n) (hy : -n ≤ y ∧ y ≤ n) : (-n ≤ tx o x y ∧ tx o x y ≤ n) ∧ (-n ≤ ty o x y ∧ ty o x y ≤ n) := by
  unfold tx ty
  constructor <;> repeat' split
  all_goals omega

def okT (o x y : Int) : Bool := decide (0 ≤ o ∧ o ≤ 7 ∧ -80 ≤ x ∧ x ≤ 80 ∧ -80 ≤ y ∧ y ≤ 80)
theorem impl_okT (o x y : Int) : impl_IsValidTransform.f o x y = some (okT o x y) := by
  unfold impl_IsValidTransform.f impl_within.f okT
  by_cases a : 0 ≤ o <;> by_cases b : o ≤ 7 <;> by_cases c : -80 ≤ x <;> by_cases d : x ≤ 80 <;> by_cases e : -80 ≤ y <;> by_cases f : y ≤ 80 <;> simp [a, b, c, d, e, f]
theorem spec_okT (o x y : Int) : spec_IsValidTransform.f o x y = some (okT o x y) := by
  unfold spec_IsValidTransform.f spec_l01In.f okT
  by_cases a : 0 ≤ o <;> by_cases b : o ≤ 7 <;> by_cases c : -80 ≤ x <;> by_cases d : x ≤ 80 <;> by_cases e : -80 ≤ y <;> by_cases f : y ≤ 80 <;> simp [a, b, c, d, e, f]

theorem impl_move_f (o a b x y : Int) (h0 : 0 ≤ o) (h7 : o ≤ 7) (ha : B a) (hb : B b) (hx : B x) (hy : B y) : Ev (fun k => impl_move.f k o a b x y) (tx o x y + a, ty o x y + b) := by
  have ⟨hX, hY⟩ := t_bound o x y (n := 1000000000000) hx hy
  unfold impl_move.f
  refine Ev.bind (impl_turn_f o x y h0 h7 hx hy) ?_
  rw [ws (by unfold B at *; omega) (by unfold B at *; omega), ws (by unfold B at *; omega) (by unfold B at *; omega)]
  exact Ev.now _
theorem spec_move_f (o a b x y : Int) (h0 : 0 ≤ o) (h7 : o ≤ 7) (ha : B a) (hb : B b) (hx : B x) (hy : B y) : Ev (fun k => spec_l01Move.f k o a b x y) (tx o x y + a, ty o x y + b) := by
  have ⟨hX, hY⟩ := t_bound o x y (n := 1000000000000) hx hy
  unfold spec_l01Move.f
  refine Ev.bind (spec_turn_f o x y h0 h7 hx hy) ?_
  rw [ws (by unfold B at *; omega) (by unfold B at *; omega), ws (by unfold B at *; omega) (by unfold B at *; omega)]
  exact Ev.now _

theorem okT_bd {o x y : Int} (h : okT o x y = true) : 0 ≤ o ∧ o ≤ 7 ∧ -80 ≤ x ∧ x ≤ 80 ∧ -80 ≤ y ∧ y ≤ 80 := of_decide_eq_true h
def onP (x y : Int) : Bool := decide (-40 ≤ x ∧ x ≤ 40 ∧ -40 ≤ y ∧ y ≤ 40)
theorem impl_onP (x y : Int) : impl_onChip.f x y = some (onP x y) := by
  unfold impl_onChip.f impl_within.f onP
  by_cases a : -40 ≤ x <;> by_cases b : x ≤ 40 <;> by_cases c : -40 ≤ y <;> by_cases d : y ≤ 40 <;> simp [a, b, c, d]
end Go.Proofs.Yteepckjegpnffaa.Q
