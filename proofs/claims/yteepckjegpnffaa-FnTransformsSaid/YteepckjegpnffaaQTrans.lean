/- Transforms, the plain side: what the turns, moves and compositions of the program and of the reference come to; and the draws of FnTransforms. -/
import Derived.Test.YteepckjegpnffaaPx30
import Derived.Test.YteepckjegpnffaaPx32
import Derived.Test.YteepckjegpnffaaPx35
import Derived.Test.YteepckjegpnffaaPx36
import Derived.Test.YteepckjegpnffaaPx39
import Derived.Test.YteepckjegpnffaaRoll
import Derived.Test.YteepckjegpnffaaFrom
import Derived.Test.YteepckjegpnffaaComposed
import Derived.Test.YteepckjegpnffaaPx28
import Derived.Test.YteepckjegpnffaaPx38
import Derived.Laws.BitsLemmas
set_option linter.unusedVariables false
set_option linter.unusedSimpArgs false
namespace Go.Proofs.Yteepckjegpnffaa.Q
open Go.RowKit Go.Proofs.Yteepckjegpnffaa.P Go.Proofs.YteepckjegpnffaaW.PrintWords Go.Proofs.YteepckjegpnffaaW.PrintLast

theorem ws {x : Int} (h : -4000000000000000000 ≤ x) (h2 : x ≤ 4000000000000000000) : wrap64 x = x := by unfold wrap64; omega
/-- A vector under an orientation. -/
def tx (o x y : Int) : Int := if o = 0 ∨ o = 4 then x else if o = 1 ∨ o = 7 then -y else if o = 2 ∨ o = 6 then -x else y
def ty (o x y : Int) : Int := if o = 0 ∨ o = 6 then y else if o = 1 ∨ o = 5 then x else if o = 2 ∨ o = 4 then -y else -x
theorem or_cases {o : Int} (h : 0 ≤ o) (h2 : o ≤ 7) : o = 0 ∨ o = 1 ∨ o = 2 ∨ o = 3 ∨ o = 4 ∨ o = 5 ∨ o = 6 ∨ o = 7 := by omega
def B (x : Int) : Prop := -1000000000000 ≤ x ∧ x ≤ 1000000000000

theorem impl_turn_l0 (n : Nat) (hn : n ≤ 3) (x y : Int) (hx : B x) (hy : B y) :
    Ev (fun k => impl_turn.l0 k n x y) (tx n x y, ty n x y) := by
  have wn : ∀ z, B z → wrap64 (-z) = -z := fun z hz => ws (by unfold B at hz; omega) (by unfold B at hz; omega)
  have bn : ∀ z, B z → B (-z) := fun z hz => by unfold B at *; omega
  have z0 : ∀ a b : Int, Ev (fun k => impl_turn.l0 k 0 a b) (a, b) := fun a b => Ev.step (f := fun _ => some (a, b)) (fun k => by simp [impl_turn.l0]) (Ev.now _)
  have st : ∀ (m : Nat) (a b : Int) (r : Int × Int), m ≤ 3 → B a → B b → Ev (fun k => impl_turn.l0 k m (-b) a) r → Ev (fun k => impl_turn.l0 k ((m + 1 : Nat) : Int) a b) r := by
    intro m a b r hm ha hb h
    refine Ev.step (fun k => ?_) h
    simp only [impl_turn.l0]
    rw [if_pos (by omega), wn b hb, ws (by omega) (by omega), show (((m + 1 : Nat) : Int) - 1) = (m : Int) from by omega]
  obtain rfl | rfl | rfl | rfl : n = 0 ∨ n = 1 ∨ n = 2 ∨ n = 3 := by omega
  · exact z0 x y
  · exact st 0 x y _ (by omega) hx hy (z0 _ _)
  · refine st 1 x y _ (by omega) hx hy (st 0 _ _ _ (by omega) (bn _ hy) hx ?_)
    simpa [tx, ty] using z0 (-x) (-y)
  · refine st 2 x y _ (by omega) hx hy (st 1 _ _ _ (by omega) (bn _ hy) hx (st 0 _ _ _ (by omega) (bn _ hx) (bn _ hy) ?_))
    simpa [tx, ty] using z0 (- -y) (-x)

theorem spec_turn_l0 (n : Nat) (hn : n ≤ 3) (x y : Int) (hx : B x) (hy : B y) :
    Ev (fun k => spec_l01Turn.l0 k x y n) (tx n x y, ty n x y) := by
  have wn : ∀ z, B z → wrap64 (-z) = -z := fun z hz => ws (by unfold B at hz; omega) (by unfold B at hz; omega)
  have bn : ∀ z, B z → B (-z) := fun z hz => by unfold B at *; omega
  have z0 : ∀ a b : Int, Ev (fun k => spec_l01Turn.l0 k a b 0) (a, b) := fun a b => Ev.step (f := fun _ => some (a, b)) (fun k => by simp [spec_l01Turn.l0]) (Ev.now _)
  have st : ∀ (m : Nat) (a b : Int) (r : Int × Int), m ≤ 3 → B a → B b → Ev (fun k => spec_l01Turn.l0 k (-b) a m) r → Ev (fun k => spec_l01Turn.l0 k a b ((m + 1 : Nat) : Int)) r := by
    intro m a b r hm ha hb h
    refine Ev.step (fun k => ?_) h
    simp only [spec_l01Turn.l0]
    rw [if_pos (by omega), wn b hb, ws (by omega) (by omega), show (((m + 1 : Nat) : Int) - 1) = (m : Int) from by omega]
  obtain rfl | rfl | rfl | rfl : n = 0 ∨ n = 1 ∨ n = 2 ∨ n = 3 := by omega
  · exact z0 x y
  · exact st 0 x y _ (by omega) hx hy (z0 _ _)
  · refine st 1 x y _ (by omega) hx hy (st 0 _ _ _ (by omega) (bn _ hy) hx ?_)
    simpa [tx, ty] using z0 (-x) (-y)
  · refine st 2 x y _ (by omega) hx hy (st 1 _ _ _ (by omega) (bn _ hy) hx (st 0 _ _ _ (by omega) (bn _ hx) (bn _ hy) ?_))
    simpa [tx, ty] using z0 (- -y) (-x)

theorem impl_j0 {o x y : Int} {n : Nat} {r : Int × Int} (ho : Int.tmod o 4 = n) (h : Ev (fun k => impl_turn.l0 k n x y) r) : Ev (fun k => impl_turn.j0 k o x y) r :=
  Ev.step (fun k => by simp only [impl_turn.j0]; rw [ho]) h
theorem impl_turn_f (o x y : Int) (h0 : 0 ≤ o) (h7 : o ≤ 7) (hx : B x) (hy : B y) : Ev (fun k => impl_turn.f k o x y) (tx o x y, ty o x y) := by
  have wn : wrap64 (-y) = -y := ws (by unfold B at hy; omega) (by unfold B at hy; omega)
  have bn : B (-y) := by unfold B at *; omega
  rcases or_cases h0 h7 with rfl | rfl | rfl | rfl | rfl | rfl | rfl | rfl
  · exact Ev.congr (f := fun k => impl_turn.j0 k 0 x y) (fun k => by simp [impl_turn.f]) (impl_j0 (n := 0) rfl (impl_turn_l0 0 (by omega) x y hx hy))
  · exact Ev.congr (f := fun k => impl_turn.j0 k 1 x y) (fun k => by simp [impl_turn.f]) (impl_j0 (n := 1) rfl (impl_turn_l0 1 (by omega) x y hx hy))
  · exact Ev.congr (f := fun k => impl_turn.j0 k 2 x y) (fun k => by simp [impl_turn.f]) (impl_j0 (n := 2) rfl (impl_turn_l0 2 (by omega) x y hx hy))
  · exact Ev.congr (f := fun k => impl_turn.j0 k 3 x y) (fun k => by simp [impl_turn.f]) (impl_j0 (n := 3) rfl (impl_turn_l0 3 (by omega) x y hx hy))
  · exact Ev.congr (f := fun k => impl_turn.j0 k 4 x (-y)) (fun k => by simp only [impl_turn.f]; rw [if_pos (by omega), wn]) (impl_j0 (n := 0) rfl (by simpa [tx, ty] using impl_turn_l0 0 (by omega) x (-y) hx bn))
  · exact Ev.congr (f := fun k => impl_turn.j0 k 5 x (-y)) (fun k => by simp only [impl_turn.f]; rw [if_pos (by omega), wn]) (impl_j0 (n := 1) rfl (by simpa [tx, ty] using impl_turn_l0 1 (by omega) x (-y) hx bn))
  · exact Ev.congr (f := fun k => impl_turn.j0 k 6 x (-y)) (fun k => by simp only [impl_turn.f]; rw [if_pos (by omega), wn]) (impl_j0 (n := 2) rfl (by simpa [tx, ty] using impl_turn_l0 2 (by omega) x (-y) hx bn))
  · exact Ev.congr (f := fun k => impl_turn.j0 k 7 x (-y)) (fun k => by simp only [impl_turn.f]; rw [if_pos (by omega), wn]) (impl_j0 (n := 3) rfl (by simpa [tx, ty] using impl_turn_l0 3 (by omega) x (-y) hx bn))

theorem spec_j0 {o x y : Int} {n : Nat} {r : Int × Int} (ho : Int.tmod o 4 = n) (h : Ev (fun k => spec_l01Turn.l0 k x y n) r) : Ev (fun k => spec_l01Turn.j0 k o x y) r :=
  Ev.step (fun k => by simp only [spec_l01Turn.j0]; rw [ho]) h
theorem spec_turn_f (o x y : Int) (h0 : 0 ≤ o) (h7 : o ≤ 7) (hx : B x) (hy : B y) : Ev (fun k => spec_l01Turn.f k o x y) (tx o x y, ty o x y) := by
  have wn : wrap64 (-y) = -y := ws (by unfold B at hy; omega) (by unfold B at hy; omega)
  have bn : B (-y) := by unfold B at *; omega
  rcases or_cases h0 h7 with rfl | rfl | rfl | rfl | rfl | rfl | rfl | rfl
  · exact Ev.congr (f := fun k => spec_l01Turn.j0 k 0 x y) (fun k => by simp [spec_l01Turn.f]) (spec_j0 (n := 0) rfl (spec_turn_l0 0 (by omega) x y hx hy))
  · exact Ev.congr (f := fun k => spec_l01Turn.j0 k 1 x y) (fun k => by simp [spec_l01Turn.f]) (spec_j0 (n := 1) rfl (spec_turn_l0 1 (by omega) x y hx hy))
  · exact Ev.congr (f := fun k => spec_l01Turn.j0 k 2 x y) (fun k => by simp [spec_l01Turn.f]) (spec_j0 (n := 2) rfl (spec_turn_l0 2 (by omega) x y hx hy))
  · exact Ev.congr (f := fun k => spec_l01Turn.j0 k 3 x y) (fun k => by simp [spec_l01Turn.f]) (spec_j0 (n := 3) rfl (spec_turn_l0 3 (by omega) x y hx hy))
  · exact Ev.congr (f := fun k => spec_l01Turn.j0 k 4 x (-y)) (fun k => by simp only [spec_l01Turn.f]; rw [if_pos (by omega), wn]) (spec_j0 (n := 0) rfl (by simpa [tx, ty] using spec_turn_l0 0 (by omega) x (-y) hx bn))
  · exact Ev.congr (f := fun k => spec_l01Turn.j0 k 5 x (-y)) (fun k => by simp only [spec_l01Turn.f]; rw [if_pos (by omega), wn]) (spec_j0 (n := 1) rfl (by simpa [tx, ty] using spec_turn_l0 1 (by omega) x (-y) hx bn))
  · exact Ev.congr (f := fun k => spec_l01Turn.j0 k 6 x (-y)) (fun k => by simp only [spec_l01Turn.f]; rw [if_pos (by omega), wn]) (spec_j0 (n := 2) rfl (by simpa [tx, ty] using spec_turn_l0 2 (by omega) x (-y) hx bn))
  · exact Ev.congr (f := fun k => spec_l01Turn.j0 k 7 x (-y)) (fun k => by simp only [spec_l01Turn.f]; rw [if_pos (by omega), wn]) (spec_j0 (n := 3) rfl (by simpa [tx, ty] using spec_turn_l0 3 (by omega) x (-y) hx bn))

theorem t_bound (o x y : Int) {n : Int} (hx : -n ≤ x ∧ x ≤ n) (hy : -n ≤ y ∧ y ≤ n) : (-n ≤ tx o x y ∧ tx o x y ≤ n) ∧ (-n ≤ ty o x y ∧ ty o x y ≤ n) := by
  unfold tx ty
  constructor <;> repeat' split
  all_goals omega

def okT (o x y : Int) : Bool := decide (0 ≤ o ∧ o ≤ 7 ∧ -80 ≤ x ∧ x ≤ 80 ∧ -80 ≤ y ∧ y ≤ 80)
theorem impl_okT (o x y : Int) : impl_IsValidTransform.f o x y = some (okT o x y) := by
  unfold impl_IsValidTransform.f impl_within.f okT
  by_cases a : 0 ≤ o <;> by_cases b : o ≤ 7 <;> by_cases c : -80 ≤ x <;> by_cases d : x ≤ 80 <;> by_cases e : -80 ≤ y <;> by_cases f : y ≤ 80 <;> simp [a, b, c, d, e, f]
theorem spec_okT (o x y : Int) : spec_IsValidTransform.f o x y = some (okT o x y) := by
  unfold spec_IsValidTransform.f spec_l01In.f okT
  by_cases a : 0 ≤ o <;> by_cases b : o ≤ 7 <;> by_cases c : -80 ≤ x <;> by_cases d : x ≤ 80 <;> by_cases e : -80 ≤ y <;> by_cases f : y ≤ 80 <;> simp [a, b, c, d, e, f]

theorem impl_move_f (o a b x y : Int) (h0 : 0 ≤ o) (h7 : o ≤ 7) (ha : B a) (hb : B b) (hx : B x) (hy : B y) : Ev (fun k => impl_move.f k o a b x y) (tx o x y + a, ty o x y + b) := by
  have ⟨hX, hY⟩ := t_bound o x y (n := 1000000000000) hx hy
  unfold impl_move.f
  refine Ev.bind (impl_turn_f o x y h0 h7 hx hy) ?_
  rw [ws (by unfold B at *; omega) (by unfold B at *; omega), ws (by unfold B at *; omega) (by unfold B at *; omega)]
  exact Ev.now _
theorem spec_move_f (o a b x y : Int) (h0 : 0 ≤ o) (h7 : o ≤ 7) (ha : B a) (hb : B b) (hx : B x) (hy : B y) : Ev (fun k => spec_l01Move.f k o a b x y) (tx o x y + a, ty o x y + b) := by
  have ⟨hX, hY⟩ := t_bound o x y (n := 1000000000000) hx hy
  unfold spec_l01Move.f
  refine Ev.bind (spec_turn_f o x y h0 h7 hx hy) ?_
  rw [ws (by unfold B at *; omega) (by unfold B at *; omega), ws (by unfold B at *; omega) (by unfold B at *; omega)]
  exact Ev.now _

theorem all_same_o : ∀ a b : Fin 8, spec_l01Same.f 60 ((a.val : Nat) : Int) ((b.val : Nat) : Int) = some (cmpo ((a.val : Nat) : Int) ((b.val : Nat) : Int)) := by decide +kernel
theorem fin_of {o : Int} (h : 0 ≤ o) (h2 : o ≤ 7) : ∃ a : Fin 8, ((a.val : Nat) : Int) = o := ⟨⟨o.toNat, by omega⟩, by simp; omega⟩
theorem spec_same_f {a b : Int} (h0 : 0 ≤ a) (h1 : a ≤ 7) (h2 : 0 ≤ b) (h3 : b ≤ 7) : Ev (fun k => spec_l01Same.f k a b) (cmpo a b) := by
  obtain ⟨x, rfl⟩ := fin_of h0 h1
  obtain ⟨y, rfl⟩ := fin_of h2 h3
  exact Ev.of (fun k => spec_l01Same.mono _ _ k) (all_same_o x y)
theorem impl_composed_f {a b : Int} (h0 : 0 ≤ a) (h1 : a ≤ 7) (h2 : 0 ≤ b) (h3 : b ≤ 7) : impl_composed.f a b = some (cmpo a b) := if_pos ⟨h0, h1, h2, h3⟩
theorem cmpo_bd {a b : Int} (h0 : 0 ≤ a) (h1 : a ≤ 7) (h2 : 0 ≤ b) (h3 : b ≤ 7) : 0 ≤ cmpo a b ∧ cmpo a b ≤ 7 := by
  unfold cmpo
  split <;> split <;> omega
/-- Composition is one after the other. -/
theorem cmpo_acts {a b : Int} (h0 : 0 ≤ a) (h1 : a ≤ 7) (h2 : 0 ≤ b) (h3 : b ≤ 7) (x y : Int) : tx (cmpo a b) x y = tx b (tx a x y) (ty a x y) ∧ ty (cmpo a b) x y = ty b (tx a x y) (ty a x y) := by
  rcases or_cases h0 h1 with rfl | rfl | rfl | rfl | rfl | rfl | rfl | rfl <;> rcases or_cases h2 h3 with rfl | rfl | rfl | rfl | rfl | rfl | rfl | rfl <;> simp [cmpo, tx, ty]
theorem t_lin (o x y a b : Int) : tx o (x + a) (y + b) = tx o x y + tx o a b ∧ ty o (x + a) (y + b) = ty o x y + ty o a b := by
  unfold tx ty
  constructor <;> repeat' split
  all_goals omega

/-- The composed transform. -/
def cx (o x y o2 x2 y2 : Int) : Int := tx o2 x y + x2
def cy (o x y o2 x2 y2 : Int) : Int := ty o2 x y + y2
theorem okT_bd {o x y : Int} (h : okT o x y = true) : 0 ≤ o ∧ o ≤ 7 ∧ -80 ≤ x ∧ x ≤ 80 ∧ -80 ≤ y ∧ y ≤ 80 := of_decide_eq_true h
def cmpT (o x y o2 x2 y2 : Int) : Int × Int × Int × Bool := if okT o x y && okT o2 x2 y2 && okT (cmpo o o2) (cx o x y o2 x2 y2) (cy o x y o2 x2 y2) then (cmpo o o2, cx o x y o2 x2 y2, cy o x y o2 x2 y2, true) else (0, 0, 0, false)
theorem spec_cmp (o x y o2 x2 y2 : Int) : Ev (fun k => spec_ComposeTransforms.f k o x y o2 x2 y2) (cmpT o x y o2 x2 y2) := by
  unfold spec_ComposeTransforms.f cmpT
  simp only [spec_okT, Option.bind_some]
  cases h1 : okT o x y with
  | false =>
    simp only [Bool.false_eq_true, if_false, Bool.false_and]
    exact Ev.step (f := fun _ => some (0, 0, 0, false)) (fun k => by simp [spec_ComposeTransforms.j0]) (Ev.now _)
  | true =>
    cases h2 : okT o2 x2 y2 with
    | false =>
      simp only [if_true, Bool.true_and, Bool.false_and, Bool.not_false, Bool.false_eq_true, if_false]
      exact Ev.step (f := fun _ => some (0, 0, 0, false)) (fun k => by simp [spec_ComposeTransforms.j0]) (Ev.now _)
    | true =>
      obtain ⟨a0, a1, a2, a3, a4, a5⟩ := okT_bd h1
      obtain ⟨b0, b1, b2, b3, b4, b5⟩ := okT_bd h2
      simp only [if_true, Bool.true_and, Bool.not_true]
      refine Ev.step (f := fun k => (spec_l01Move.f k o2 x2 y2 x y).bind fun b => (spec_l01Same.f k o o2).bind fun u => (spec_IsValidTransform.f u b.1 b.2).bind fun v => if v = true then some (u, b.1, b.2, true) else some (0, 0, 0, false))
        (fun k => by simp only [spec_ComposeTransforms.j0, Bool.false_eq_true, if_false])
        (Ev.bind (spec_move_f o2 x2 y2 x y b0 b1 (by unfold B; omega) (by unfold B; omega) (by unfold B; omega) (by unfold B; omega)) (Ev.bind (spec_same_f a0 a1 b0 b1) ?_))
      simp only [spec_okT, Option.bind_some]
      show Ev (fun _ => if okT (cmpo o o2) (cx o x y o2 x2 y2) (cy o x y o2 x2 y2) = true then some _ else some _) _
      split
      · exact Ev.now _
      · exact Ev.now _
theorem impl_cmp (o x y o2 x2 y2 : Int) : Ev (fun k => impl_ComposeTransforms.f k o x y o2 x2 y2) (cmpT o x y o2 x2 y2) := by
  unfold impl_ComposeTransforms.f cmpT
  simp only [impl_okT, Option.bind_some]
  cases h1 : okT o x y with
  | false =>
    simp only [Bool.false_eq_true, if_false, Bool.false_and]
    exact Ev.step (f := fun _ => some (0, 0, 0, false)) (fun k => by simp [impl_ComposeTransforms.j0]) (Ev.now _)
  | true =>
    cases h2 : okT o2 x2 y2 with
    | false =>
      simp only [if_true, Bool.true_and, Bool.false_and, Bool.not_false, Bool.false_eq_true, if_false]
      exact Ev.step (f := fun _ => some (0, 0, 0, false)) (fun k => by simp [impl_ComposeTransforms.j0]) (Ev.now _)
    | true =>
      obtain ⟨a0, a1, a2, a3, a4, a5⟩ := okT_bd h1
      obtain ⟨b0, b1, b2, b3, b4, b5⟩ := okT_bd h2
      simp only [if_true, Bool.true_and, Bool.not_true]
      have hc : Ev (fun k => impl_compose.f k o x y o2 x2 y2) (cmpo o o2, cx o x y o2 x2 y2, cy o x y o2 x2 y2) := by
        unfold impl_compose.f
        refine Ev.bind (impl_move_f o2 x2 y2 x y b0 b1 (by unfold B; omega) (by unfold B; omega) (by unfold B; omega) (by unfold B; omega)) ?_
        simp only [impl_composed_f a0 a1 b0 b1, Option.bind_some]
        exact Ev.now _
      refine Ev.step (f := fun k => (impl_compose.f k o x y o2 x2 y2).bind fun b => (impl_IsValidTransform.f b.1 b.2.1 b.2.2).bind fun v => if v = true then some (b.1, b.2.1, b.2.2, true) else some (0, 0, 0, false))
        (fun k => by simp only [impl_ComposeTransforms.j0, Bool.false_eq_true, if_false]) (Ev.bind hc ?_)
      simp only [impl_okT, Option.bind_some]
      split
      · exact Ev.now _
      · exact Ev.now _

/-- The inverse. -/
def ino (o : Int) : Int := if o < 4 then (4 - o) % 4 else o
theorem ino_bd {o : Int} (h0 : 0 ≤ o) (h1 : o ≤ 7) : 0 ≤ ino o ∧ ino o ≤ 7 := by unfold ino; split <;> omega
def invT (o x y : Int) : Int × Int × Int × Bool := (ino o, tx (ino o) (-x) (-y), ty (ino o) (-x) (-y), true)
theorem impl_inv {o x y : Int} (h : okT o x y = true) : Ev (fun k => impl_InvertTransform.f k o x y) (invT o x y) := by
  obtain ⟨a0, a1, a2, a3, a4, a5⟩ := okT_bd h
  unfold impl_InvertTransform.f invT
  simp only [impl_okT, Option.bind_some, h, if_true]
  rw [ws (x := -x) (by omega) (by omega), ws (x := -y) (by omega) (by omega), ws (x := 4 - o) (by omega) (by omega)]
  by_cases h4 : o < 4
  · have e : Int.tmod (4 - o) 4 = ino o := by unfold ino; rw [if_pos h4, Int.tmod_eq_emod_of_nonneg (by omega)]
    simp only [if_pos h4, e]
    refine Ev.bind (impl_turn_f _ _ _ (ino_bd a0 a1).1 (ino_bd a0 a1).2 (by unfold B; omega) (by unfold B; omega)) (Ev.now _)
  · have e : o = ino o := by unfold ino; rw [if_neg h4]
    simp only [if_neg h4]
    rw [← e]
    exact Ev.bind (impl_turn_f _ _ _ a0 a1 (by unfold B; omega) (by unfold B; omega)) (Ev.now _)
theorem inv_ok {o x y : Int} (h : okT o x y = true) : cmpT o x y (ino o) (tx (ino o) (-x) (-y)) (ty (ino o) (-x) (-y)) = (0, 0, 0, true) := by
  obtain ⟨a0, a1, a2, a3, a4, a5⟩ := okT_bd h
  obtain ⟨i0, i1⟩ := ino_bd a0 a1
  obtain ⟨⟨b0, b1⟩, ⟨b2, b3⟩⟩ := t_bound (ino o) (-x) (-y) (n := 80) ⟨by omega, by omega⟩ ⟨by omega, by omega⟩
  have hok : okT (ino o) (tx (ino o) (-x) (-y)) (ty (ino o) (-x) (-y)) = true := decide_eq_true ⟨i0, i1, b0, b1, b2, b3⟩
  have ho : cmpo o (ino o) = 0 := by
    rcases or_cases a0 a1 with rfl | rfl | rfl | rfl | rfl | rfl | rfl | rfl <;> simp [ino, cmpo]
  have hx : cx o x y (ino o) (tx (ino o) (-x) (-y)) (ty (ino o) (-x) (-y)) = 0 := by
    have := (t_lin (ino o) x y (-x) (-y)).1
    unfold cx
    rw [← this]
    unfold tx
    repeat' split
    all_goals omega
  have hy : cy o x y (ino o) (tx (ino o) (-x) (-y)) (ty (ino o) (-x) (-y)) = 0 := by
    have := (t_lin (ino o) x y (-x) (-y)).2
    unfold cy
    rw [← this]
    unfold ty
    repeat' split
    all_goals omega
  unfold cmpT
  rw [h, hok, ho, hx, hy]
  rfl

def onP (x y : Int) : Bool := decide (-40 ≤ x ∧ x ≤ 40 ∧ -40 ≤ y ∧ y ≤ 40)
theorem impl_onP (x y : Int) : impl_onChip.f x y = some (onP x y) := by
  unfold impl_onChip.f impl_within.f onP
  by_cases a : -40 ≤ x <;> by_cases b : x ≤ 40 <;> by_cases c : -40 ≤ y <;> by_cases d : y ≤ 40 <;> simp [a, b, c, d]
def mvP (o a b x y : Int) : Int × Int × Bool := if okT o a b && onP x y then (tx o x y + a, ty o x y + b, true) else (0, 0, false)
theorem impl_mvP (o a b x y : Int) : Ev (fun k => impl_MovePoint.f k o a b x y) (mvP o a b x y) := by
  unfold impl_MovePoint.f mvP
  simp only [impl_okT, impl_onP, Option.bind_some]
  cases h1 : okT o a b with
  | false => simp only [Bool.false_eq_true, if_false, Bool.false_and]; exact Ev.now _
  | true =>
    cases h2 : onP x y with
    | false => simp only [Bool.false_eq_true, if_false, if_true, Bool.true_and]; exact Ev.now _
    | true =>
      obtain ⟨a0, a1, a2, a3, a4, a5⟩ := okT_bd h1
      obtain ⟨b0, b1, b2, b3⟩ := of_decide_eq_true h2
      simp only [if_true, Bool.true_and]
      exact Ev.bind (impl_move_f o a b x y a0 a1 (by unfold B; omega) (by unfold B; omega) (by unfold B; omega) (by unfold B; omega)) (Ev.now _)

/-! draws -/
theorem next_f (l : List Int) (i s n : Int) (hl : l.length ≤ 4096) (h0 : 0 ≤ i) (h1 : i ≤ l.length) (hn : 1 < n) : ∃ r i' s', spec_l01Next.f l i s n = some (r, i', s') ∧ 0 ≤ i' ∧ i' ≤ l.length := by
  unfold spec_l01Next.f
  rw [if_neg (by omega)]
  by_cases h : i < (l.length : Int)
  · rw [if_pos h, if_pos h0, ws (x := i + 1) (by omega) (by omega)]
    by_cases h2 : n > 256
    · rw [if_pos h2, if_neg (by omega)]; exact ⟨_, _, _, rfl, by omega, by omega⟩
    · rw [if_neg h2, if_neg (by omega)]; exact ⟨_, _, _, rfl, by omega, by omega⟩
  · rw [if_neg h, if_neg (by omega)]; exact ⟨_, _, _, rfl, h0, h1⟩
theorem drawT_f (l : List Int) (i s : Int) (hl : l.length ≤ 4096) (h0 : 0 ≤ i) (h1 : i ≤ l.length) : ∃ o x y i' s', spec_l01DrawTransform.f l i s = some (o, x, y, i', s') ∧ 0 ≤ i' ∧ i' ≤ l.length := by
  unfold spec_l01DrawTransform.f
  obtain ⟨r1, i1, s1, e1, a1, b1⟩ := next_f l i s 8 hl h0 h1 (by omega)
  obtain ⟨r2, i2, s2, e2, a2, b2⟩ := next_f l i1 s1 25 hl a1 b1 (by omega)
  obtain ⟨r3, i3, s3, e3, a3, b3⟩ := next_f l i2 s2 25 hl a2 b2 (by omega)
  obtain ⟨r4, i4, s4, e4, a4, b4⟩ := next_f l i3 s3 12 hl a3 b3 (by omega)
  obtain ⟨r5, i5, s5, e5, a5, b5⟩ := next_f l i4 s4 163 hl a4 b4 (by omega)
  simp only [e1, e2, e3, e4, e5, Option.bind_some]
  by_cases h : r4 = 0
  · rw [if_pos h]; exact ⟨_, _, _, _, _, rfl, a5, b5⟩
  · rw [if_neg h]; exact ⟨_, _, _, _, _, rfl, a4, b4⟩
theorem drawC_f (l : List Int) (hl : l.length ≤ 4096) : ∃ o x y o2 x2 y2, spec_DrawComposeTransforms.f l = some (o, x, y, o2, x2, y2) := by
  unfold spec_DrawComposeTransforms.f spec_l01From.f
  simp only [Option.bind_some]
  obtain ⟨o, x, y, i, s, e, a, b⟩ := drawT_f l 0 (seedOf l) hl (by omega) (by omega)
  obtain ⟨o2, x2, y2, i2, s2, e2, _, _⟩ := drawT_f l i s hl a b
  simp only [e, e2, Option.bind_some]
  exact ⟨_, _, _, _, _, _, rfl⟩
theorem below_f (l : List Int) (i h n : Int) (hb : ∀ x ∈ l, 0 ≤ x ∧ x ≤ 255) (hl : l.length ≤ 4096) (h0 : 0 ≤ i) (h1 : i ≤ l.length) (hn : 0 < n) (hn2 : n ≤ 1000) : ∃ r i' h', laws_dice_below.f l i h n = some (r, i', h') ∧ 0 ≤ r ∧ r < n ∧ 0 ≤ i' ∧ i' ≤ l.length := by
  unfold laws_dice_below.f
  have hw : ∀ z : Int, 0 ≤ IntKind.u64.wrap z ∧ IntKind.u64.wrap z < 18446744073709551616 := fun z => by rw [IntKind.wrap_u64]; omega
  obtain ⟨w0, w1⟩ := hw ((IntKind.u64.wrap (h * 6364136223846793005)) + 1442695040888963407)
  generalize IntKind.u64.wrap ((IntKind.u64.wrap (h * 6364136223846793005)) + 1442695040888963407) = z at *
  have hm : Go.bits .and .u64 (z / 8589934592) 16777215 = (z / 8589934592) % 16777216 :=
    bits_mask .u64 62 (by decide) (fun n a b => by rw [IntKind.wrap_u64]; omega) 24 (by decide) (z / 8589934592) (by omega) (by omega)
  rw [hm]
  have hr : 0 ≤ (z / 8589934592) % 16777216 ∧ (z / 8589934592) % 16777216 < 16777216 := by omega
  generalize (z / 8589934592) % 16777216 = m at *
  by_cases h : i < (l.length : Int)
  · have hrd : 0 ≤ rd l i ∧ rd l i ≤ 255 := by
      unfold rd
      have : i.toNat < l.length := by omega
      rw [List.getD_eq_getElem?_getD, List.getElem?_eq_getElem this]
      exact hb _ (List.getElem_mem this)
    rw [if_pos h, if_pos h0, if_neg (by omega), ws (x := m) (by omega) (by omega), ws (x := rd l i) (by omega) (by omega), ws (x := m + rd l i) (by omega) (by omega), ws (x := i + 1) (by omega) (by omega), Int.tmod_eq_emod_of_nonneg (by omega)]
    exact ⟨_, _, _, rfl, Int.emod_nonneg _ (by omega), Int.emod_lt_of_pos _ hn, by omega, by omega⟩
  · rw [if_neg h, if_neg (by omega), ws (x := m) (by omega) (by omega), Int.tmod_eq_emod_of_nonneg (by omega)]
    exact ⟨_, _, _, rfl, Int.emod_nonneg _ (by omega), Int.emod_lt_of_pos _ hn, h0, h1⟩
end Go.Proofs.Yteepckjegpnffaa.Q
