/- The reference's fill: the list of the unit cells with an odd number of upright edges on their left; it is the program's grid. -/
import Derived.Test.YtjpfhnpdbjefkaaPolyContains
import Derived.Test.YtjpfhnpdbjefkaaPx40
import Derived.Test.YtjpfhnpdbjefkaaPx39
set_option linter.unusedVariables false
set_option linter.unusedSimpArgs false
namespace Go.Proofs.Ytjpfhnpdbjefkaa.Q
open Go.RowKit Go.Proofs.Ytjpfhnpdbjefkaa.P Go.Proofs.Ytjpfhnpdbjefkaa.H Go.Proofs.YtjpfhnpdbjefkaaW.PrintWords Go.Proofs.YtjpfhnpdbjefkaaW.PrintLast Go.Proofs.YtjpfhnpdbjefkaaW.PrintMore

/-- The flags of a grid, row by row. -/
def bitsN (n : Nat) (g : Nat → Bool) : List Bool := (List.range n).map g
theorem bits_there : ∃ f : (Nat → Bool) → List Bool, ∀ g, f g = bitsN 6400 g := ⟨bitsN 6400, fun _ => rfl⟩
noncomputable def bits : (Nat → Bool) → List Bool := Classical.choose bits_there
theorem bits_is (g : Nat → Bool) : bits g = bitsN 6400 g := Classical.choose_spec bits_there g
theorem bitsN_len (n : Nat) (g : Nat → Bool) : (bitsN n g).length = n := by simp [bitsN]
theorem bits_len (g : Nat → Bool) : (bits g).length = 6400 := by rw [bits_is]; exact bitsN_len _ _
theorem bitsN_get (n : Nat) (g : Nat → Bool) (i : Nat) (h : i < n) : (bitsN n g)[i]? = some (g i) := by simp [bitsN, h]
theorem bits_rd (g : Nat → Bool) (i : Nat) (h : i < 6400) : rdOf false (bits g) i = g i := by
  unfold rdOf
  rw [bits_is, Int.toNat_natCast, List.getD_eq_getElem?_getD, bitsN_get _ _ _ h]
  rfl
theorem bitsN_ext (n : Nat) (g : Nat → Bool) (l : List Bool) (hl : l.length = n) (h : ∀ i, i < n → l[i]? = some (g i)) : l = bitsN n g := by
  apply List.ext_getElem?
  intro i
  rcases Nat.lt_or_ge i n with hi | hi
  · rw [h i hi, bitsN_get _ _ _ hi]
  · rw [List.getElem?_eq_none (by omega), List.getElem?_eq_none (by rw [bitsN_len]; omega)]
theorem bits_set (g g' : Nat → Bool) (i : Nat) (v : Bool) (hi : i < 6400) (h : ∀ j, j < 6400 → g' j = if j = i then v else g j) : (bits g).set i v = bits g' := by
  rw [bits_is g']
  refine bitsN_ext 6400 g' _ (by rw [List.length_set, bits_len]) fun j hj => ?_
  rw [List.getElem?_set, h j hj]
  by_cases e : i = j
  · subst e
    rw [if_pos rfl, if_pos (by rw [bits_len]; exact hj), if_pos rfl]
  · rw [if_neg e, if_neg (fun x => e x.symm), bits_is]
    exact bitsN_get _ _ _ hj
theorem bits_congr {g g' : Nat → Bool} (h : ∀ i, i < 6400 → g i = g' i) : bits g = bits g' := by
  rw [bits_is g']
  exact bitsN_ext 6400 g' _ (bits_len g) fun i hi => by rw [bits_is, bitsN_get _ _ _ hi, h i hi]
theorem bitsN_false (n : Nat) : List.replicate n false = bitsN n (fun _ => false) :=
  bitsN_ext n _ _ List.length_replicate fun i hi => by rw [List.getElem?_replicate, if_pos hi]
theorem bits_false : List.replicate 6400 false = bits (fun _ => false) := by rw [bits_is]; exact bitsN_false 6400

theorem at_int {x y : Int} (hx : -40 ≤ x) (hy : -40 ≤ y) : (y + 40) * 80 + x + 40 = ((at_ x y : Nat) : Int) := by
  unfold at_
  omega
theorem l03At_f {x y : Int} (hx : -40 ≤ x) (hx2 : x ≤ 39) (hy : -40 ≤ y) (hy2 : y ≤ 39) : spec_l03At.f x y = some ((at_ x y : Nat) : Int) := by
  have e1 : wrap64 (y + 40) = y + 40 := w64 (by omega) (by omega)
  have e2 : wrap64 ((y + 40) * 80) = (y + 40) * 80 := w64 (by omega) (by omega)
  have e3 : wrap64 ((y + 40) * 80 + x) = (y + 40) * 80 + x := w64 (by omega) (by omega)
  have e4 : wrap64 ((y + 40) * 80 + x + 40) = (y + 40) * 80 + x + 40 := w64 (by omega) (by omega)
  have e5 := at_int hx hy
  unfold spec_l03At.f
  rw [e1, e2, e3, e4, e5]
theorem at_lt {x y : Int} (hx : -40 ≤ x) (hx2 : x ≤ 39) (hy : -40 ≤ y) (hy2 : y ≤ 39) : at_ x y < 6400 := by unfold at_; omega
theorem l03Has_f (g : Nat → Bool) (x y : Int) : spec_l03Has.f (bits g) x y = some (hasG g x y) := by
  unfold spec_l03Has.f spec_l01In.f hasG uc
  by_cases a : -40 ≤ x
  · by_cases b : x ≤ 39
    · by_cases c : -40 ≤ y
      · by_cases d : y ≤ 39
        · have h := at_lt a b c d
          simp only [ge_iff_le, a, b, c, d, if_true, decide_true, Option.bind_some, and_self, Bool.true_and, l03At_f a b c d]
          have h1 : (0 : Int) ≤ ((at_ x y : Nat) : Int) := by omega
          have h2 : ((at_ x y : Nat) : Int) < ((bits g).length : Int) := by rw [bits_len]; omega
          rw [if_pos h1, if_pos h2, bits_rd _ _ h]
        · simp [a, b, c, d]
      · simp [a, b, c]
    · simp [a, b]
  · simp [a]

/-! the reference's loops -/
def fillTo (x a b y : Int) (c : Int) (i : Nat) : Bool := decide (min a b + 40 ≤ (i / 80 : Nat) ∧ x + 40 ≤ (i % 80 : Nat) ∧ (((i / 80 : Nat) : Int) < y + 40 ∨ (((i / 80 : Nat) : Int) = y + 40 ∧ ((i % 80 : Nat) : Int) < c + 40)))
def fillHit (e : S54) (i : Nat) : Bool := upright e && fillTo e.f0 e.f1 e.f3 (max e.f1 e.f3) (-40) i
def fillG (es : List S54) (i : Nat) : Bool := es.foldl (fun b e => b != fillHit e i) false

theorem fill_l2 (es : List S54) (g : Nat → Bool) (i4 : Int) (x a x2 b y : Int) {r : List Bool} (hx : -40 ≤ x) (ha : -40 ≤ a) (hb : -40 ≤ b) (hy : min a b ≤ y) (hy2 : y < max a b) (hm : max a b ≤ 40) (d : Nat) : ∀ c : Int, c + d = 40 → x ≤ c →
    Ev (fun k => spec_l06Fill.l1 k es (bits fun i => g i != fillTo x a b (y + 1) (-40) i) i4 (y + 1) x a x2 b) r →
    Ev (fun k => spec_l06Fill.l2 k es (bits fun i => g i != fillTo x a b y c i) i4 y c x a x2 b) r := by
  induction d with
  | zero =>
    intro c hc hxc h
    refine Ev.step (fun k => ?_) h
    simp only [spec_l06Fill.l2]
    rw [if_neg (by omega), w64 (by omega) (by omega)]
    rw [bits_congr (g' := fun i => g i != fillTo x a b (y + 1) (-40) i)]
    intro i hi
    simp only [fillTo]
    congr 1
    rw [decide_eq_decide]
    omega
  | succ d ih =>
    intro c hc hxc h
    refine Ev.step (fun k => ?_) (ih (c + 1) (by omega) (by omega) h)
    simp only [spec_l06Fill.l2]
    have hl := at_lt (x := c) (y := y) (by omega) (by omega) (by omega) (by omega)
    rw [if_pos (by omega), l03At_f (by omega) (by omega) (by omega) (by omega)]
    simp only [Option.bind_some]
    rw [if_pos (by omega), if_pos (by rw [bits_len]; omega), if_pos (by omega), if_pos (by rw [bits_len]; omega), w64 (by omega) (by omega), Int.toNat_natCast, bits_rd _ _ hl,
      bits_set _ (fun i => g i != fillTo x a b y (c + 1) i) _ _ hl]
    intro j hj
    by_cases e : j = at_ c y
    · rw [if_pos e, ← e]
      have e1 : fillTo x a b y (c + 1) j = true := by
        unfold fillTo at_ at *
        rw [decide_eq_true_eq]
        omega
      have e2 : fillTo x a b y c j = false := by
        unfold fillTo at_ at *
        rw [decide_eq_false_iff_not]
        omega
      rw [e1, e2]
      simp
    · rw [if_neg e]
      congr 1
      unfold fillTo
      rw [decide_eq_decide]
      unfold at_ at e
      omega

theorem fill_l1 (es : List S54) (g : Nat → Bool) (n : Nat) (x a x2 b : Int) {r : List Bool} (hn : n < es.length) (hes : es.length ≤ 1048576) (hx : -40 ≤ x) (hx4 : x ≤ 40) (ha : -40 ≤ a) (hb : -40 ≤ b) (hm : max a b ≤ 40) (d : Nat) : ∀ y : Int, y + d = max a b → min a b ≤ y →
    Ev (fun k => spec_l06Fill.l0 k es (bits fun i => g i != fillTo x a b (max a b) (-40) i) ((n + 1 : Nat) : Int)) r →
    Ev (fun k => spec_l06Fill.l1 k es (bits fun i => g i != fillTo x a b y (-40) i) n y x a x2 b) r := by
  induction d with
  | zero =>
    intro y hy hmn h
    obtain rfl : y = max a b := by omega
    refine Ev.step (fun k => ?_) h
    simp only [spec_l06Fill.l1]
    have e : mx a b = max a b := by unfold mx; split <;> omega
    rw [e, if_neg (by omega), w64 (by omega) (by omega)]
    rfl
  | succ d ih =>
    intro y hy hmn h
    have e : mx a b = max a b := by unfold mx; split <;> omega
    have e2 : (bits fun i => g i != fillTo x a b y (-40) i) = bits fun i => g i != fillTo x a b y x i := by
      refine bits_congr fun i hi => ?_
      congr 1
      unfold fillTo
      rw [decide_eq_decide]
      omega
    refine Ev.step (fun k => ?_) (fill_l2 es g n x a x2 b y hx ha hb hmn (by omega) hm (40 - x).toNat x (by omega) (by omega) (ih (y + 1) (by omega) (by omega) h))
    simp only [spec_l06Fill.l1]
    rw [e, if_pos (by omega), e2]

theorem fill_l0 (es : List S54) (hes : es.length ≤ 1048576) (hok : ∀ e ∈ es, EOk e) (d : Nat) : ∀ n : Nat, n + d = es.length → Ev (fun k => spec_l06Fill.l0 k es (bits (fillG (es.take n))) n) (bits (fillG es)) := by
  induction d with
  | zero =>
    intro n hn
    refine Ev.step (f := fun _ => some (bits (fillG es))) (fun k => ?_) (Ev.now _)
    simp only [spec_l06Fill.l0]
    rw [if_neg (by omega), List.take_of_length_le (by omega)]
  | succ d ih =>
    intro n hn
    have hlt : n < es.length := by omega
    have ht : ∀ i, fillG (es.take (n + 1)) i = (fillG (es.take n) i != fillHit es[n] i) := by
      intro i
      unfold fillG
      rw [List.take_succ_eq_append_getElem hlt, List.foldl_append]
      rfl
    have hrd : rd_T54 es n = es[n] := by simp [rd_T54, List.getD_eq_getElem?_getD, hlt]
    have ho := hok _ (List.getElem_mem hlt)
    by_cases hu : es[n].f0 = es[n].f2
    · have hup : upright es[n] = true := by simp [upright, hu]
      obtain ⟨⟨o1, o2⟩, ⟨o3, o4⟩, _, ⟨o7, o8⟩⟩ := ho
      have h1 : Ev (fun k => spec_l06Fill.l0 k es (bits fun i => fillG (es.take n) i != fillTo es[n].f0 es[n].f1 es[n].f3 (max es[n].f1 es[n].f3) (-40) i) ((n + 1 : Nat) : Int)) (bits (fillG es)) := by
        rw [bits_congr (g' := fillG (es.take (n + 1)))]
        · exact ih (n + 1) (by omega)
        · intro i hi
          rw [ht i]
          unfold fillHit
          rw [hup, Bool.true_and]
      refine Ev.step (fun k => ?_) (fill_l1 es (fillG (es.take n)) n es[n].f0 es[n].f1 es[n].f2 es[n].f3 hlt hes o1 o2 o3 o7 (by omega) (max es[n].f1 es[n].f3 - min es[n].f1 es[n].f3).toNat (min es[n].f1 es[n].f3) (by omega) (by omega) h1)
      simp only [spec_l06Fill.l0]
      have em : mn es[n].f1 es[n].f3 = min es[n].f1 es[n].f3 := by unfold mn; split <;> omega
      rw [if_pos (by omega), if_pos (by omega), hrd, if_pos hu, em]
      rw [bits_congr (g' := fun i => fillG (es.take n) i != fillTo es[n].f0 es[n].f1 es[n].f3 (min es[n].f1 es[n].f3) (-40) i)]
      intro i hi
      have : fillTo es[n].f0 es[n].f1 es[n].f3 (min es[n].f1 es[n].f3) (-40) i = false := by
        unfold fillTo
        rw [decide_eq_false_iff_not]
        omega
      rw [this]
      simp
    · have hup : upright es[n] = false := by simp [upright, hu]
      refine Ev.step (fun k => ?_) (ih (n + 1) (by omega))
      simp only [spec_l06Fill.l0]
      rw [if_pos (by omega), if_pos (by omega), hrd, if_neg hu, w64 (by omega) (by omega)]
      rw [bits_congr (g' := fillG (es.take (n + 1)))]
      · rfl
      · intro i hi
        rw [ht i]
        unfold fillHit
        rw [hup]
        simp

theorem fill_f (es : List S54) (hes : es.length ≤ 1048576) (hok : ∀ e ∈ es, EOk e) : Ev (fun k => spec_l06Fill.f k es) (bits (fillG es)) := by
  refine Ev.congr (fun k => ?_) (fill_l0 es hes hok es.length 0 (by omega))
  simp only [spec_l06Fill.f]
  rw [if_pos (by omega), bits_false]
  rfl

/-! it is the program's -/
theorem px_ind {p : Nat → Bool → Prop} (g : Nat → Bool) (r : Nat) (h0 : p 0 (g (r * 80))) (hs : ∀ c b, c + 1 < 80 → p c b → p (c + 1) (b != g (r * 80 + (c + 1)))) : ∀ c, c < 80 → p c (px g (r * 80 + c)) := by
  intro c
  induction c with
  | zero => intro _; rw [Nat.add_zero, px_first]; exact h0
  | succ c ih =>
    intro hc
    rw [px_next g r c hc]
    exact hs c _ hc (ih (by omega))
theorem px_xor (g h : Nat → Bool) (r : Nat) : ∀ c, c < 80 → px (fun i => g i != h i) (r * 80 + c) = (px g (r * 80 + c) != px h (r * 80 + c)) := by
  intro c
  induction c with
  | zero => intro _; rw [Nat.add_zero, px_first, px_first, px_first]
  | succ c ih =>
    intro hc
    rw [px_next _ r c hc, px_next g r c hc, px_next h r c hc, ih (by omega)]
    cases px g (r * 80 + c) <;> cases px h (r * 80 + c) <;> cases g (r * 80 + (c + 1)) <;> cases h (r * 80 + (c + 1)) <;> rfl
theorem px_hit (e : S54) (hu : upright e = true) (ho : EOk e) (r : Nat) (hr : r < 80) : ∀ c, c < 80 → px (hit e) (r * 80 + c) = fillHit e (r * 80 + c) := by
  obtain ⟨⟨o1, o2⟩, _⟩ := ho
  intro c
  unfold fillHit
  rw [hu, Bool.true_and]
  induction c with
  | zero =>
    intro _
    rw [Nat.add_zero, px_first]
    unfold hit hitTo fillTo
    rw [show r * 80 % 80 = 0 from by omega, show r * 80 / 80 = r from by omega, decide_eq_decide]
    omega
  | succ c ih =>
    intro hc
    rw [px_next _ r c hc, ih (by omega)]
    unfold hit hitTo fillTo
    rw [show (r * 80 + (c + 1)) % 80 = c + 1 from by omega, show (r * 80 + (c + 1)) / 80 = r from by omega, show (r * 80 + c) % 80 = c from by omega, show (r * 80 + c) / 80 = r from by omega]
    by_cases hrow : min e.f1 e.f3 + 40 ≤ (r : Int) ∧ (r : Int) < max e.f1 e.f3 + 40
    · by_cases h1 : e.f0 + 40 ≤ (c : Int)
      · rw [decide_eq_true (by omega), decide_eq_false (by omega), decide_eq_true (by omega)]; rfl
      · by_cases h2 : e.f0 + 40 = ((c + 1 : Nat) : Int)
        · rw [decide_eq_false (by omega), decide_eq_true (by omega), decide_eq_true (by omega)]; rfl
        · rw [decide_eq_false (by omega), decide_eq_false (by omega), decide_eq_false (by omega)]; rfl
    · rw [decide_eq_false (by omega), decide_eq_false (by omega), decide_eq_false (by omega)]; rfl
theorem foldl_xor {α : Type} (f : α → Bool) (l : List α) : ∀ b : Bool, l.foldl (fun b e => b != f e) b = (b != l.foldl (fun b e => b != f e) false) := by
  induction l with
  | nil => intro b; cases b <;> rfl
  | cons x l ih =>
    intro b
    rw [List.foldl_cons, List.foldl_cons, ih, ih (false != f x)]
    cases b <;> cases f x <;> cases l.foldl (fun b e => b != f e) false <;> rfl
theorem flips_cons (e : S54) (es : List S54) (i : Nat) : flips (e :: es) i = (hit e i != flips es i) := by
  unfold flips
  rw [List.foldl_cons, foldl_xor (fun e => hit e i)]
  cases hit e i <;> rfl
theorem fillG_cons (e : S54) (es : List S54) (i : Nat) : fillG (e :: es) i = (fillHit e i != fillG es i) := by
  unfold fillG
  rw [List.foldl_cons, foldl_xor (fun e => fillHit e i)]
  cases fillHit e i <;> rfl
theorem px_zero (r : Nat) : ∀ c, c < 80 → px (fun _ => false) (r * 80 + c) = false := by
  intro c
  induction c with
  | zero => intro _; rw [Nat.add_zero, px_first]
  | succ c ih => intro hc; rw [px_next _ r c hc, ih (by omega)]; rfl
theorem fill_same (es : List S54) (hok : ∀ e ∈ es, EOk e) (r : Nat) (hr : r < 80) (c : Nat) (hc : c < 80) : px (flips (es.filter upright)) (r * 80 + c) = fillG es (r * 80 + c) := by
  induction es with
  | nil => exact px_zero r c hc
  | cons e es ih =>
    have ih := ih (fun x hx => hok x (List.mem_cons_of_mem _ hx))
    rw [fillG_cons]
    by_cases hu : upright e = true
    · rw [List.filter_cons, if_pos hu]
      have : flips (e :: es.filter upright) = fun i => hit e i != flips (es.filter upright) i := funext fun i => flips_cons _ _ _
      rw [this, px_xor _ _ r c hc, ih, px_hit e hu (hok e List.mem_cons_self) r hr c hc]
    · rw [List.filter_cons, if_neg hu, ih]
      have : fillHit e (r * 80 + c) = false := by unfold fillHit; rw [Bool.eq_false_iff.2 hu]; rfl
      rw [this]
      cases fillG es (r * 80 + c) <;> rfl
theorem inside_bits (p : List S47) (h : vp p = true) : bits (fillG (sides p)) = bits (insideG p) := by
  refine bits_congr fun i hi => ?_
  have e : i = i / 80 * 80 + i % 80 := by omega
  have := fill_same (sides p) (sides_ok h) (i / 80) (by omega) (i % 80) (by omega)
  rw [← e] at this
  exact this.symm
/-- The reference's flags of a valid polygon. -/
theorem spec_inside (p : List S47) (h : vp p = true) : Ev (fun k => spec_l06Fill.f k (sides p)) (bits (insideG p)) := by
  rw [← inside_bits p h]
  exact fill_f _ (by rw [sides_len]; have := vp_len h; omega) (sides_ok h)
end Go.Proofs.Ytjpfhnpdbjefkaa.Q
