/- BucketsOf: the pure statement: the program's list of buckets is the reference's, and the marks laid into it are held. -/
import Derived.Test.YtjpfhnpdbjefkaaStmFnExactBucketsOf
set_option linter.unusedVariables false
set_option linter.unusedSimpArgs false
namespace Go.Proofs.Ytjpfhnpdbjefkaa.fnExactBucketsOf
open Go.RowKit Go.Proofs.Ytjpfhnpdbjefkaa.PFnExactBucketsOf Go.Proofs.YtjpfhnpdbjefkaaW.PrintWords Go.Proofs.YtjpfhnpdbjefkaaW.PrintLast

theorem w64 {x : Int} (h : -1000000 ≤ x) (h2 : x ≤ 1000000) : wrap64 x = x := by unfold wrap64; omega
theorem w64' {x : Int} (h : -1000000000000000 ≤ x) (h2 : x ≤ 1000000000000000) : wrap64 x = x := by unfold wrap64; omega

/-! marks -/
def marks : Int → Nat → List Int
  | _, 0 => []
  | m, n + 1 => m :: marks (m + 1) n
theorem marks_len (n : Nat) : ∀ m, (marks m n).length = n := by
  induction n with
  | zero => intro m; rfl
  | succ n ih => intro m; simp [marks, ih]
theorem marks_get (n : Nat) : ∀ (m : Int) (i : Nat), i < n → (marks m n).getD i 0 = m + i := by
  induction n with
  | zero => intro m i h; omega
  | succ n ih =>
    intro m i h
    cases i with
    | zero => simp [marks]
    | succ i => simp only [marks, List.getD_cons_succ]; rw [ih _ _ (by omega)]; omega

theorem ev_eq (l : List Int) (hl : l.length ≤ 1000000) (d : Nat) : ∀ i : Nat, i + d = l.length → Ev (fun k => laws_eqInt64S.l0 k l l i) true := by
  induction d with
  | zero =>
    intro i hi
    refine Ev.step (f := fun _ => some true) (fun k => ?_) (Ev.now true)
    simp only [laws_eqInt64S.l0]
    rw [if_neg (by omega)]
  | succ d ih =>
    intro i hi
    refine Ev.step (f := fun k => laws_eqInt64S.l0 k l l (i + 1 : Nat)) (fun k => ?_) (ih (i + 1) (by omega))
    simp only [laws_eqInt64S.l0]
    rw [if_pos (by omega), if_pos (by omega), if_pos (by omega), if_pos trivial, w64' (by omega) (by omega)]
    rfl

theorem ev_eqS (l : List Int) (hl : l.length ≤ 1000000) : Ev (fun k => laws_eqInt64S.f k l l) true := by
  refine Ev.congr (f := fun k => laws_eqInt64S.l0 k l l (0 : Nat)) (fun k => ?_) (ev_eq l hl l.length 0 (by omega))
  simp only [laws_eqInt64S.f]
  rw [if_pos trivial]
  rfl

theorem set_marks (l : List Int) (m : Int) (i : Nat) (h : i < l.length) : (marks m i ++ l.drop i).set i (m + i) = marks m (i + 1) ++ l.drop (i + 1) := by
  apply List.ext_getElem
  · simp [marks_len]; omega
  · intro j h1 h2
    have e := marks_get (i + 1) m
    have e' := marks_get i m
    simp only [List.length_set, List.length_append, marks_len, List.length_drop] at h1
    simp only [List.getElem_set, List.getElem_append, marks_len]
    have g : ∀ (n : Nat) (h : j < (marks m n).length), (marks m n)[j] = m + j := fun n h => by
      have := marks_get n m j (by simpa [marks_len] using h)
      simpa [List.getD_eq_getElem?_getD, h] using this
    split
    · subst_vars; rw [dif_pos (by omega), g]
    · by_cases hj : j < i
      · rw [dif_pos hj, dif_pos (by omega), g, g]
      · rw [dif_neg hj, dif_neg (by omega)]
        simp only [List.getElem_drop]
        congr 1
        omega

theorem ev_mark (l : List Int) (m : Int) (hm : 0 ≤ m) (hm2 : m ≤ 1000000) (hl : l.length ≤ 1000000) (d : Nat) : ∀ i : Nat, i + d = l.length → Ev (fun k => laws_markInt64S.l0 k (marks m i ++ l.drop i) (m + i) i) (m + l.length, marks m l.length) := by
  induction d with
  | zero =>
    intro i hi
    refine Ev.step (f := fun _ => some (m + l.length, marks m l.length)) (fun k => ?_) (Ev.now _)
    simp only [laws_markInt64S.l0]
    have : i = l.length := by omega
    subst this
    rw [if_neg (by simp [marks_len])]
    simp
  | succ d ih =>
    intro i hi
    refine Ev.step (f := fun k => laws_markInt64S.l0 k (marks m (i + 1) ++ l.drop (i + 1)) (m + (i + 1 : Nat)) (i + 1 : Nat)) (fun k => ?_) (ih (i + 1) (by omega))
    simp only [laws_markInt64S.l0]
    rw [if_pos (by simp [marks_len]; omega), if_pos (by omega), w64' (by omega) (by omega), w64' (by omega) (by omega), Int.toNat_natCast, set_marks _ _ _ (by omega)]
    congr 1
    omega

theorem ev_markS (l : List Int) (hl : l.length ≤ 1000000) : Ev (fun k => laws_markInt64S.f k l 1) (1 + l.length, marks 1 l.length) := by
  have := ev_mark l 1 (by omega) (by omega) hl l.length 0 (by omega)
  refine Ev.congr (fun k => ?_) this
  simp [laws_markInt64S.f, marks]

theorem ev_held (m : Int) (n : Nat) (hm : 0 ≤ m) (hm2 : m ≤ 1000000) (hl : n ≤ 1000000) (d : Nat) : ∀ i : Nat, i + d = n → Ev (fun k => laws_heldInt64S.l0 k (marks m n) (m + i) i) (m + n) := by
  induction d with
  | zero =>
    intro i hi
    refine Ev.step (f := fun _ => some (m + n)) (fun k => ?_) (Ev.now _)
    simp only [laws_heldInt64S.l0]
    rw [if_neg (by rw [marks_len]; omega)]
    congr 2
    omega
  | succ d ih =>
    intro i hi
    refine Ev.step (f := fun k => laws_heldInt64S.l0 k (marks m n) (m + (i + 1 : Nat)) (i + 1 : Nat)) (fun k => ?_) (ih (i + 1) (by omega))
    simp only [laws_heldInt64S.l0]
    rw [if_pos (by rw [marks_len]; omega), if_pos (by omega), if_pos (by unfold rd; rw [Int.toNat_natCast, marks_get _ _ _ (by omega)]), w64' (by omega) (by omega), w64' (by omega) (by omega)]
    congr 1
    omega

theorem ev_heldS (n : Nat) (hl : n ≤ 1000000) : Ev (fun k => laws_heldInt64S.f k (marks 1 n) 1) (1 + (n : Int)) := by
  have := ev_held 1 n (by omega) (by omega) hl n 0 (by omega)
  refine Ev.congr (fun k => ?_) this
  simp [laws_heldInt64S.f]

/-! the two lists -/
def row (j : Nat) (is : List Nat) : List Int := is.map fun (i : Nat) => 5 * (j : Int) + (i : Int)
def implList (i0 i1 j0 j1 : Nat) : List Int := (List.range' j0 (j1 + 1 - j0)).flatMap fun j => row j (List.range' i0 (i1 + 1 - i0))
def inside (i0 i1 j0 j1 k : Nat) : Bool := i0 ≤ k % 5 && k % 5 ≤ i1 && j0 ≤ k / 5 && k / 5 ≤ j1
def specList (i0 i1 j0 j1 : Nat) : List Int := ((List.range' 0 25).filter (inside i0 i1 j0 j1)).map fun (k : Nat) => (k : Int)
theorem same_lists : ∀ i0 i1 j0 j1 : Fin 5, specList i0 i1 j0 j1 = implList i0 i1 j0 j1 := by decide +kernel

structure Ok (x0 x1 x2 x3 : Int) (i0 i1 j0 j1 : Nat) : Prop where
  a : -40 ≤ x0
  b : x0 < x2
  c : x2 ≤ 40
  d : -40 ≤ x1
  e : x1 < x3
  f : x3 ≤ 40
  i0 : (x0 + 40) / 16 = i0
  i1 : (x2 - 1 + 40) / 16 = i1
  j0 : (x1 + 40) / 16 = j0
  j1 : (x3 - 1 + 40) / 16 = j1

section
variable {x0 x1 x2 x3 : Int} {i0 i1 j0 j1 : Nat}

theorem to_div {a : Int} (h : -40 ≤ a) (h2 : a ≤ 40) : wrap64 (Int.tdiv (wrap64 (a + 40)) 16) = (a + 40) / 16 := by
  rw [w64 (x := a + 40) (by omega) (by omega), Int.tdiv_eq_ediv_of_nonneg (by omega)]
  exact w64 (by omega) (by omega)

theorem ev_l1 (o : Ok x0 x1 x2 x3 i0 i1 j0 j1) (j : Nat) (hj : j ≤ 4) {r : List Int} (d : Nat) : ∀ (i : Nat) (acc : List Int), i + d = i1 + 1 → acc.length + d ≤ 1000 →
    Ev (fun k => impl_buckets.l0 k (acc ++ row j (List.range' i d)) ((j + 1 : Nat) : Int) x0 x1 x2 x3) r → Ev (fun k => impl_buckets.l1 k acc j i x0 x1 x2 x3) r := by
  have hi1 : wrap64 (Int.tdiv (wrap64 ((wrap64 (x2 - 1)) + 40)) 16) = i1 := by
    rw [w64 (x := x2 - 1) (by have := o.a; have := o.b; omega) (by have := o.c; omega), to_div (by have := o.a; have := o.b; omega) (by have := o.c; omega), o.i1]
  have hb : (i1 : Int) ≤ 4 := by have := o.i1; have := o.c; omega
  induction d with
  | zero =>
    intro i acc hi hacc h
    refine Ev.step (fun k => ?_) h
    simp only [impl_buckets.l1]
    rw [hi1, if_neg (by omega), w64 (by omega) (by omega)]
    simp [row]
  | succ d ih =>
    intro i acc hi hacc h
    refine Ev.step (fun k => ?_) (ih (i + 1) (acc ++ [(5 * j + i : Int)]) (by omega) (by simp; omega) (by simpa [row, List.range'_succ] using h))
    simp only [impl_buckets.l1]
    rw [hi1, if_pos (by omega), if_pos (by omega), w64 (x := 5 * (j : Int)) (by omega) (by omega), w64 (by omega) (by omega), w64 (by omega) (by omega)]
    rfl

theorem ev_l0 (o : Ok x0 x1 x2 x3 i0 i1 j0 j1) (d : Nat) : ∀ (j : Nat) (acc : List Int), j + d = j1 + 1 → acc.length + 10 * d ≤ 900 →
    Ev (fun k => impl_buckets.l0 k acc j x0 x1 x2 x3) (acc ++ (List.range' j d).flatMap fun j => row j (List.range' i0 (i1 + 1 - i0))) := by
  have hj1 : wrap64 (Int.tdiv (wrap64 ((wrap64 (x3 - 1)) + 40)) 16) = j1 := by
    rw [w64 (x := x3 - 1) (by have := o.d; have := o.e; omega) (by have := o.f; omega), to_div (by have := o.d; have := o.e; omega) (by have := o.f; omega), o.j1]
  have hi0 : wrap64 (Int.tdiv (wrap64 (x0 + 40)) 16) = i0 := by
    rw [to_div (by have := o.a; omega) (by have := o.b; have := o.c; omega), o.i0]
  have hb : (j1 : Int) ≤ 4 := by have := o.j1; have := o.f; omega
  have hc : (i1 : Int) ≤ 4 := by have := o.i1; have := o.c; omega
  have hd : (i0 : Int) ≤ i1 := by have := o.i1; have := o.i0; have := o.b; omega
  induction d with
  | zero =>
    intro j acc hj hacc
    refine Ev.step (f := fun _ => some acc) (fun k => ?_) (by simpa using Ev.now acc)
    simp only [impl_buckets.l0]
    rw [hj1, if_neg (by omega)]
  | succ d ih =>
    intro j acc hj hacc
    refine Ev.step (fun k => ?_) (ev_l1 o j (by omega) (i1 + 1 - i0) i0 acc (by omega) (by omega) (by
      have := ih (j + 1) (acc ++ row j (List.range' i0 (i1 + 1 - i0))) (by omega) (by simp [row]; omega)
      simpa [List.range'_succ] using this))
    simp only [impl_buckets.l0]
    rw [hj1, if_pos (by omega), hi0]

theorem ev_impl (o : Ok x0 x1 x2 x3 i0 i1 j0 j1) : Ev (fun k => impl_BucketsOf.f k x0 x1 x2 x3) (implList i0 i1 j0 j1) := by
  have hb : (j1 : Int) ≤ 4 := by have := o.j1; have := o.f; omega
  have hd : (j0 : Int) ≤ j1 := by have := o.j1; have := o.j0; have := o.e; omega
  have h := ev_l0 o (j1 + 1 - j0) j0 [] (by omega) (by simp; omega)
  have hj0 : wrap64 (Int.tdiv (wrap64 (x1 + 40)) 16) = j0 := by
    rw [to_div (by have := o.d; omega) (by have := o.e; have := o.f; omega), o.j0]
  have hv : impl_IsValidRect.f x0 x1 x2 x3 = some true := by
    unfold impl_IsValidRect.f
    rw [if_pos o.a, if_pos o.b, if_pos o.c, if_pos o.d, if_pos o.e, decide_eq_true o.f]
  refine Ev.congr (fun k => ?_) h
  simp only [impl_BucketsOf.f, hv, Option.bind_some, if_true, impl_buckets.f, hj0]
  simp

theorem overlap_core (o : Ok x0 x1 x2 x3 i0 i1 j0 j1) (r q : Nat) (hr : r < 5) (hq : q < 5) {b0 b1 b2 b3 : Int} (h0 : b0 = -40 + 16 * r) (h1 : b1 = -40 + 16 * q) (h2 : b2 = b0 + 16) (h3 : b3 = b1 + 16) :
    spec_l11Overlap.f x0 x1 x2 x3 b0 b1 b2 b3 = some (decide (i0 ≤ r) && decide (r ≤ i1) && decide (j0 ≤ q) && decide (q ≤ j1)) := by
  obtain ⟨a, b, c, d, e, f, hi0, hi1, hj0, hj1⟩ := o
  unfold spec_l11Overlap.f
  have k1 : x0 < b2 ↔ i0 ≤ r := by omega
  have k2 : b0 < x2 ↔ r ≤ i1 := by omega
  have k3 : x1 < b3 ↔ j0 ≤ q := by omega
  have k4 : b1 < x3 ↔ q ≤ j1 := by omega
  simp only [k1, k2, k3, k4]
  by_cases h1 : i0 ≤ r <;> by_cases h2 : r ≤ i1 <;> by_cases h3 : j0 ≤ q <;> by_cases h4 : q ≤ j1 <;> simp [h1, h2, h3, h4]
end

theorem bucket_is (n : Nat) (hn : n < 25) : ∃ b0 b1 b2 b3 : Int, spec_l11Bucket.f n = some (b0, b1, b2, b3) ∧ b0 = -40 + 16 * (n % 5 : Nat) ∧ b1 = -40 + 16 * (n / 5 : Nat) ∧ b2 = b0 + 16 ∧ b3 = b1 + 16 := by
  have ht : Int.tmod (n : Int) 5 = (n % 5 : Nat) := by rw [Int.tmod_eq_emod_of_nonneg (by omega)]; omega
  have hq : Int.tdiv (n : Int) 5 = (n / 5 : Nat) := by rw [Int.tdiv_eq_ediv_of_nonneg (by omega)]; omega
  refine ⟨_, _, _, _, rfl, ?_⟩
  rw [ht, hq]
  have hr1 : n % 5 < 5 := Nat.mod_lt _ (by omega)
  have hq1 : n / 5 < 5 := by omega
  generalize n % 5 = r at *
  generalize n / 5 = q at *
  have e1 : wrap64 (-40 + wrap64 (16 * (r : Int))) = -40 + 16 * r := by rw [w64 (x := 16 * (r : Int)) (by omega) (by omega), w64 (by omega) (by omega)]
  have e2 : wrap64 (-40 + wrap64 (16 * wrap64 (q : Int))) = -40 + 16 * q := by rw [w64 (x := (q : Int)) (by omega) (by omega), w64 (x := 16 * (q : Int)) (by omega) (by omega), w64 (by omega) (by omega)]
  rw [e1, e2]
  exact ⟨rfl, rfl, w64 (by omega) (by omega), w64 (by omega) (by omega)⟩

section
variable {x0 x1 x2 x3 : Int} {i0 i1 j0 j1 : Nat}
theorem overlap_is (o : Ok x0 x1 x2 x3 i0 i1 j0 j1) (n : Nat) (hn : n < 25) :
    (spec_l11Bucket.f n).bind (fun bt110 => spec_l11Overlap.f x0 x1 x2 x3 bt110.1 bt110.2.1 bt110.2.2.1 bt110.2.2.2) = some (inside i0 i1 j0 j1 n) := by
  obtain ⟨b0, b1, b2, b3, h, h0, h1, h2, h3⟩ := bucket_is n hn
  rw [h]
  exact overlap_core o (n % 5) (n / 5) (Nat.mod_lt _ (by omega)) (by omega) h0 h1 h2 h3

theorem ev_s0 (o : Ok x0 x1 x2 x3 i0 i1 j0 j1) (d : Nat) : ∀ (n : Nat) (acc : List Int), n + d = 25 → acc.length + d ≤ 900 →
    Ev (fun k => spec_BucketsOf.l0 k acc n x0 x1 x2 x3) (acc ++ ((List.range' n d).filter (inside i0 i1 j0 j1)).map fun (k : Nat) => (k : Int)) := by
  have hv : spec_l09Rect.f x0 x1 x2 x3 = some true := by
    unfold spec_l09Rect.f
    rw [if_pos o.a, if_pos o.b, if_pos o.c, if_pos o.d, if_pos o.e, decide_eq_true o.f]
  induction d with
  | zero =>
    intro n acc hn hacc
    refine Ev.step (f := fun k => spec_BucketsOf.j1 k acc n false x0 x1 x2 x3) (fun k => ?_) (Ev.step (f := fun _ => some acc) (fun k => ?_) (by simpa using Ev.now acc))
    · simp only [spec_BucketsOf.l0]
      rw [if_neg (by omega)]
    · simp [spec_BucketsOf.j1]
  | succ d ih =>
    intro n acc hn hacc
    have ho := overlap_is o n (by omega)
    refine Ev.step (f := fun k => spec_BucketsOf.j1 k acc n true x0 x1 x2 x3) (fun k => ?_) ?_
    · simp only [spec_BucketsOf.l0]
      rw [if_pos (by omega), hv]
      rfl
    · by_cases h : inside i0 i1 j0 j1 n = true
      · refine Ev.step (fun k => ?_) (ih (n + 1) (acc ++ [(n : Int)]) (by omega) (by simp; omega) |> fun x => by simpa [List.range'_succ, List.filter_cons, h] using x)
        simp only [spec_BucketsOf.j1, if_true]
        rw [h] at ho
        obtain ⟨b, hb, hb2⟩ := Option.bind_eq_some_iff.1 ho
        rw [hb]
        simp only [Option.bind_some, hb2, if_true]
        rw [if_pos (by omega), w64 (by omega) (by omega)]
      · have h' := Bool.eq_false_iff.2 h
        refine Ev.step (fun k => ?_) (ih (n + 1) acc (by omega) (by omega) |> fun x => by simpa [List.range'_succ, List.filter_cons, h'] using x)
        simp only [spec_BucketsOf.j1, if_true]
        rw [h'] at ho
        obtain ⟨b, hb, hb2⟩ := Option.bind_eq_some_iff.1 ho
        rw [hb]
        simp only [Option.bind_some, hb2]
        rw [if_neg (by simp), w64 (by omega) (by omega)]

theorem ev_spec (o : Ok x0 x1 x2 x3 i0 i1 j0 j1) : Ev (fun k => spec_BucketsOf.f k x0 x1 x2 x3) (specList i0 i1 j0 j1) := by
  have h := ev_s0 o 25 0 [] (by omega) (by simp)
  refine Ev.congr (fun k => ?_) h
  simp [spec_BucketsOf.f]
end

theorem rect_cases (x0 x1 x2 x3 : Int) : (∃ i0 i1 j0 j1, Ok x0 x1 x2 x3 i0 i1 j0 j1) ∨ (spec_l09Rect.f x0 x1 x2 x3 = some false ∧ impl_IsValidRect.f x0 x1 x2 x3 = some false) := by
  by_cases a : (-40) ≤ x0
  · by_cases b : x0 < x2
    · by_cases c : x2 ≤ 40
      · by_cases d : (-40) ≤ x1
        · by_cases e : x1 < x3
          · by_cases f : x3 ≤ 40
            · exact .inl ⟨((x0 + 40) / 16).toNat, ((x2 - 1 + 40) / 16).toNat, ((x1 + 40) / 16).toNat, ((x3 - 1 + 40) / 16).toNat, a, b, c, d, e, f, by omega, by omega, by omega, by omega⟩
            all_goals exact .inr (by simp [spec_l09Rect.f, impl_IsValidRect.f, *])
          all_goals exact .inr (by simp [spec_l09Rect.f, impl_IsValidRect.f, *])
        all_goals exact .inr (by simp [spec_l09Rect.f, impl_IsValidRect.f, *])
      all_goals exact .inr (by simp [spec_l09Rect.f, impl_IsValidRect.f, *])
    all_goals exact .inr (by simp [spec_l09Rect.f, impl_IsValidRect.f, *])
  all_goals exact .inr (by simp [spec_l09Rect.f, impl_IsValidRect.f, *])

theorem same (x0 x1 x2 x3 : Int) : ∃ B : List Int, B.length ≤ 1000 ∧ Ev (fun k => spec_BucketsOf.f k x0 x1 x2 x3) B ∧ Ev (fun k => impl_BucketsOf.f k x0 x1 x2 x3) B := by
  rcases rect_cases x0 x1 x2 x3 with ⟨i0, i1, j0, j1, o⟩ | ⟨hs, hi⟩
  · refine ⟨specList i0 i1 j0 j1, ?_, ev_spec o, ?_⟩
    · have := List.length_filter_le (inside i0 i1 j0 j1) (List.range' 0 25)
      simp only [List.length_range'] at this
      simp only [specList, List.length_map]
      omega
    · have e := same_lists ⟨i0, by have := o.i0; have := o.b; have := o.c; omega⟩ ⟨i1, by have := o.i1; have := o.c; omega⟩ ⟨j0, by have := o.j0; have := o.e; have := o.f; omega⟩ ⟨j1, by have := o.j1; have := o.f; omega⟩
      simp only at e
      rw [e]
      exact ev_impl o
  · refine ⟨[], by simp, ?_, ?_⟩
    · refine Ev.congr (f := fun k => spec_BucketsOf.l0 k [] (0 : Nat) x0 x1 x2 x3) (fun k => by simp [spec_BucketsOf.f]) ?_
      refine Ev.step (f := fun k => spec_BucketsOf.j1 k [] (0 : Nat) false x0 x1 x2 x3) (fun k => ?_) (Ev.step (f := fun _ => some []) (fun k => ?_) (Ev.now _))
      · simp [spec_BucketsOf.l0, hs]
      · simp [spec_BucketsOf.j1]
    · refine Ev.congr (f := fun _ => some []) (fun k => ?_) (Ev.now _)
      simp [impl_BucketsOf.f, hi]

theorem pure : Stm := by
  rintro ⟨x0, x1, x2, x3⟩ _
  obtain ⟨B, hB, hs, hi⟩ := same x0 x1 x2 x3
  apply Ev.rounds
  unfold laws_FnExactBucketsOf.f
  refine Ev.bind (Ev.now (x0, x1, x2, x3)) (Ev.bind hs (Ev.bind (Ev.now (x0, x1, x2, x3)) (Ev.bind hi (Ev.bind (ev_eqS B (by omega)) ?_))))
  simp only [if_true]
  refine Ev.bind (ev_markS B (by omega)) (Ev.bind (ev_heldS B.length (by omega)) ?_)
  have hn : ¬ ((1 : Int) + B.length < 0) := by omega
  simp only [if_neg hn, if_true]
  refine Ev.bind (Ev.now (x0, x1, x2, x3)) (Ev.bind hi (Ev.bind (ev_eqS B (by omega)) ?_))
  simp only [if_true]
  refine Ev.bind (ev_heldS B.length (by omega)) ?_
  simp only [if_neg hn, if_true]
  exact Ev.now true
end Go.Proofs.Ytjpfhnpdbjefkaa.fnExactBucketsOf
