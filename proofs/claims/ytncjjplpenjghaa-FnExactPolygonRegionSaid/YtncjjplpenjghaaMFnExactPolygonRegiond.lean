/- For every input FnExactPolygonRegion returns true and leaves its arguments as they were. Conditions: none. -/
import Derived.Test.YtncjjplpenjghaaWWords
import Derived.Deep.Slices
import Derived.ChangeArms
import Derived.SizedLaws
import Derived.ChangeSlices
import Derived.WideShapes
import Derived.Test.YtncjjplpenjghaaMFnExactPolygonRegionc
import Derived.KernelRfl
import Derived.Test.YtncjjplpenjghaaMFnExactPolygonRegiona
import Derived.Test.YtncjjplpenjghaaMFnExactPolygonRegionb
import Derived.Test.YtncjjplpenjghaaRows
import Derived.WalkKit
import Derived.ProofKit
import Derived.OpenShut
import Derived.ShutString
import Derived.ChangeOld
import Derived.Below
import Derived.Carry
/-! ### Opens -/
/- Reading an argument: what a value reads as, kind by kind (integers, bools, strings, slices, structs). Lemmas only. -/
set_option linter.unusedSimpArgs false
namespace Go.Proofs.Ytncjjplpenjghaa
open Go.RowKit Go.Proofs.YtncjjplpenjghaaW.PrintWords Go.Deep Go.WideShapes

/-- A value of type t that can be read is of kind d, and what it says meets I. -/
def Opens {α : Type} (P : Program) (t : TypeId) (d : Kd α) (I : α → Prop) : Prop :=
  ∀ (H : Type) (enc : TypeId × Value → H) (w : World) (spare : Nat → Bool) (held : Bool) (fuel : Nat) (cs : List Value) (x : DataW H × List MemPlace),
    DataW.trod enc P w 0 spare held fuel t cs = some x → ∃ y, d.K w y cs ∧ I y

theorem Opens.int {P : Program} {t : TypeId} {k : IntKind} (ht : P.underlying t = some (.int k)) : Opens P t (Kd.int k) (fun n => (Lit.int k n).wf = true) := by
  intro H enc w spare held fuel cs x h
  obtain ⟨n, rfl, _, hw⟩ := DataW.trod_int ht h
  exact ⟨n, rfl, hw⟩

theorem Opens.bool {P : Program} {t : TypeId} (ht : P.underlying t = some .bool) : Opens P t Kd.bool (fun _ => True) := by
  intro H enc w spare held fuel cs x h
  obtain ⟨n, rfl, _⟩ := DataW.trod_bool ht h
  exact ⟨n, rfl, trivial⟩

theorem Opens.string {P : Program} {t : TypeId} (ht : P.underlying t = some .string) : Opens P t Kd.string (fun s => s.size ≤ maxLen) := by
  intro H enc w spare held fuel cs x h
  obtain ⟨n, rfl, _, hw⟩ := DataW.trod_string ht h
  exact ⟨n, rfl, hw⟩

theorem Opens.imp {α : Type} {P : Program} {t : TypeId} {d : Kd α} {I J : α → Prop} (h : Opens P t d I) (hj : ∀ y, I y → J y) : Opens P t d J := by
  intro H enc w spare held fuel cs x hx
  obtain ⟨y, h1, h2⟩ := h H enc w spare held fuel cs x hx
  exact ⟨y, h1, hj y h2⟩

theorem exists_list {α : Type} {p : Nat → α → Prop} (n : Nat) (h : ∀ i, i < n → ∃ y, p i y) : ∃ l : List α, l.length = n ∧ ∀ i y, l[i]? = some y → p i y := by
  induction n with
  | zero => exact ⟨[], rfl, fun i y h => by simp at h⟩
  | succ n ih =>
    obtain ⟨l, hl, hp⟩ := ih (fun i hi => h i (by omega))
    obtain ⟨y, hy⟩ := h n (by omega)
    refine ⟨l ++ [y], by simp [hl], fun i z hz => ?_⟩
    rcases Nat.lt_or_ge i n with hi | hi
    · rw [List.getElem?_append_left (by omega)] at hz
      exact hp i z hz
    · have : i = n := by
        have := (List.getElem?_eq_some_iff.1 hz).1
        simp [hl] at this
        omega
      subst this
      rw [List.getElem?_append_right (by omega), hl] at hz
      simp at hz
      exact hz ▸ hy

theorem Opens.slice {α : Type} {P : Program} {t e : TypeId} {d : Kd α} {I : α → Prop} (ht : P.underlying t = some (.slice e)) (hc : P.cellsOf e = d.sz) (hd : Opens P e d I) :
    Opens P t (Kd.slice e d) (fun l => l.length ≤ maxLen ∧ ∀ y ∈ l, I y) := by
  intro H enc w spare held fuel cs x h
  rcases open_slice ht h with ⟨rfl, _⟩ | ⟨a, len, cap, m, n, D, Pl, rfl, hb, hl, hm, hmm, hx, hi⟩
  · exact ⟨[], ⟨none, 0, rfl, Nat.le_refl _, rfl, Nat.zero_le _, fun h => absurd h (Nat.lt_irrefl 0)⟩, by simp [maxLen], by simp⟩
  · have hlm : len ≤ m := by rw [hmm]; split <;> omega
    obtain ⟨l, hll, hp⟩ := exists_list (p := fun i y => ∃ cs', w.cells? 0 (a.add (i * P.cellsOf e)) (P.cellsOf e) = some cs' ∧ d.K w y cs' ∧ I y) len (fun i hil => by
      obtain ⟨cs', h1, h2⟩ := hi i (by omega)
      obtain ⟨y, h3, h4⟩ := hd H enc w spare held n cs' _ h2
      exact ⟨y, cs', h1, h3, h4⟩)
    refine ⟨l, ⟨some a, cap, by rw [hll], by omega, rfl, by unfold maxLen at hm; omega, fun _ => ⟨a, rfl, fun j p hj => ?_⟩⟩, by omega, fun y hy => ?_⟩
    · obtain ⟨cs', h1, h2, _⟩ := hp j p hj
      obtain ⟨_, hcl, hat⟩ := World.cells?_some h1
      refine ⟨cs', d.K_len h2, h2, fun i u hu => ?_⟩
      have hil : i < P.cellsOf e := by
        have := (List.getElem?_eq_some_iff.1 hu).1
        omega
      have h3 := hat i hil
      rw [hu, ← hc] at *
      rw [← Go.Deep.add_add]
      exact h3
    · obtain ⟨i, hi2, rfl⟩ := List.getElem_of_mem hy
      obtain ⟨_, _, _, h4⟩ := hp i _ (List.getElem?_eq_getElem hi2)
      exact h4

/-- The fields fs of a struct, whose cells begin at off. -/
def OpensF {α : Type} (P : Program) (fs : List Field) (off : Nat) (d : Kd α) (I : α → Prop) : Prop :=
  ∀ (H : Type) (enc : TypeId × Value → H) (w : World) (spare : Nat → Bool) (held : Bool) (n : Nat) (cs : List Value) (xs : List (DataW H × List MemPlace)), xs.length = fs.length →
    (∀ (i : Nat) (f : Field), fs[i]? = some f → DataW.trod enc P w 0 spare held n f.type ((cs.drop f.offset).take (P.cellsOf f.type)) = xs[i]?) →
    ∃ y, d.K w y ((cs.drop off).take d.sz) ∧ I y

theorem OpensF.one {α : Type} {P : Program} {f : Field} {off : Nat} {d : Kd α} {I : α → Prop} (ho : f.offset = off) (hc : P.cellsOf f.type = d.sz) (h : Opens P f.type d I) : OpensF P [f] off d I := by
  intro H enc w spare held n cs xs hl hf
  obtain ⟨x, rfl⟩ : ∃ x, xs = [x] := by
    match xs, hl with
    | [x], _ => exact ⟨x, rfl⟩
  have h1 := hf 0 f rfl
  rw [ho, hc] at h1
  exact h H enc w spare held n _ x h1

theorem OpensF.cons {α β : Type} {P : Program} {f : Field} {fs : List Field} {off : Nat} {a : Kd α} {b : Kd β} {I : α → Prop} {J : β → Prop} (ho : f.offset = off) (hc : P.cellsOf f.type = a.sz)
    (h : Opens P f.type a I) (hr : OpensF P fs (off + a.sz) b J) : OpensF P (f :: fs) off (Kd.pair a b) (fun y => I y.1 ∧ J y.2) := by
  intro H enc w spare held n cs xs hl hf
  obtain ⟨x, xs', rfl⟩ : ∃ x xs', xs = x :: xs' := by
    match xs, hl with
    | x :: xs', _ => exact ⟨x, xs', rfl⟩
  have h1 := hf 0 f rfl
  rw [ho, hc] at h1
  obtain ⟨y1, k1, i1⟩ := h H enc w spare held n _ x h1
  obtain ⟨y2, k2, i2⟩ := hr H enc w spare held n cs xs' (by simpa using hl) (fun i g hg => by simpa using hf (i + 1) g (by simpa using hg))
  refine ⟨(y1, y2), ⟨_, _, ?_, k1, k2⟩, i1, i2⟩
  show List.take (a.sz + b.sz) (List.drop off cs) = _
  rw [List.take_add, List.drop_drop]

theorem Opens.struct {α : Type} {P : Program} {t : TypeId} {fs : Array Field} {d : Kd α} {I : α → Prop} (ht : P.underlying t = some (.struct fs)) (hc : P.cellsOf t = d.sz) (h : OpensF P fs.toList 0 d I) : Opens P t d I := by
  intro H enc w spare held fuel cs x hx
  obtain ⟨xs, n, _, _, hlen, hl, hf⟩ := DataW.trod_struct ht hx
  obtain ⟨y, h1, h2⟩ := h H enc w spare held n cs xs (by simpa using hl) (fun i f hfi => hf i f (by simpa using hfi))
  refine ⟨y, ?_, h2⟩
  rw [List.drop_zero, ← hc, ← hlen, List.take_length] at h1
  exact h1

theorem Opens.iso {α β : Type} {P : Program} {t : TypeId} {d : Kd α} {I : α → Prop} {f : β → α} (g : α → β) (hg : ∀ x, f (g x) = x) (h : Opens P t d I) : Opens P t (Kd.iso d f) (fun y => I (f y)) := by
  intro H enc w spare held fuel cs x hx
  obtain ⟨y, h1, h2⟩ := h H enc w spare held fuel cs x hx
  exact ⟨g y, by show d.K w (f (g y)) cs; rw [hg]; exact h1, by show I (f (g y)); rw [hg]; exact h2⟩

/-- The argument itself. -/
theorem Opens.arg {α : Type} {P : Program} {t : TypeId} {d : Kd α} {I : α → Prop} (h : Opens P t d I) {H : Type} {enc : TypeId × Value → H} {w : World} {spare : Nat → Bool} {held : Bool} {v : Value} {x : DataW H} {p : List MemPlace}
    (hx : DataW.Trod enc P w 0 spare held t v x p) : ∃ y, d.K w y v.cells.toList ∧ I y := by
  obtain ⟨fuel, hf⟩ := hx
  exact h H enc w spare held fuel _ _ hf

end Go.Proofs.Ytncjjplpenjghaa

/-! ### StmFnExactPolygonRegion -/
/- The pure statement of FnExactPolygonRegion, and how its arguments are read. -/
namespace Go.Proofs.Ytncjjplpenjghaa.fnExactPolygonRegion
open Go.RowKit Go.Proofs.Ytncjjplpenjghaa Go.Proofs.Ytncjjplpenjghaa.P Go.Proofs.YtncjjplpenjghaaW.PrintWords Go.Proofs.YtncjjplpenjghaaW.PrintLast
def I2 (y : Int) : Prop := (Lit.int .i64 y).wf = true
def I69 (y : S69) : Prop := I2 y.f0 ∧ I2 y.f1
def I29 (y : (List S69)) : Prop := y.length ≤ maxLen ∧ ∀ z ∈ y, I69 z
theorem opens2 : Opens Try.prog 2 (Kd.int .i64) I2 := Opens.int Try.underlying2
theorem opens69 : Opens Try.prog 69 k69 I69 := (Opens.iso (fun p => (⟨p.1, p.2⟩ : S69)) (fun _ => rfl) (Opens.struct Try.underlying69 (by kernel_rfl) (OpensF.cons rfl (by kernel_rfl) opens2 (OpensF.one rfl (by kernel_rfl) opens2)))).imp (fun _ h => h)
theorem opens29 : Opens Try.prog 29 (Kd.slice 69 k69) I29 := Opens.slice Try.underlying29 (by kernel_rfl) opens69
def Stm : Prop := ∀ (l0 : (List S69)), I29 l0 →  ∃ k, laws_FnExactPolygonRegion.f k l0 = some true
end Go.Proofs.Ytncjjplpenjghaa.fnExactPolygonRegion

/-! ### Gen -/
/- Loops of the printed functions, once for all types: elementwise tests, copies, sizes, marks. -/
set_option linter.unusedVariables false
namespace Go.Proofs.Ytncjjplpenjghaa.H
open Go.RowKit Go.Proofs.YtncjjplpenjghaaW.PrintWords
theorem Ev.const {α : Type} {c : Option α} {a : α} (h : c = some a) : Ev (fun _ => c) a := ⟨0, fun _ _ => h⟩
theorem wrap_up (i : Nat) (h : i ≤ 1000000000000) : wrap64 ((i : Int) + 1) = ((i + 1 : Nat) : Int) := by
  unfold wrap64
  omega
section
variable {α β τ : Type} (rdf : List α → Int → α) (hrd : ∀ (l : List α) (i : Nat) (h : i < l.length), rdf l (i : Int) = l[i])
include hrd
/-- Two lists compared element by element. -/
theorem gen_eq2 (E : Nat → α → α → Option Bool) (p : α → α → Bool) (L : Nat → List α → List α → Int → Option Bool)
    (hL : ∀ k x y i, L (k + 1) x y i = if i < (x.length : Int) then (if 0 ≤ i then (if i < (y.length : Int) then ((E k (rdf x i) (rdf y i)).bind fun t => (if t = true then (L k x y (wrap64 (i + 1))) else (some false))) else none) else none) else (some true))
    (x y : List α) (hl : x.length ≤ 1000000000000) (hxy : x.length = y.length) (hE : ∀ (i : Nat) (h : i < x.length) (h' : i < y.length), Ev (fun k => E k x[i] y[i]) (p x[i] y[i])) :
    ∀ (d i : Nat), i + d = x.length → Ev (fun k => L k x y i) (((x.drop i).zip (y.drop i)).all fun q => p q.1 q.2)
  | 0, i, h => by
    refine Ev.step (f := fun _ => some true) (fun k => ?_) ?_
    · rw [hL, if_neg (by omega)]
    · rw [List.drop_eq_nil_of_le (by omega)]
      exact Ev.now true
  | d + 1, i, h => by
    have h1 : i < x.length := by omega
    have h2 : i < y.length := by omega
    rw [List.drop_eq_getElem_cons h1, List.drop_eq_getElem_cons h2]
    refine Ev.step (f := fun k => ((E k x[i] y[i]).bind fun t => (if t = true then (L k x y (((i + 1 : Nat) : Int))) else (some false)))) (fun k => ?_) ?_
    · rw [hL, if_pos (by omega), if_pos (by omega), if_pos (by omega), hrd x i h1, hrd y i h2, wrap_up i (by omega)]
    · refine Ev.bind (hE i h1 h2) ?_
      simp only [List.zip_cons_cons, List.all_cons]
      cases hp : p x[i] y[i]
      · exact Ev.now false
      · simpa using gen_eq2 E p L hL x y hl hxy hE d (i + 1) (by omega)
/-- A list is equal to itself. -/
theorem gen_eq (E : Nat → α → α → Option Bool) (L : Nat → List α → List α → Int → Option Bool)
    (hL : ∀ k x y i, L (k + 1) x y i = if i < (x.length : Int) then (if 0 ≤ i then (if i < (y.length : Int) then ((E k (rdf x i) (rdf y i)).bind fun t => (if t = true then (L k x y (wrap64 (i + 1))) else (some false))) else none) else none) else (some true))
    (x : List α) (hl : x.length ≤ 1000000000000) (hE : ∀ a ∈ x, Ev (fun k => E k a a) true) : Ev (fun k => L k x x 0) true := by
  have h := gen_eq2 rdf hrd E (fun _ _ => true) L hL x x hl rfl (fun i h _ => hE _ (List.getElem_mem h)) x.length 0 (by omega)
  have e : (((x.drop 0).zip (x.drop 0)).all fun q => (fun _ _ => true : α → α → Bool) q.1 q.2) = true := by simp
  rw [e] at h
  exact h
omit hrd in
theorem set_rep (x : List β) (z : β) (i n : Nat) (v : β) (hi : x.length = i) : (x ++ List.replicate (n + 1) z).set i v = (x ++ [v]) ++ List.replicate n z := by
  subst hi
  rw [List.set_append_right _ _ (Nat.le_refl _), Nat.sub_self, List.replicate_succ, List.set_cons_zero]
  simp
/-- A list copied into a new one, element by element. -/
theorem gen_to (T : Nat → α → Option τ) (t : α → τ) (c : τ → β) (L : Nat → List α → List β → Int → Option (List β))
    (hL : ∀ k x y i, L (k + 1) x y i = if i < (x.length : Int) then (if 0 ≤ i then ((T k (rdf x i)).bind fun b => (if i < (y.length : Int) then (L k x (y.set i.toNat (c b)) (wrap64 (i + 1))) else none)) else none) else (some y))
    (x : List α) (z : β) (hl : x.length ≤ 1000000000000) (hT : ∀ a ∈ x, Ev (fun k => T k a) (t a)) :
    ∀ (d i : Nat), i + d = x.length → Ev (fun k => L k x ((x.take i).map (fun a => c (t a)) ++ List.replicate d z) i) (x.map fun a => c (t a))
  | 0, i, h => by
    have hi : i = x.length := by omega
    subst hi
    refine Ev.step (f := fun _ => some (x.map fun a => c (t a))) (fun k => ?_) (Ev.now _)
    rw [hL, if_neg (by omega), List.take_length]
    simp
  | d + 1, i, h => by
    have h1 : i < x.length := by omega
    refine Ev.step (f := fun k => ((T k x[i]).bind fun b => (L k x (((x.take i).map (fun a => c (t a)) ++ List.replicate (d + 1) z).set i (c b)) (((i + 1 : Nat) : Int))))) (fun k => ?_) ?_
    · rw [hL, if_pos (by omega), if_pos (by omega), hrd x i h1, wrap_up i (by omega), Int.toNat_natCast]
      congr 1
      funext b
      rw [if_pos (by simp; omega)]
    · refine Ev.bind (hT _ (List.getElem_mem h1)) ?_
      have := gen_to T t c L hL x z hl hT d (i + 1) (by omega)
      rw [set_rep _ _ _ _ _ (by rw [List.length_map, List.length_take]; omega)]
      rw [List.take_succ_eq_append_getElem h1, List.map_append] at this
      exact this
/-- The same for numbers (no call). -/
theorem gen_to1 (c : α → β) (L : Nat → List α → List β → Int → Option (List β))
    (hL : ∀ k x y i, L (k + 1) x y i = if i < (x.length : Int) then (if 0 ≤ i then (if i < (y.length : Int) then (L k x (y.set i.toNat (c (rdf x i))) (wrap64 (i + 1))) else none) else none) else (some y))
    (x : List α) (z : β) (hl : x.length ≤ 1000000000000) : Ev (fun k => L k x (List.replicate x.length z) 0) (x.map c) := by
  have h := gen_to rdf hrd (fun _ a => some a) id c L (fun k x y i => by rw [hL]; rfl) x z hl (fun a _ => Ev.now a) x.length 0 (by omega)
  exact h
end
/-- A slice's size taken off what is left. -/
theorem size_off (n : Nat) (a : Int) (ha : 0 ≤ a) (ha2 : a ≤ 1048576) (hn : n ≤ 9223372036854775807) : (wrap64 (a - (n : Int)) < 0 ∨ (wrap64 (a - (n : Int)) = a - n ∧ (n : Int) ≤ a)) := by
  unfold wrap64
  omega
end Go.Proofs.Ytncjjplpenjghaa.H

/-! ### GenMark -/
/- The marks a law lays into a list and finds again, once for all types. -/
set_option linter.unusedVariables false
namespace Go.Proofs.Ytncjjplpenjghaa.H
open Go.RowKit Go.Proofs.YtncjjplpenjghaaW.PrintWords
/-- n marks from s on, c numbers each. -/
def marks {α : Type} (c : Int) (m : Int → α) (s : Int) (n : Nat) : List α := (List.range n).map fun (i : Nat) => m (s + c * (i : Int))
theorem marks_len {α : Type} (c : Int) (m : Int → α) (s : Int) (n : Nat) : (marks c m s n).length = n := by simp [marks]
theorem marks_get {α : Type} (c : Int) (m : Int → α) (s : Int) (n i : Nat) (h : i < (marks c m s n).length) : (marks c m s n)[i] = m (s + c * (i : Int)) := by simp [marks]
section
variable {α : Type} (c : Int) (m : Int → α)
theorem gen_mark (M : Nat → List α → Int → Int → Option (Int × List α)) (s : Int) (hs : 0 ≤ s) (hs2 : s ≤ 40000000) (hc : 0 ≤ c) (hc2 : c ≤ 16)
    (h0 : ∀ k x a (i : Int), ¬ i < (x.length : Int) → M (k + 1) x a i = some (a, x))
    (h1 : ∀ k x a (i : Nat), i < x.length → 0 ≤ a → a ≤ 100000000 → M (k + 1) x a i = M k (x.set i (m a)) (a + c) (wrap64 ((i : Int) + 1)))
    (l : List α) (hl : l.length ≤ 1048576) : ∀ (d i : Nat), i + d = l.length → Ev (fun k => M k ((marks c m s l.length).take i ++ l.drop i) (s + c * (i : Int)) i) (s + c * (l.length : Int), marks c m s l.length)
  | 0, i, h => by
    have hi : i = l.length := by omega
    refine Ev.step (f := fun _ => some (s + c * (l.length : Int), marks c m s l.length)) (fun k => ?_) (Ev.now _)
    rw [h0 _ _ _ _ (by simp [marks_len]; omega), List.take_of_length_le (by rw [marks_len]; omega), List.drop_eq_nil_of_le (by omega), List.append_nil, hi]
  | d + 1, i, h => by
    have hi : i < l.length := by omega
    have hlen : ((marks c m s l.length).take i ++ l.drop i).length = l.length := by simp [marks_len]; omega
    have ht : ((marks c m s l.length).take i).length = i := by simp [marks_len]; omega
    have hci : 0 ≤ c * (i : Int) := Int.mul_nonneg hc (by omega)
    have hcj : c * (i : Int) ≤ 16 * (i : Int) := Int.mul_le_mul_of_nonneg_right hc2 (by omega)
    refine Ev.step (fun k => ?_) (gen_mark M s hs hs2 hc hc2 h0 h1 l hl d (i + 1) (by omega))
    rw [h1 _ _ _ i (by omega) (by omega) (by omega)]
    have e : ((marks c m s l.length).take i ++ l.drop i).set i (m (s + c * (i : Int))) = (marks c m s l.length).take (i + 1) ++ l.drop (i + 1) := by
      rw [List.set_append_right _ _ (by omega), ht, Nat.sub_self, List.drop_eq_getElem_cons hi, List.set_cons_zero, List.take_succ_eq_append_getElem (by rw [marks_len]; omega), marks_get, List.append_assoc]
      rfl
    have e2 : s + c * (i : Int) + c = s + c * ((i + 1 : Nat) : Int) := by
      rw [show ((i + 1 : Nat) : Int) = (i : Int) + 1 from by omega, Int.mul_add, Int.mul_one]; omega
    rw [e, e2, wrap_up i (by omega)]
theorem gen_held (L : Nat → List α → Int → Int → Option Int) (s : Int) (hs : 0 ≤ s) (hs2 : s ≤ 40000000) (hc : 0 ≤ c) (hc2 : c ≤ 16)
    (h0 : ∀ k x a (i : Int), ¬ i < (x.length : Int) → L (k + 1) x a i = some a)
    (h1 : ∀ k (x : List α) a (i : Nat) (h : i < x.length), x[i] = m a → 0 ≤ a → a ≤ 100000000 → L (k + 1) x a i = L k x (a + c) (wrap64 ((i : Int) + 1)))
    (n : Nat) (hl : n ≤ 1048576) : ∀ (d i : Nat), i + d = n → Ev (fun k => L k (marks c m s n) (s + c * (i : Int)) i) (s + c * (n : Int))
  | 0, i, h => by
    have hi : i = n := by omega
    refine Ev.step (f := fun _ => some (s + c * (n : Int))) (fun k => ?_) (Ev.now _)
    rw [h0 _ _ _ _ (by rw [marks_len]; omega), hi]
  | d + 1, i, h => by
    have hci : 0 ≤ c * (i : Int) := Int.mul_nonneg hc (by omega)
    have hcj : c * (i : Int) ≤ 16 * (i : Int) := Int.mul_le_mul_of_nonneg_right hc2 (by omega)
    refine Ev.step (fun k => ?_) (gen_held L s hs hs2 hc hc2 h0 h1 n hl d (i + 1) (by omega))
    rw [h1 _ _ _ i (by rw [marks_len]; omega) (by rw [marks_get]) (by omega) (by omega)]
    have e2 : s + c * (i : Int) + c = s + c * ((i + 1 : Nat) : Int) := by
      rw [show ((i + 1 : Nat) : Int) = (i : Int) + 1 from by omega, Int.mul_add, Int.mul_one]; omega
    rw [e2, wrap_up i (by omega)]
end
end Go.Proofs.Ytncjjplpenjghaa.H

/-! ### SpecCanon -/
/- The reference's flags, runs and canonical rectangles, the plain side. -/
set_option linter.unusedVariables false
set_option linter.unusedSimpArgs false
namespace Go.Proofs.Ytncjjplpenjghaa.G
open Go.RowKit Go.Proofs.Ytncjjplpenjghaa.P Go.Proofs.Ytncjjplpenjghaa.H Go.Proofs.YtncjjplpenjghaaW.PrintWords Go.Proofs.YtncjjplpenjghaaW.PrintLast
/-- A set as the reference's list of flags. -/
def bl (g : Nat → Bool) : List Bool := (List.range 6400).map g
theorem bl_len (g : Nat → Bool) : (bl g).length = 6400 := by simp [bl]
theorem bl_rd (g : Nat → Bool) (i : Nat) (h : i < 6400) : rdOf false (bl g) (i : Int) = g i := by
  unfold rdOf
  rw [Int.toNat_natCast]
  simp [bl, List.getD_eq_getElem?_getD, h]
theorem bl_congr {g g' : Nat → Bool} (h : ∀ i, i < 6400 → g i = g' i) : bl g = bl g' := List.map_congr_left (fun i hi => h i (List.mem_range.1 hi))
theorem bl_set (g : Nat → Bool) (i : Nat) (v : Bool) : (bl g).set i v = bl (fun j => if j = i then v else g j) := by
  apply List.ext_getElem
  · simp [bl]
  · intro j h1 h2
    rw [List.getElem_set]
    simp only [bl, List.getElem_map, List.getElem_range]
    by_cases h : i = j
    · rw [if_pos h, if_pos h.symm]
    · rw [if_neg h, if_neg (fun x => h x.symm)]
theorem bl_false : List.replicate 6400 false = bl (fun _ => false) := by
  apply List.ext_getElem
  · rw [List.length_replicate, bl_len]
  · intro i h1 h2
    rw [List.getElem_replicate]
    simp only [bl, List.getElem_map]
theorem w64s {x : Int} (h : -1000000 ≤ x) (h2 : x ≤ 2000000) : wrap64 x = x := by unfold wrap64; omega
theorem at_f (x y : Int) (hx : -100 ≤ x) (hx2 : x ≤ 100) (hy : -100 ≤ y) (hy2 : y ≤ 100) : spec_l03At.f x y = some ((y + 40) * 80 + x + 40) := by
  unfold spec_l03At.f
  rw [w64s (x := y + 40) (by omega) (by omega), w64s (x := (y + 40) * 80) (by omega) (by omega), w64s (x := (y + 40) * 80 + x) (by omega) (by omega), w64s (by omega) (by omega)]
def hasS (g : Nat → Bool) (x y : Int) : Bool := decide (-40 ≤ x ∧ x ≤ 39 ∧ -40 ≤ y ∧ y ≤ 39) && g ((y + 40).toNat * 80 + (x + 40).toNat)
theorem has_f (g : Nat → Bool) (x y : Int) : spec_l03Has.f (bl g) x y = some (hasS g x y) := by
  unfold spec_l03Has.f spec_l01In.f hasS
  by_cases a : -40 ≤ x ∧ x ≤ 39 ∧ -40 ≤ y ∧ y ≤ 39
  · obtain ⟨a1, a2, a3, a4⟩ := a
    have hlen := bl_len g
    have hi : ((y + 40) * 80 + x + 40 : Int) = (((y + 40).toNat * 80 + (x + 40).toNat : Nat) : Int) := by omega
    rw [at_f x y (by omega) (by omega) (by omega) (by omega), hi]
    rw [if_pos a1, decide_eq_true a2, Option.bind_some, if_pos rfl, if_pos a3, decide_eq_true a4, Option.bind_some, if_pos rfl, Option.bind_some, if_pos (by omega), hlen, if_pos (by omega), bl_rd g _ (by omega), decide_eq_true ⟨a1, a2, a3, a4⟩, Bool.true_and]
  · rw [decide_eq_false a, Bool.false_and]
    by_cases a1 : -40 ≤ x <;> by_cases a2 : x ≤ 39 <;> by_cases a3 : -40 ≤ y <;> by_cases a4 : y ≤ 39 <;> simp [a1, a2, a3, a4] <;> exact absurd ⟨a1, a2, a3, a4⟩ a
theorem rdS (l : List Rc) (i : Nat) (h : i < l.length) : rd_T75 l (i : Int) = l[i] := by simp [rd_T75, List.getD_eq_getElem?_getD, h]
/-! runs -/
def bnd (r : Nat → Bool) : Nat → Nat → Bool → List Nat
  | 0, x, prev => if prev = true then [x] else []
  | d + 1, x, prev => if (r x != prev) = true then x :: bnd r d (x + 1) (r x) else bnd r d (x + 1) (r x)
def flat (ps : List (Nat × Nat)) : List Nat := ps.flatMap fun p => [p.1, p.2]
theorem bnd_scan (r : Nat → Bool) : ∀ (d x : Nat), bnd r d x false = flat (scan r d x none) ∧ ∀ s, s :: bnd r d x true = flat (scan r d x (some s))
  | 0, x => by simp [bnd, scan, flat]
  | d + 1, x => by
    obtain ⟨h1, h2⟩ := bnd_scan r d (x + 1)
    cases hr : r x with
    | false =>
      simp only [bnd, scan, hr, Bool.false_eq_true, if_false, bne_self_eq_false]
      refine ⟨h1, fun s => ?_⟩
      rw [if_pos (by decide), h1]
      rfl
    | true =>
      simp only [bnd, scan, hr, if_true, bne_self_eq_false, Bool.false_eq_true, if_false]
      refine ⟨?_, fun s => h2 s⟩
      rw [if_pos (by decide)]
      exact h2 x
theorem flat_inj : ∀ {p q : List (Nat × Nat)}, flat p = flat q → p = q
  | [], [], _ => rfl
  | [], _ :: _, h => by simp [flat] at h
  | _ :: _, [], h => by simp [flat] at h
  | (a, b) :: p, (c, d) :: q, h => by
    simp only [flat, List.flatMap_cons, List.cons_append, List.nil_append, List.cons.injEq] at h
    rw [h.1, h.2.1, flat_inj (p := p) (q := q) h.2.2]
theorem flat_len (p : List (Nat × Nat)) : (flat p).length = 2 * p.length := by
  induction p with
  | nil => rfl
  | cons a p ih => simp only [flat, List.flatMap_cons, List.length_append, List.length_cons, List.length_nil] at ih ⊢; omega
theorem flat_get (p : List (Nat × Nat)) : ∀ (i : Nat) (h : i < p.length), (flat p)[2 * i]? = some p[i].1 ∧ (flat p)[2 * i + 1]? = some p[i].2 := by
  induction p with
  | nil => intro i h; simp at h
  | cons a p ih =>
    intro i h
    cases i with
    | zero => simp [flat]
    | succ i =>
      have := ih i (by simpa using h)
      simp only [flat, List.flatMap_cons, List.cons_append, List.nil_append] at this ⊢
      rw [show 2 * (i + 1) = 2 * i + 1 + 1 from by omega]
      simpa using this
/-- The reference's runs of a row. -/
def rl (g : Nat → Bool) (y : Nat) : List Int := (flat (runs (row g y))).map fun (x : Nat) => (x : Int) - 40
theorem rl_len (g : Nat → Bool) (y : Nat) : (rl g y).length = 2 * (runs (row g y)).length := by simp [rl, flat_len]
theorem sub_inj {p q : List Nat} (h : p.map (fun (x : Nat) => (x : Int) - 40) = q.map (fun (x : Nat) => (x : Int) - 40)) : p = q := by
  refine List.map_inj_right (fun a b hab => ?_) |>.1 h
  omega
theorem rl_eq {g : Nat → Bool} {y e : Nat} : decide (rl g e = rl g y) = rowEq g y e := by
  rw [Bool.eq_iff_iff, decide_eq_true_eq, rowEq_iff]
  constructor
  · intro h x hx
    exact runs_inj (flat_inj (sub_inj h)) x hx
  · intro h
    unfold rl
    rw [runs_congr (r := row g e) (r' := row g y) (fun j hj => h j hj)]
theorem hasS_row (g : Nat → Bool) (y x : Nat) (hy : y < 80) (hx : x ≤ 80) : hasS g ((x : Int) - 40) ((y : Int) - 40) = (decide (x < 80) && row g y x) := by
  unfold hasS row
  by_cases h : x < 80
  · rw [decide_eq_true h, decide_eq_true (by omega), show ((y : Int) - 40 + 40).toNat = y from by omega, show ((x : Int) - 40 + 40).toNat = x from by omega]
  · rw [decide_eq_false h, decide_eq_false (by omega), Bool.false_and, Bool.false_and]
theorem ev_runs0 (g : Nat → Bool) (y : Nat) (hy : y < 80) : ∀ (d x : Nat) (acc : List Int), x + d = 80 → acc.length ≤ x → Ev (fun k => spec_l03Runs.l0 k (bl g) ((y : Int) - 40) acc ((x : Int) - 40)) (acc ++ (bnd (row g y) d x (decide (0 < x) && row g y (x - 1))).map fun (x : Nat) => (x : Int) - 40)
  | 0, x, acc, h, hacc => by
    have hx : x = 80 := by omega
    subst hx
    have h1 : hasS g (((80 : Nat) : Int) - 40) ((y : Int) - 40) = false := by rw [hasS_row g y 80 hy (by omega)]; rfl
    have h2 : hasS g (wrap64 (((80 : Nat) : Int) - 40 - 1)) ((y : Int) - 40) = row g y 79 := by
      rw [show wrap64 (((80 : Nat) : Int) - 40 - 1) = ((79 : Nat) : Int) - 40 from by unfold wrap64; omega, hasS_row g y 79 hy (by omega)]
      simp
    have hend : ∀ (a : List Int), Ev (fun k => spec_l03Runs.l0 k (bl g) ((y : Int) - 40) a (wrap64 (((80 : Nat) : Int) - 40 + 1))) a := fun a => by
      refine Ev.step (f := fun _ => some a) (fun k => ?_) (Ev.now a)
      simp only [spec_l03Runs.l0]
      rw [if_neg (by unfold wrap64; omega)]
    cases hr : row g y 79 with
    | true =>
      refine Ev.step (fun k => ?_) (hend (acc ++ [((80 : Nat) : Int) - 40]))
      simp only [spec_l03Runs.l0]
      rw [if_pos (by omega), has_f, h1, Option.bind_some, has_f, h2, hr, Option.bind_some, if_pos (by decide), if_pos (by omega)]
    | false =>
      simp only [bnd, Nat.reduceSub, hr, Bool.and_false, Bool.false_eq_true, if_false, List.map_nil, List.append_nil]
      refine Ev.step (fun k => ?_) (hend acc)
      simp only [spec_l03Runs.l0]
      rw [if_pos (by omega), has_f, h1, Option.bind_some, has_f, h2, hr, Option.bind_some, if_neg (by decide)]
  | d + 1, x, acc, h, hacc => by
    have h1 : hasS g ((x : Int) - 40) ((y : Int) - 40) = row g y x := by rw [hasS_row g y x hy (by omega), decide_eq_true (by omega), Bool.true_and]
    have h2 : hasS g (wrap64 ((x : Int) - 40 - 1)) ((y : Int) - 40) = (decide (0 < x) && row g y (x - 1)) := by
      rw [w64s (by omega) (by omega)]
      by_cases h0 : 0 < x
      · rw [show (x : Int) - 40 - 1 = ((x - 1 : Nat) : Int) - 40 from by omega, hasS_row g y (x - 1) hy (by omega), decide_eq_true (by omega), decide_eq_true h0]
      · have hx0 : x = 0 := by omega
        subst hx0
        unfold hasS
        rw [decide_eq_false (by omega)]
        simp
    have hp : (decide (0 < x + 1) && row g y (x + 1 - 1)) = row g y x := by simp
    generalize hpv : (decide (0 < x) && row g y (x - 1)) = prev at *
    have hxx : wrap64 ((x : Int) - 40 + 1) = ((x + 1 : Nat) : Int) - 40 := by unfold wrap64; omega
    cases hc : (row g y x != prev) with
    | true =>
      have ih := ev_runs0 g y hy d (x + 1) (acc ++ [(x : Int) - 40]) (by omega) (by simp; omega)
      rw [hp] at ih
      simp only [bnd, hc, if_true, List.map_cons]
      rw [show acc ++ ((x : Int) - 40) :: (bnd (row g y) d (x + 1) (row g y x)).map (fun (x : Nat) => (x : Int) - 40) = (acc ++ [(x : Int) - 40]) ++ (bnd (row g y) d (x + 1) (row g y x)).map (fun (x : Nat) => (x : Int) - 40) from by simp]
      refine Ev.step (fun k => ?_) ih
      simp only [spec_l03Runs.l0]
      rw [if_pos (by omega), has_f, h1, Option.bind_some, has_f, h2, Option.bind_some, if_pos hc, if_pos (by omega), hxx]
    | false =>
      have ih := ev_runs0 g y hy d (x + 1) acc (by omega) (by omega)
      rw [hp] at ih
      simp only [bnd, hc, Bool.false_eq_true, if_false]
      refine Ev.step (fun k => ?_) ih
      simp only [spec_l03Runs.l0]
      rw [if_pos (by omega), has_f, h1, Option.bind_some, has_f, h2, Option.bind_some, if_neg (by rw [hc]; decide), hxx]
theorem ev_runs (g : Nat → Bool) (y : Nat) (hy : y < 80) : Ev (fun k => spec_l03Runs.f k (bl g) ((y : Int) - 40)) (rl g y) := by
  have h := ev_runs0 g y hy 80 0 [] (by omega) (by simp)
  simp only [Nat.lt_irrefl, decide_false, Bool.false_and, List.nil_append] at h
  rw [(bnd_scan (row g y) 80 0).1] at h
  exact h
theorem ev_equal0 (p q : List Int) (hl : p.length = q.length) (hs : p.length ≤ 2000000) : ∀ (d i : Nat), i + d = p.length → Ev (fun k => spec_l03Equal.l0 k p q i) (decide (p.drop i = q.drop i))
  | 0, i, h => by
    rw [List.drop_eq_nil_of_le (by omega), List.drop_eq_nil_of_le (by omega)]
    refine Ev.step (f := fun _ => some true) (fun k => ?_) (Ev.now true)
    simp only [spec_l03Equal.l0]
    rw [if_neg (by omega)]
  | d + 1, i, h => by
    have h1 : i < p.length := by omega
    have h2 : i < q.length := by omega
    have r1 : rd p (i : Int) = p[i] := by unfold rd; rw [Int.toNat_natCast, List.getD_eq_getElem?_getD, List.getElem?_eq_getElem h1]; rfl
    have r2 : rd q (i : Int) = q[i] := by unfold rd; rw [Int.toNat_natCast, List.getD_eq_getElem?_getD, List.getElem?_eq_getElem h2]; rfl
    rw [List.drop_eq_getElem_cons h1, List.drop_eq_getElem_cons h2]
    by_cases he : p[i] = q[i]
    · rw [show decide (p[i] :: p.drop (i + 1) = q[i] :: q.drop (i + 1)) = decide (p.drop (i + 1) = q.drop (i + 1)) from by rw [decide_eq_decide, List.cons.injEq]; exact ⟨fun h => h.2, fun h => ⟨he, h⟩⟩]
      refine Ev.step (fun k => ?_) (ev_equal0 p q hl hs d (i + 1) (by omega))
      simp only [spec_l03Equal.l0]
      rw [if_pos (by omega), if_pos (by omega), if_pos (by omega), r1, r2, if_pos he, wrap_up i (by omega)]
    · rw [show decide (p[i] :: p.drop (i + 1) = q[i] :: q.drop (i + 1)) = false from by rw [decide_eq_false_iff_not, List.cons.injEq]; exact fun h => he h.1]
      refine Ev.step (f := fun _ => some false) (fun k => ?_) (Ev.now false)
      simp only [spec_l03Equal.l0]
      rw [if_pos (by omega), if_pos (by omega), if_pos (by omega), r1, r2, if_neg he]
theorem ev_equal (p q : List Int) (hs : p.length ≤ 2000000) : Ev (fun k => spec_l03Equal.f k p q) (decide (p = q)) := by
  by_cases hl : p.length = q.length
  · refine Ev.congr (fun k => ?_) (ev_equal0 p q hl hs p.length 0 (by omega))
    unfold spec_l03Equal.f
    rw [if_pos (by omega)]
    rfl
  · refine Ev.congr (f := fun _ => some (decide (p = q))) (fun k => ?_) (Ev.now _)
    unfold spec_l03Equal.f
    rw [if_neg (by omega), decide_eq_false (fun e => hl (by rw [e]))]
/-! the canonical rectangles -/
theorem ev_c2 (g : Nat → Bool) (y e : Nat) {res : List Rc} (acc0 : List Rc) (hacc : acc0.length ≤ 2000000) (h : Ev (fun k => spec_l03Canon.l0 k (bl g) (acc0 ++ rectsOf y e (runs (row g y))) ((e : Int) - 40)) res) :
    ∀ (d i : Nat), i + d = (runs (row g y)).length → Ev (fun k => spec_l03Canon.l2 k (bl g) (acc0 ++ rectsOf y e ((runs (row g y)).take i)) ((y : Int) - 40) (rl g y) ((e : Int) - 40) ((2 * i : Nat) : Int)) res
  | 0, i, hi => by
    have hlen := rl_len g y
    have h40 := runs_len (row g y)
    refine Ev.step (fun k => ?_) h
    simp only [spec_l03Canon.l2]
    rw [if_neg (by unfold wrap64; omega), List.take_of_length_le (by omega)]
  | d + 1, i, hi => by
    have hlen := rl_len g y
    have h40 := runs_len (row g y)
    have hlt : i < (runs (row g y)).length := by omega
    obtain ⟨f1, f2⟩ := flat_get (runs (row g y)) i hlt
    have r1 : rd (rl g y) ((2 * i : Nat) : Int) = ((runs (row g y))[i].1 : Int) - 40 := by
      unfold rd rl; rw [Int.toNat_natCast, List.getD_eq_getElem?_getD, List.getElem?_map, f1]; rfl
    have hw : wrap64 (((2 * i : Nat) : Int) + 1) = ((2 * i + 1 : Nat) : Int) := by unfold wrap64; omega
    have hw2 : wrap64 (((2 * i : Nat) : Int) + 2) = ((2 * (i + 1) : Nat) : Int) := by unfold wrap64; omega
    have r2 : rd (rl g y) ((2 * i + 1 : Nat) : Int) = ((runs (row g y))[i].2 : Int) - 40 := by
      unfold rd rl; rw [Int.toNat_natCast, List.getD_eq_getElem?_getD, List.getElem?_map, f2]; rfl
    refine Ev.step (fun k => ?_) (ev_c2 g y e acc0 hacc h d (i + 1) (by omega))
    simp only [spec_l03Canon.l2]
    rw [hw, if_pos (by omega), if_pos (by omega), if_pos (by omega), if_pos (by omega), if_pos (by simp only [rectsOf, List.length_append, List.length_map, List.length_take]; omega), r1, r2, hw2, List.take_succ_eq_append_getElem hlt]
    simp only [rectsOf, List.map_append, List.map_cons, List.map_nil, List.append_assoc]
theorem ev_c1 (g : Nat → Bool) (y : Nat) (hy : y < 80) {res : List Rc} (acc : List Rc) (h : Ev (fun k => spec_l03Canon.j2 k (bl g) acc ((y : Int) - 40) (rl g y) ((bEnd g y : Int) - 40)) res) :
    ∀ (d e : Nat), e + d = 80 → bandEnd g y d e = bEnd g y → Ev (fun k => spec_l03Canon.l1 k (bl g) acc ((y : Int) - 40) (rl g y) ((e : Int) - 40)) res
  | 0, e, he, hb => by
    have : e = 80 := by omega
    subst this
    simp only [bandEnd] at hb
    refine Ev.step (fun k => ?_) h
    simp only [spec_l03Canon.l1]
    rw [if_neg (by omega), ← hb]
  | d + 1, e, he, hb => by
    have hlen := rl_len g e
    have h40 := runs_len (row g e)
    have he8 : e < 80 := by omega
    have hbind := fun (c : Bool) (hc : rowEq g y e = c) (f : Nat → Bool → Option (List Rc)) (hf : Ev (fun k => f k c) res) => Ev.bind (f := fun k t => (spec_l03Equal.f k t (rl g y)).bind (f k)) (ev_runs g e he8) (Ev.bind (f := fun k t => f k t) (by have := ev_equal (rl g e) (rl g y) (by omega); rw [rl_eq, hc] at this; exact this) hf)
    simp only [bandEnd] at hb
    cases hc : rowEq g y e with
    | true =>
      rw [if_pos ⟨he8, hc⟩] at hb
      have ih := ev_c1 g y hy acc h d (e + 1) (by omega) hb
      have hw : wrap64 ((e : Int) - 40 + 1) = ((e + 1 : Nat) : Int) - 40 := by unfold wrap64; omega
      have := hbind true hc (fun k t => if t = true then spec_l03Canon.l1 k (bl g) acc ((y : Int) - 40) (rl g y) (wrap64 ((e : Int) - 40 + 1)) else spec_l03Canon.j2 k (bl g) acc ((y : Int) - 40) (rl g y) ((e : Int) - 40)) (by simp only [if_true]; rw [hw]; exact ih)
      refine Ev.step (fun k => ?_) this
      simp only [spec_l03Canon.l1]
      rw [if_pos (by omega)]
    | false =>
      rw [if_neg (by rw [hc]; simp)] at hb
      have := hbind false hc (fun k t => if t = true then spec_l03Canon.l1 k (bl g) acc ((y : Int) - 40) (rl g y) (wrap64 ((e : Int) - 40 + 1)) else spec_l03Canon.j2 k (bl g) acc ((y : Int) - 40) (rl g y) ((e : Int) - 40)) (by simp only [Bool.false_eq_true, if_false]; rw [hb]; exact h)
      refine Ev.step (fun k => ?_) this
      simp only [spec_l03Canon.l1]
      rw [if_pos (by omega)]
theorem ev_c0 (g : Nat → Bool) : ∀ (d y : Nat) (acc : List Rc), y ≤ 80 → 80 ≤ d + y → acc.length ≤ 40 * y → Ev (fun k => spec_l03Canon.l0 k (bl g) acc ((y : Int) - 40)) (acc ++ canonFrom g d y)
  | 0, y, acc, hy, hd, ha => by
    refine Ev.step (f := fun _ => some (acc ++ canonFrom g 0 y)) (fun k => ?_) (Ev.now _)
    simp only [spec_l03Canon.l0, canonFrom, List.append_nil]
    rw [if_neg (by omega)]
  | d + 1, y, acc, hy, hd, ha => by
    simp only [canonFrom]
    by_cases h80 : y < 80
    · rw [if_pos h80]
      obtain ⟨b1, b2, _, _⟩ := bEnd_ok g y h80
      have hr := runs_len (row g y)
      have h0 := ev_c0 g d (bEnd g y) (acc ++ rectsOf y (bEnd g y) (runs (row g y))) b2 (by omega) (by simp only [rectsOf, List.length_append, List.length_map]; omega)
      rw [List.append_assoc] at h0
      have h2 := ev_c2 g y (bEnd g y) acc (by omega) (by rw [← List.append_assoc] at h0; rw [List.append_assoc] at h0; exact h0) (runs (row g y)).length 0 (by omega)
      have h1 := ev_c1 g y h80 acc (res := acc ++ (rectsOf y (bEnd g y) (runs (row g y)) ++ canonFrom g d (bEnd g y))) (by
        refine Ev.step (fun k => ?_) h2
        simp only [spec_l03Canon.j2, List.take_zero, rectsOf, List.map_nil, List.append_nil]
        rfl) (80 - (y + 1)) (y + 1) (by omega) (bandEnd_fuel g y _ 80 (y + 1) (by omega) (by omega) (by omega))
      have hw : wrap64 ((y : Int) - 40 + 1) = ((y + 1 : Nat) : Int) - 40 := by unfold wrap64; omega
      refine Ev.step (fun k => ?_) (Ev.bind (f := fun k t => spec_l03Canon.l1 k (bl g) acc ((y : Int) - 40) t (wrap64 ((y : Int) - 40 + 1))) (ev_runs g y h80) (by rw [hw]; exact h1))
      simp only [spec_l03Canon.l0]
      rw [if_pos (by omega)]
    · rw [if_neg h80]
      refine Ev.step (f := fun _ => some (acc ++ [])) (fun k => ?_) (Ev.now _)
      simp only [spec_l03Canon.l0, List.append_nil]
      rw [if_neg (by omega)]
theorem ev_canon (g : Nat → Bool) : Ev (fun k => spec_l03Canon.f k (bl g)) (canon g) := by
  have h := ev_c0 g 80 0 [] (by omega) (by omega) (by simp)
  exact h
end Go.Proofs.Ytncjjplpenjghaa.G

/-! ### RegEq -/
/- Lists of rectangles compared by a law. -/
set_option linter.unusedVariables false
set_option linter.unusedSimpArgs false
namespace Go.Proofs.Ytncjjplpenjghaa.G
open Go.RowKit Go.Proofs.Ytncjjplpenjghaa.P Go.Proofs.Ytncjjplpenjghaa.H Go.Proofs.YtncjjplpenjghaaW.PrintWords Go.Proofs.YtncjjplpenjghaaW.PrintLast
theorem ev_eqS (l : List Rc) (hl : l.length ≤ 1048576) : Ev (fun k => laws_eqRectS.f k l l) true := by
  have h := gen_eq rd_T75 rdS (fun _ a b => laws_eqRect.f a.f0 a.f1 a.f2 a.f3 b.f0 b.f1 b.f2 b.f3) laws_eqRectS.l0 (fun k x y i => rfl) l (by omega) (fun a _ => Ev.const (by simp [laws_eqRect.f]))
  refine Ev.congr (fun k => ?_) h
  simp only [laws_eqRectS.f]
  rw [if_pos trivial]
end Go.Proofs.Ytncjjplpenjghaa.G

/-! ### RegMark -/
/- The marks on lists of rectangles and of points, and what finds them. -/
set_option linter.unusedVariables false
set_option linter.unusedSimpArgs false
namespace Go.Proofs.Ytncjjplpenjghaa.G
open Go.RowKit Go.Proofs.Ytncjjplpenjghaa.P Go.Proofs.Ytncjjplpenjghaa.H Go.Proofs.YtncjjplpenjghaaW.PrintWords Go.Proofs.YtncjjplpenjghaaW.PrintLast
def mR (a : Int) : Rc := ⟨a, a + 1, a + 2, a + 3⟩
theorem rdSet (x : List Rc) (i : Nat) (v : Rc) (h : i < x.length) : rd_T75 (x.set i v) (i : Int) = v := by
  rw [rdS _ i (by rw [List.length_set]; exact h), List.getElem_set_self]
theorem w64m {a : Int} (h : 0 ≤ a) (h2 : a ≤ 100000010) : wrap64 a = a := by unfold wrap64; omega
theorem markR (l : List Rc) (hl : l.length ≤ 1048576) (s : Int) (hs : 0 ≤ s) (hs2 : s ≤ 40000000) : Ev (fun k => laws_markRectS.f k l s) (s + 4 * (l.length : Int), marks 4 mR s l.length) := by
  have h := gen_mark 4 mR laws_markRectS.l0 s hs hs2 (by omega) (by omega) (fun k x a i hi => by simp only [laws_markRectS.l0]; rw [if_neg hi]) (fun k x a i hi h0 h1 => by
    simp only [laws_markRectS.l0]
    rw [if_pos (by omega), if_pos (by omega), Int.toNat_natCast, w64m (a := a + 1) (by omega) (by omega), w64m (a := a + 1 + 1) (by omega) (by omega), w64m (a := a + 1 + 1 + 1) (by omega) (by omega), w64m (a := a + 1 + 1 + 1 + 1) (by omega) (by omega)]
    simp only [Option.bind_some]
    rw [rdSet _ _ _ (by simpa using hi), rdSet _ _ _ (by simpa using hi), rdSet _ _ _ (by simpa using hi), List.set_set, List.set_set, List.set_set]
    rw [show a + 1 + 1 + 1 + 1 = a + 4 from by omega, show a + 1 + 1 + 1 = a + 3 from by omega, show a + 1 + 1 = a + 2 from by omega]
    rfl) l hl l.length 0 (by omega)
  refine Ev.congr (fun k => ?_) h
  simp [laws_markRectS.f]
theorem heldR (n : Nat) (hl : n ≤ 1048576) (s : Int) (hs : 0 ≤ s) (hs2 : s ≤ 40000000) : Ev (fun k => laws_heldRectS.f k (marks 4 mR s n) s) (s + 4 * (n : Int)) := by
  have h := gen_held 4 mR laws_heldRectS.l0 s hs hs2 (by omega) (by omega) (fun k x a i hi => by simp only [laws_heldRectS.l0]; rw [if_neg hi]) (fun k x a i hi hx h0 h1 => by
    simp only [laws_heldRectS.l0]
    rw [if_pos (by omega), if_pos (by omega), rdS x i hi, hx, w64m (a := a + 1) (by omega) (by omega), w64m (a := a + 1 + 1) (by omega) (by omega), w64m (a := a + 1 + 1 + 1) (by omega) (by omega), w64m (a := a + 1 + 1 + 1 + 1) (by omega) (by omega)]
    rw [if_pos (show (mR a).f0 = a from rfl), if_pos (show (mR a).f1 = a + 1 from rfl), if_pos (show (mR a).f2 = a + 1 + 1 by show a + 2 = _; omega), if_pos (show (mR a).f3 = a + 1 + 1 + 1 by show a + 3 = _; omega), show a + 1 + 1 + 1 + 1 = a + 4 from by omega]) n hl n 0 (by omega)
  refine Ev.congr (fun k => ?_) h
  simp [laws_heldRectS.f]
end Go.Proofs.Ytncjjplpenjghaa.G

/-! ### PtMark -/
/- The marks on lists of points. -/
set_option linter.unusedVariables false
set_option linter.unusedSimpArgs false
namespace Go.Proofs.Ytncjjplpenjghaa.G
open Go.RowKit Go.Proofs.Ytncjjplpenjghaa.P Go.Proofs.Ytncjjplpenjghaa.H Go.Proofs.YtncjjplpenjghaaW.PrintWords Go.Proofs.YtncjjplpenjghaaW.PrintLast
abbrev Pt := S67
def mP (a : Int) : Pt := ⟨a, a + 1⟩
theorem rdP (l : List Pt) (i : Nat) (h : i < l.length) : rd_T67 l (i : Int) = l[i] := by simp [rd_T67, List.getD_eq_getElem?_getD, h]
theorem rdSetP (x : List Pt) (i : Nat) (v : Pt) (h : i < x.length) : rd_T67 (x.set i v) (i : Int) = v := by
  rw [rdP _ i (by rw [List.length_set]; exact h), List.getElem_set_self]
theorem w64n {a : Int} (h : 0 ≤ a) (h2 : a ≤ 100000010) : wrap64 a = a := by unfold wrap64; omega
theorem markP (l : List Pt) (hl : l.length ≤ 1048576) (s : Int) (hs : 0 ≤ s) (hs2 : s ≤ 40000000) : Ev (fun k => laws_markPointS.f k l s) (s + 2 * (l.length : Int), marks 2 mP s l.length) := by
  have h := gen_mark 2 mP laws_markPointS.l0 s hs hs2 (by omega) (by omega) (fun k x a i hi => by simp only [laws_markPointS.l0]; rw [if_neg hi]) (fun k x a i hi h0 h1 => by
    simp only [laws_markPointS.l0]
    rw [if_pos (by omega), if_pos (by omega), Int.toNat_natCast, w64n (a := a + 1) (by omega) (by omega), w64n (a := a + 1 + 1) (by omega) (by omega)]
    simp only [Option.bind_some]
    rw [rdSetP _ _ _ (by simpa using hi), List.set_set]
    rw [show a + 1 + 1 = a + 2 from by omega]
    rfl) l hl l.length 0 (by omega)
  refine Ev.congr (fun k => ?_) h
  simp [laws_markPointS.f]
end Go.Proofs.Ytncjjplpenjghaa.G

/-! ### QFill -/
/- The reference's fill: the list of the unit cells with an odd number of upright edges on their left; it is the program's grid. -/
set_option linter.unusedVariables false
set_option linter.unusedSimpArgs false
namespace Go.Proofs.Ytncjjplpenjghaa.Q
open Go.RowKit Go.Proofs.Ytncjjplpenjghaa.P Go.Proofs.Ytncjjplpenjghaa.H Go.Proofs.YtncjjplpenjghaaW.PrintWords Go.Proofs.YtncjjplpenjghaaW.PrintLast Go.Proofs.YtncjjplpenjghaaW.PrintMore

/-- The flags of a grid, row by row. -/
def bitsN (n : Nat) (g : Nat → Bool) : List Bool := (List.range n).map g
theorem bits_there : ∃ f : (Nat → Bool) → List Bool, ∀ g, f g = bitsN 6400 g := ⟨bitsN 6400, fun _ => rfl⟩
noncomputable def bits : (Nat → Bool) → List Bool := Classical.choose bits_there
theorem bits_is (g : Nat → Bool) : bits g = bitsN 6400 g := Classical.choose_spec bits_there g
theorem bitsN_len (n : Nat) (g : Nat → Bool) : (bitsN n g).length = n := by simp [bitsN]
theorem bits_len (g : Nat → Bool) : (bits g).length = 6400 := by rw [bits_is]; exact bitsN_len _ _
theorem bitsN_get (n : Nat) (g : Nat → Bool) (i : Nat) (h : i < n) : (bitsN n g)[i]? = some (g i) := by simp [bitsN, h]
theorem bits_rd (g : Nat → Bool) (i : Nat) (h : i < 6400) : rdOf false (bits g) i = g i := by
  unfold rdOf
  rw [bits_is, Int.toNat_natCast, List.getD_eq_getElem?_getD, bitsN_get _ _ _ h]
  rfl
theorem bitsN_ext (n : Nat) (g : Nat → Bool) (l : List Bool) (hl : l.length = n) (h : ∀ i, i < n → l[i]? = some (g i)) : l = bitsN n g := by
  apply List.ext_getElem?
  intro i
  rcases Nat.lt_or_ge i n with hi | hi
  · rw [h i hi, bitsN_get _ _ _ hi]
  · rw [List.getElem?_eq_none (by omega), List.getElem?_eq_none (by rw [bitsN_len]; omega)]
theorem bits_set (g g' : Nat → Bool) (i : Nat) (v : Bool) (hi : i < 6400) (h : ∀ j, j < 6400 → g' j = if j = i then v else g j) : (bits g).set i v = bits g' := by
  rw [bits_is g']
  refine bitsN_ext 6400 g' _ (by rw [List.length_set, bits_len]) fun j hj => ?_
  rw [List.getElem?_set, h j hj]
  by_cases e : i = j
  · subst e
    rw [if_pos rfl, if_pos (by rw [bits_len]; exact hj), if_pos rfl]
  · rw [if_neg e, if_neg (fun x => e x.symm), bits_is]
    exact bitsN_get _ _ _ hj
theorem bits_congr {g g' : Nat → Bool} (h : ∀ i, i < 6400 → g i = g' i) : bits g = bits g' := by
  rw [bits_is g']
  exact bitsN_ext 6400 g' _ (bits_len g) fun i hi => by rw [bits_is, bitsN_get _ _ _ hi, h i hi]
theorem bitsN_false (n : Nat) : List.replicate n false = bitsN n (fun _ => false) :=
  bitsN_ext n _ _ List.length_replicate fun i hi => by rw [List.getElem?_replicate, if_pos hi]
theorem bits_false : List.replicate 6400 false = bits (fun _ => false) := by rw [bits_is]; exact bitsN_false 6400

theorem at_int {x y : Int} (hx : -40 ≤ x) (hy : -40 ≤ y) : (y + 40) * 80 + x + 40 = ((at_ x y : Nat) : Int) := by
  unfold at_
  omega
theorem l03At_f {x y : Int} (hx : -40 ≤ x) (hx2 : x ≤ 39) (hy : -40 ≤ y) (hy2 : y ≤ 39) : spec_l03At.f x y = some ((at_ x y : Nat) : Int) := by
  have e1 : wrap64 (y + 40) = y + 40 := w64 (by omega) (by omega)
  have e2 : wrap64 ((y + 40) * 80) = (y + 40) * 80 := w64 (by omega) (by omega)
  have e3 : wrap64 ((y + 40) * 80 + x) = (y + 40) * 80 + x := w64 (by omega) (by omega)
  have e4 : wrap64 ((y + 40) * 80 + x + 40) = (y + 40) * 80 + x + 40 := w64 (by omega) (by omega)
  have e5 := at_int hx hy
  unfold spec_l03At.f
  rw [e1, e2, e3, e4, e5]
theorem at_lt {x y : Int} (hx : -40 ≤ x) (hx2 : x ≤ 39) (hy : -40 ≤ y) (hy2 : y ≤ 39) : at_ x y < 6400 := by unfold at_; omega
def fillTo (x a b y : Int) (c : Int) (i : Nat) : Bool := decide (min a b + 40 ≤ (i / 80 : Nat) ∧ x + 40 ≤ (i % 80 : Nat) ∧ (((i / 80 : Nat) : Int) < y + 40 ∨ (((i / 80 : Nat) : Int) = y + 40 ∧ ((i % 80 : Nat) : Int) < c + 40)))
def fillHit (e : S93) (i : Nat) : Bool := upright e && fillTo e.f0 e.f1 e.f3 (max e.f1 e.f3) (-40) i
def fillG (es : List S93) (i : Nat) : Bool := es.foldl (fun b e => b != fillHit e i) false

theorem fill_l2 (es : List S93) (g : Nat → Bool) (i4 : Int) (x a x2 b y : Int) {r : List Bool} (hx : -40 ≤ x) (ha : -40 ≤ a) (hb : -40 ≤ b) (hy : min a b ≤ y) (hy2 : y < max a b) (hm : max a b ≤ 40) (d : Nat) : ∀ c : Int, c + d = 40 → x ≤ c →
    Ev (fun k => spec_l06Fill.l1 k es (bits fun i => g i != fillTo x a b (y + 1) (-40) i) i4 (y + 1) x a x2 b) r →
    Ev (fun k => spec_l06Fill.l2 k es (bits fun i => g i != fillTo x a b y c i) i4 y c x a x2 b) r := by
  induction d with
  | zero =>
    intro c hc hxc h
    refine Ev.step (fun k => ?_) h
    simp only [spec_l06Fill.l2]
    rw [if_neg (by omega), w64 (by omega) (by omega)]
    rw [bits_congr (g' := fun i => g i != fillTo x a b (y + 1) (-40) i)]
    intro i hi
    simp only [fillTo]
    congr 1
    rw [decide_eq_decide]
    omega
  | succ d ih =>
    intro c hc hxc h
    refine Ev.step (fun k => ?_) (ih (c + 1) (by omega) (by omega) h)
    simp only [spec_l06Fill.l2]
    have hl := at_lt (x := c) (y := y) (by omega) (by omega) (by omega) (by omega)
    rw [if_pos (by omega), l03At_f (by omega) (by omega) (by omega) (by omega)]
    simp only [Option.bind_some]
    rw [if_pos (by omega), if_pos (by rw [bits_len]; omega), if_pos (by omega), if_pos (by rw [bits_len]; omega), w64 (by omega) (by omega), Int.toNat_natCast, bits_rd _ _ hl,
      bits_set _ (fun i => g i != fillTo x a b y (c + 1) i) _ _ hl]
    intro j hj
    by_cases e : j = at_ c y
    · rw [if_pos e, ← e]
      have e1 : fillTo x a b y (c + 1) j = true := by
        unfold fillTo at_ at *
        rw [decide_eq_true_eq]
        omega
      have e2 : fillTo x a b y c j = false := by
        unfold fillTo at_ at *
        rw [decide_eq_false_iff_not]
        omega
      rw [e1, e2]
      simp
    · rw [if_neg e]
      congr 1
      unfold fillTo
      rw [decide_eq_decide]
      unfold at_ at e
      omega

theorem fill_l1 (es : List S93) (g : Nat → Bool) (n : Nat) (x a x2 b : Int) {r : List Bool} (hn : n < es.length) (hes : es.length ≤ 1048576) (hx : -40 ≤ x) (hx4 : x ≤ 40) (ha : -40 ≤ a) (hb : -40 ≤ b) (hm : max a b ≤ 40) (d : Nat) : ∀ y : Int, y + d = max a b → min a b ≤ y →
    Ev (fun k => spec_l06Fill.l0 k es (bits fun i => g i != fillTo x a b (max a b) (-40) i) ((n + 1 : Nat) : Int)) r →
    Ev (fun k => spec_l06Fill.l1 k es (bits fun i => g i != fillTo x a b y (-40) i) n y x a x2 b) r := by
  induction d with
  | zero =>
    intro y hy hmn h
    obtain rfl : y = max a b := by omega
    refine Ev.step (fun k => ?_) h
    simp only [spec_l06Fill.l1]
    have e : mx a b = max a b := by unfold mx; split <;> omega
    rw [e, if_neg (by omega), w64 (by omega) (by omega)]
    rfl
  | succ d ih =>
    intro y hy hmn h
    have e : mx a b = max a b := by unfold mx; split <;> omega
    have e2 : (bits fun i => g i != fillTo x a b y (-40) i) = bits fun i => g i != fillTo x a b y x i := by
      refine bits_congr fun i hi => ?_
      congr 1
      unfold fillTo
      rw [decide_eq_decide]
      omega
    refine Ev.step (fun k => ?_) (fill_l2 es g n x a x2 b y hx ha hb hmn (by omega) hm (40 - x).toNat x (by omega) (by omega) (ih (y + 1) (by omega) (by omega) h))
    simp only [spec_l06Fill.l1]
    rw [e, if_pos (by omega), e2]

theorem fill_l0 (es : List S93) (hes : es.length ≤ 1048576) (hok : ∀ e ∈ es, EOk e) (d : Nat) : ∀ n : Nat, n + d = es.length → Ev (fun k => spec_l06Fill.l0 k es (bits (fillG (es.take n))) n) (bits (fillG es)) := by
  induction d with
  | zero =>
    intro n hn
    refine Ev.step (f := fun _ => some (bits (fillG es))) (fun k => ?_) (Ev.now _)
    simp only [spec_l06Fill.l0]
    rw [if_neg (by omega), List.take_of_length_le (by omega)]
  | succ d ih =>
    intro n hn
    have hlt : n < es.length := by omega
    have ht : ∀ i, fillG (es.take (n + 1)) i = (fillG (es.take n) i != fillHit es[n] i) := by
      intro i
      unfold fillG
      rw [List.take_succ_eq_append_getElem hlt, List.foldl_append]
      rfl
    have hrd : rd_T93 es n = es[n] := by simp [rd_T93, List.getD_eq_getElem?_getD, hlt]
    have ho := hok _ (List.getElem_mem hlt)
    by_cases hu : es[n].f0 = es[n].f2
    · have hup : upright es[n] = true := by simp [upright, hu]
      obtain ⟨⟨o1, o2⟩, ⟨o3, o4⟩, _, ⟨o7, o8⟩⟩ := ho
      have h1 : Ev (fun k => spec_l06Fill.l0 k es (bits fun i => fillG (es.take n) i != fillTo es[n].f0 es[n].f1 es[n].f3 (max es[n].f1 es[n].f3) (-40) i) ((n + 1 : Nat) : Int)) (bits (fillG es)) := by
        rw [bits_congr (g' := fillG (es.take (n + 1)))]
        · exact ih (n + 1) (by omega)
        · intro i hi
          rw [ht i]
          unfold fillHit
          rw [hup, Bool.true_and]
      refine Ev.step (fun k => ?_) (fill_l1 es (fillG (es.take n)) n es[n].f0 es[n].f1 es[n].f2 es[n].f3 hlt hes o1 o2 o3 o7 (by omega) (max es[n].f1 es[n].f3 - min es[n].f1 es[n].f3).toNat (min es[n].f1 es[n].f3) (by omega) (by omega) h1)
      simp only [spec_l06Fill.l0]
      have em : mn es[n].f1 es[n].f3 = min es[n].f1 es[n].f3 := by unfold mn; split <;> omega
      rw [if_pos (by omega), if_pos (by omega), hrd, if_pos hu, em]
      rw [bits_congr (g' := fun i => fillG (es.take n) i != fillTo es[n].f0 es[n].f1 es[n].f3 (min es[n].f1 es[n].f3) (-40) i)]
      intro i hi
      have : fillTo es[n].f0 es[n].f1 es[n].f3 (min es[n].f1 es[n].f3) (-40) i = false := by
        unfold fillTo
        rw [decide_eq_false_iff_not]
        omega
      rw [this]
      simp
    · have hup : upright es[n] = false := by simp [upright, hu]
      refine Ev.step (fun k => ?_) (ih (n + 1) (by omega))
      simp only [spec_l06Fill.l0]
      rw [if_pos (by omega), if_pos (by omega), hrd, if_neg hu, w64 (by omega) (by omega)]
      rw [bits_congr (g' := fillG (es.take (n + 1)))]
      · rfl
      · intro i hi
        rw [ht i]
        unfold fillHit
        rw [hup]
        simp

theorem fill_f (es : List S93) (hes : es.length ≤ 1048576) (hok : ∀ e ∈ es, EOk e) : Ev (fun k => spec_l06Fill.f k es) (bits (fillG es)) := by
  refine Ev.congr (fun k => ?_) (fill_l0 es hes hok es.length 0 (by omega))
  simp only [spec_l06Fill.f]
  rw [if_pos (by omega), bits_false]
  rfl

/-! it is the program's -/
theorem px_ind {p : Nat → Bool → Prop} (g : Nat → Bool) (r : Nat) (h0 : p 0 (g (r * 80))) (hs : ∀ c b, c + 1 < 80 → p c b → p (c + 1) (b != g (r * 80 + (c + 1)))) : ∀ c, c < 80 → p c (px g (r * 80 + c)) := by
  intro c
  induction c with
  | zero => intro _; rw [Nat.add_zero, px_first]; exact h0
  | succ c ih =>
    intro hc
    rw [px_next g r c hc]
    exact hs c _ hc (ih (by omega))
theorem px_xor (g h : Nat → Bool) (r : Nat) : ∀ c, c < 80 → px (fun i => g i != h i) (r * 80 + c) = (px g (r * 80 + c) != px h (r * 80 + c)) := by
  intro c
  induction c with
  | zero => intro _; rw [Nat.add_zero, px_first, px_first, px_first]
  | succ c ih =>
    intro hc
    rw [px_next _ r c hc, px_next g r c hc, px_next h r c hc, ih (by omega)]
    cases px g (r * 80 + c) <;> cases px h (r * 80 + c) <;> cases g (r * 80 + (c + 1)) <;> cases h (r * 80 + (c + 1)) <;> rfl
theorem px_hit (e : S93) (hu : upright e = true) (ho : EOk e) (r : Nat) (hr : r < 80) : ∀ c, c < 80 → px (hit e) (r * 80 + c) = fillHit e (r * 80 + c) := by
  obtain ⟨⟨o1, o2⟩, _⟩ := ho
  intro c
  unfold fillHit
  rw [hu, Bool.true_and]
  induction c with
  | zero =>
    intro _
    rw [Nat.add_zero, px_first]
    unfold hit hitTo fillTo
    rw [show r * 80 % 80 = 0 from by omega, show r * 80 / 80 = r from by omega, decide_eq_decide]
    omega
  | succ c ih =>
    intro hc
    rw [px_next _ r c hc, ih (by omega)]
    unfold hit hitTo fillTo
    rw [show (r * 80 + (c + 1)) % 80 = c + 1 from by omega, show (r * 80 + (c + 1)) / 80 = r from by omega, show (r * 80 + c) % 80 = c from by omega, show (r * 80 + c) / 80 = r from by omega]
    by_cases hrow : min e.f1 e.f3 + 40 ≤ (r : Int) ∧ (r : Int) < max e.f1 e.f3 + 40
    · by_cases h1 : e.f0 + 40 ≤ (c : Int)
      · rw [decide_eq_true (by omega), decide_eq_false (by omega), decide_eq_true (by omega)]; rfl
      · by_cases h2 : e.f0 + 40 = ((c + 1 : Nat) : Int)
        · rw [decide_eq_false (by omega), decide_eq_true (by omega), decide_eq_true (by omega)]; rfl
        · rw [decide_eq_false (by omega), decide_eq_false (by omega), decide_eq_false (by omega)]; rfl
    · rw [decide_eq_false (by omega), decide_eq_false (by omega), decide_eq_false (by omega)]; rfl
theorem foldl_xor {α : Type} (f : α → Bool) (l : List α) : ∀ b : Bool, l.foldl (fun b e => b != f e) b = (b != l.foldl (fun b e => b != f e) false) := by
  induction l with
  | nil => intro b; cases b <;> rfl
  | cons x l ih =>
    intro b
    rw [List.foldl_cons, List.foldl_cons, ih, ih (false != f x)]
    cases b <;> cases f x <;> cases l.foldl (fun b e => b != f e) false <;> rfl
theorem flips_cons (e : S93) (es : List S93) (i : Nat) : flips (e :: es) i = (hit e i != flips es i) := by
  unfold flips
  rw [List.foldl_cons, foldl_xor (fun e => hit e i)]
  cases hit e i <;> rfl
theorem fillG_cons (e : S93) (es : List S93) (i : Nat) : fillG (e :: es) i = (fillHit e i != fillG es i) := by
  unfold fillG
  rw [List.foldl_cons, foldl_xor (fun e => fillHit e i)]
  cases fillHit e i <;> rfl
theorem px_zero (r : Nat) : ∀ c, c < 80 → px (fun _ => false) (r * 80 + c) = false := by
  intro c
  induction c with
  | zero => intro _; rw [Nat.add_zero, px_first]
  | succ c ih => intro hc; rw [px_next _ r c hc, ih (by omega)]; rfl
theorem fill_same (es : List S93) (hok : ∀ e ∈ es, EOk e) (r : Nat) (hr : r < 80) (c : Nat) (hc : c < 80) : px (flips (es.filter upright)) (r * 80 + c) = fillG es (r * 80 + c) := by
  induction es with
  | nil => exact px_zero r c hc
  | cons e es ih =>
    have ih := ih (fun x hx => hok x (List.mem_cons_of_mem _ hx))
    rw [fillG_cons]
    by_cases hu : upright e = true
    · rw [List.filter_cons, if_pos hu]
      have : flips (e :: es.filter upright) = fun i => hit e i != flips (es.filter upright) i := funext fun i => flips_cons _ _ _
      rw [this, px_xor _ _ r c hc, ih, px_hit e hu (hok e List.mem_cons_self) r hr c hc]
    · rw [List.filter_cons, if_neg hu, ih]
      have : fillHit e (r * 80 + c) = false := by unfold fillHit; rw [Bool.eq_false_iff.2 hu]; rfl
      rw [this]
      cases fillG es (r * 80 + c) <;> rfl
theorem inside_bits (p : List S67) (h : vp p = true) : bits (fillG (sides p)) = bits (insideG p) := by
  refine bits_congr fun i hi => ?_
  have e : i = i / 80 * 80 + i % 80 := by omega
  have := fill_same (sides p) (sides_ok h) (i / 80) (by omega) (i % 80) (by omega)
  rw [← e] at this
  exact this.symm
/-- The reference's flags of a valid polygon. -/
theorem spec_inside (p : List S67) (h : vp p = true) : Ev (fun k => spec_l06Fill.f k (sides p)) (bits (insideG p)) := by
  rw [← inside_bits p h]
  exact fill_f _ (by rw [sides_len]; have := vp_len h; omega) (sides_ok h)
end Go.Proofs.Ytncjjplpenjghaa.Q

/-! ### PureFnExactPolygonRegion -/
/- FnExactPolygonRegion: the pure part. -/
set_option linter.unusedVariables false
set_option linter.unusedSimpArgs false
namespace Go.Proofs.Ytncjjplpenjghaa.fnExactPolygonRegion
open Go.RowKit Go.Proofs.Ytncjjplpenjghaa.P Go.Proofs.Ytncjjplpenjghaa.G Go.Proofs.Ytncjjplpenjghaa.Q Go.Proofs.Ytncjjplpenjghaa.H Go.Proofs.YtncjjplpenjghaaW.PrintWords Go.Proofs.YtncjjplpenjghaaW.PrintLast
/-- The answer of both sides. -/
def pr (p : List Pt) : List Rc × Bool := if vp p = true then (canon (insideG p), true) else ([], false)
theorem impl_pr (p : List Pt) : impl_PolygonRegion.f p = some (pr p) := rfl
theorem bits_bl (g : Nat → Bool) : Q.bits g = bl g := bits_is g
theorem pr_len (p : List Pt) : (pr p).1.length ≤ 3200 := by
  unfold pr
  split
  · exact canon_len _
  · exact Nat.zero_le _
theorem spec_pr (p : List Pt) : Ev (fun k => spec_PolygonRegion.f k p) (pr p) := by
  refine Ev.congr (fun k => by unfold spec_PolygonRegion.f; rfl) (Ev.bind (Ev.const (show spec_IsValidPolygon.f p = some (vp p) from rfl)) ?_)
  unfold pr
  by_cases hv : vp p = true
  · simp only [hv, if_true]
    have hl := vp_len hv
    refine Ev.bind (spec_sides p (by omega)) (Ev.bind (spec_inside p hv) (Ev.bind (f := fun k t => some (t, true)) ?_ (Ev.now _)))
    rw [bits_bl]
    exact ev_canon _
  · rw [Bool.eq_false_iff.2 hv]
    simp only [Bool.false_eq_true, if_false]
    exact Ev.now _
theorem pure : Stm := by
  intro l hI
  apply Ev.rounds
  unfold laws_FnExactPolygonRegion.f
  refine Ev.bind (g := fun _ => laws_szPointS.f l 1048576) (Ev.congr (fun _ => sz_ok l hI.1 1048576 (by omega)) (Ev.now _)) ?_
  by_cases h : l.length ≤ 1048576
  · simp only [if_pos h]
    have hn : ¬ (((1048576 - l.length : Nat) : Int) < 0) := by omega
    simp only [if_neg hn]
    have hc : (convs l).length ≤ 1048576 := by simpa [convs] using h
    have hpl := pr_len (convs l)
    have hi := impl_pr (convs l)
    have hsp := spec_pr (convs l)
    generalize pr (convs l) = m at *
    refine Ev.bind (toS l h) (Ev.bind hsp (Ev.bind (toS l h) (Ev.bind (Ev.const hi) (Ev.bind (ev_eqS m.1 (by omega)) ?_))))
    simp only [if_true, bne_self_eq_false]
    refine Ev.step (fun k => by simp only [laws_FnExactPolygonRegion.j0, Bool.false_eq_true, if_false]; rfl) ?_
    refine Ev.bind (toS l h) (Ev.bind (eqS _ hc) ?_)
    simp only [if_true]
    refine Ev.bind (markP _ hc 1 (by omega) (by omega)) ?_
    have hn2 : ¬ (1 + 2 * ((convs l).length : Int) < 0) := by omega
    simp only [if_neg hn2]
    refine Ev.bind (ev_eqS m.1 (by omega)) ?_
    simp only [if_true, bne_self_eq_false]
    refine Ev.step (fun k => by simp only [laws_FnExactPolygonRegion.j1, Bool.false_eq_true, if_false]; rfl) ?_
    refine Ev.bind (markR m.1 (by omega) 1 (by omega) (by omega)) (Ev.bind (heldR _ (by omega) 1 (by omega) (by omega)) ?_)
    have hn3 : ¬ (1 + 4 * (m.1.length : Int) < 0) := by omega
    simp only [if_neg hn3, if_true]
    refine Ev.bind (toS l h) (Ev.bind (Ev.const hi) (Ev.bind (ev_eqS m.1 (by omega)) ?_))
    simp only [if_true, bne_self_eq_false]
    refine Ev.step (fun k => by simp only [laws_FnExactPolygonRegion.j2, Bool.false_eq_true, if_false]; rfl) ?_
    refine Ev.bind (heldR _ (by omega) 1 (by omega) (by omega)) ?_
    simp only [if_neg hn3, if_true]
    exact Ev.now true
  · simp only [if_neg h]
    exact Ev.now true
end Go.Proofs.Ytncjjplpenjghaa.fnExactPolygonRegion

/-! ### LawFnExactPolygonRegion -/
/- FnExactPolygonRegion: for every input the law returns true and leaves its arguments as they were. Conditions: none. -/
namespace Go.Proofs.Ytncjjplpenjghaa.fnExactPolygonRegion
open Go.ChangeShapes Go.WideShapes Go.ChangeAt Go.RowKit Go.Proofs.Ytncjjplpenjghaa.P Go.Proofs.YtncjjplpenjghaaW.PrintWords Go.Proofs.YtncjjplpenjghaaW.PrintLast
set_option linter.unusedVariables false
theorem own : ownKnob Try.prog.godebug = none := by kernel_rfl
theorem laidOut : laidOutB Try.prog = true := by kernel_rfl
theorem fine29 : Try.prog.readableRec 29 = true := by kernel_rfl
theorem there29 : 29 < Try.prog.types.size := of_decide_eq_true (by kernel_rfl)
set_option maxRecDepth 100000 in
theorem lifted (os : Os) (started : os.Started) (H : Type) (enc : TypeId × Value → H) :
    ReturnsInHanded {} Try.checked os 4 .any (Rows.fnExactPolygonRegionSpec.pre6 enc Try.prog Try.f4 Rows.fnExactPolygonRegionRow.domain false) (Rows.fnExactPolygonRegionSpec.post enc Try.prog Try.f4 false true false false) := by
  refine returnsInHanded_of_change_sized (C := Try.checked) own started (by kernel_rfl) Try.func4
    (ChangeSpec.witness6 (enc := enc) (C := Try.checked) false ⟨#[], #[.slice none 0 0], []⟩ 8 (by kernel_rfl) (by kernel_rfl) (by kernel_rfl) (by kernel_rfl)) ?_
  intro W base args ds gs before hval0 hW hcnd hsz0 _
  have hval : ∀ (j : Nat) t v, Try.f4.params[j]? = some t → args[j]? = some v → Value.okWide Try.prog W .any base t v := hval0
  have hW' := hW
  obtain ⟨p, q, hA0, hV, rfl, hfz, hnd⟩ := hW
  have hA : DataW.TrodAll enc Try.prog W 0 (fun _ => true) true Try.f4.params.toList args.toList ds p := hA0
  rw [Try.params4] at hA hval
  obtain ⟨v0, vs0, d0, ds0, p0, q0, hargs, rfl, rfl, h0, r0⟩ := trodAll_cons hA
  obtain ⟨rfl, rfl, rfl⟩ := trodAll_nil r0
  obtain rfl : args = #[v0] := by cases args; simp_all
  obtain ⟨rfl, rfl⟩ := trodVars_none hV
  have lt0 : ∀ x ∈ p0, x.block < W.heap.size := by obtain ⟨m, hm⟩ := h0; exact DataW.trod_lt m _ _ _ hm
  obtain ⟨y0, ky0, iy0⟩ := opens29.arg h0
  obtain ⟨a0, len0, cap0, rfl⟩ := okWide_slice Try.underlying29 (hval 0 29 v0 rfl rfl)
  obtain ⟨A0, c0, e0, hc0, hr0⟩ := ky0
  simp only [Value.cells, List.cons.injEq, Value.slice.injEq, and_true] at e0
  obtain ⟨rfl, rfl, rfl⟩ := e0
  obtain ⟨k, hk⟩ := pure y0 iy0
  refine (laws_FnExactPolygonRegion.calls k _ _ y0 true W hr0 hc0 hk).mono ?_
  rintro e W' ⟨rfl, bel⟩
  exact ⟨_, rfl, _, _, _, [], _, [], hW', trodAll_mk1 (shut_bool Try.underlying4 _), (trodAll_cons_mk (Below.trod laidOut fine29 there29 h0 bel lt0) trodAll_mk0), rfl, bel.frame _, fun h => by cases h⟩
theorem over : Rows.fnExactPolygonRegionRow.holds Try.pinned (OpenSpec.ofChange Rows.fnExactPolygonRegionSpec) :=
  OpenClaim.holds_of_wide 4 Try.f4 rfl rfl rfl rfl rfl rfl rfl ⟨rfl, rfl, rfl, rfl, rfl⟩ rfl rfl rfl rfl rfl (by kernel_rfl) Try.func4 (by kernel_rfl)
    (of_decide_eq_true (by kernel_rfl)) (by unfold Func.isWrapper; first | (rw [if_pos (by decide +kernel)]; kernel_rfl) | (rw [if_neg (by decide +kernel)]; exact ⟨rfl, rfl⟩))
    (fun os started H enc _ => lifted os started H enc)
theorem proved : Rows.FnExactPolygonRegionSaid := over
#print axioms proved
end Go.Proofs.Ytncjjplpenjghaa.fnExactPolygonRegion
namespace Go.Proofs.Ytncjjplpenjghaa
/-- The row, under a short name, for the claim. -/
theorem fnExactPolygonRegion_holds : Rows.FnExactPolygonRegionSaid := fnExactPolygonRegion.proved
end Go.Proofs.Ytncjjplpenjghaa
