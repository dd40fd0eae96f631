/- For every input FnExactIsValidIndex returns true and leaves its arguments as they were. Conditions: none. -/
import Derived.Test.YteepckjegpnffaaWWords
import Derived.Deep.Slices
import Derived.ChangeArms
import Derived.SizedLaws
import Derived.ChangeSlices
import Derived.WideShapes
import Derived.Test.YteepckjegpnffaaMFnExactIsValidIndexc
import Derived.KernelRfl
import Derived.Test.YteepckjegpnffaaMFnExactIsValidIndexa
import Derived.Test.YteepckjegpnffaaMFnExactIsValidIndexb
import Derived.Test.YteepckjegpnffaaRows
import Derived.WalkKit
import Derived.ProofKit
import Derived.OpenShut
import Derived.ShutString
import Derived.ChangeOld
import Derived.Below
import Derived.Carry
/-! ### Opens -/
/- Reading an argument: what a value reads as, kind by kind (integers, bools, strings, slices, structs). Lemmas only. -/
set_option linter.unusedSimpArgs false
namespace Go.Proofs.Yteepckjegpnffaa
open Go.RowKit Go.Proofs.YteepckjegpnffaaW.PrintWords Go.Deep Go.WideShapes

/-- A value of type t that can be read is of kind d, and what it says meets I. -/
def Opens {α : Type} (P : Program) (t : TypeId) (d : Kd α) (I : α → Prop) : Prop :=
  ∀ (H : Type) (enc : TypeId × Value → H) (w : World) (spare : Nat → Bool) (held : Bool) (fuel : Nat) (cs : List Value) (x : DataW H × List MemPlace),
    DataW.trod enc P w 0 spare held fuel t cs = some x → ∃ y, d.K w y cs ∧ I y

theorem Opens.int {P : Program} {t : TypeId} {k : IntKind} (ht : P.underlying t = some (.int k)) : Opens P t (Kd.int k) (fun n => (Lit.int k n).wf = true) := by
  intro H enc w spare held fuel cs x h
  obtain ⟨n, rfl, _, hw⟩ := DataW.trod_int ht h
  exact ⟨n, rfl, hw⟩

theorem Opens.bool {P : Program} {t : TypeId} (ht : P.underlying t = some .bool) : Opens P t Kd.bool (fun _ => True) := by
  intro H enc w spare held fuel cs x h
  obtain ⟨n, rfl, _⟩ := DataW.trod_bool ht h
  exact ⟨n, rfl, trivial⟩

theorem Opens.string {P : Program} {t : TypeId} (ht : P.underlying t = some .string) : Opens P t Kd.string (fun s => s.size ≤ maxLen) := by
  intro H enc w spare held fuel cs x h
  obtain ⟨n, rfl, _, hw⟩ := DataW.trod_string ht h
  exact ⟨n, rfl, hw⟩

theorem Opens.imp {α : Type} {P : Program} {t : TypeId} {d : Kd α} {I J : α → Prop} (h : Opens P t d I) (hj : ∀ y, I y → J y) : Opens P t d J := by
  intro H enc w spare held fuel cs x hx
  obtain ⟨y, h1, h2⟩ := h H enc w spare held fuel cs x hx
  exact ⟨y, h1, hj y h2⟩

theorem exists_list {α : Type} {p : Nat → α → Prop} (n : Nat) (h : ∀ i, i < n → ∃ y, p i y) : ∃ l : List α, l.length = n ∧ ∀ i y, l[i]? = some y → p i y := by
  induction n with
  | zero => exact ⟨[], rfl, fun i y h => by simp at h⟩
  | succ n ih =>
    obtain ⟨l, hl, hp⟩ := ih (fun i hi => h i (by omega))
    obtain ⟨y, hy⟩ := h n (by omega)
    refine ⟨l ++ [y], by simp [hl], fun i z hz => ?_⟩
    rcases Nat.lt_or_ge i n with hi | hi
    · rw [List.getElem?_append_left (by omega)] at hz
      exact hp i z hz
    · have : i = n := by
        have := (List.getElem?_eq_some_iff.1 hz).1
        simp [hl] at this
        omega
      subst this
      rw [List.getElem?_append_right (by omega), hl] at hz
      simp at hz
      exact hz ▸ hy

theorem Opens.slice {α : Type} {P : Program} {t e : TypeId} {d : Kd α} {I : α → Prop} (ht : P.underlying t = some (.slice e)) (hc : P.cellsOf e = d.sz) (hd : Opens P e d I) :
    Opens P t (Kd.slice e d) (fun l => l.length ≤ maxLen ∧ ∀ y ∈ l, I y) := by
  intro H enc w spare held fuel cs x h
  rcases open_slice ht h with ⟨rfl, _⟩ | ⟨a, len, cap, m, n, D, Pl, rfl, hb, hl, hm, hmm, hx, hi⟩
  · exact ⟨[], ⟨none, 0, rfl, Nat.le_refl _, rfl, Nat.zero_le _, fun h => absurd h (Nat.lt_irrefl 0)⟩, by simp [maxLen], by simp⟩
  · have hlm : len ≤ m := by rw [hmm]; split <;> omega
    obtain ⟨l, hll, hp⟩ := exists_list (p := fun i y => ∃ cs', w.cells? 0 (a.add (i * P.cellsOf e)) (P.cellsOf e) = some cs' ∧ d.K w y cs' ∧ I y) len (fun i hil => by
      obtain ⟨cs', h1, h2⟩ := hi i (by omega)
      obtain ⟨y, h3, h4⟩ := hd H enc w spare held n cs' _ h2
      exact ⟨y, cs', h1, h3, h4⟩)
    refine ⟨l, ⟨some a, cap, by rw [hll], by omega, rfl, by unfold maxLen at hm; omega, fun _ => ⟨a, rfl, fun j p hj => ?_⟩⟩, by omega, fun y hy => ?_⟩
    · obtain ⟨cs', h1, h2, _⟩ := hp j p hj
      obtain ⟨_, hcl, hat⟩ := World.cells?_some h1
      refine ⟨cs', d.K_len h2, h2, fun i u hu => ?_⟩
      have hil : i < P.cellsOf e := by
        have := (List.getElem?_eq_some_iff.1 hu).1
        omega
      have h3 := hat i hil
      rw [hu, ← hc] at *
      rw [← Go.Deep.add_add]
      exact h3
    · obtain ⟨i, hi2, rfl⟩ := List.getElem_of_mem hy
      obtain ⟨_, _, _, h4⟩ := hp i _ (List.getElem?_eq_getElem hi2)
      exact h4

/-- The fields fs of a struct, whose cells begin at off. -/
def OpensF {α : Type} (P : Program) (fs : List Field) (off : Nat) (d : Kd α) (I : α → Prop) : Prop :=
  ∀ (H : Type) (enc : TypeId × Value → H) (w : World) (spare : Nat → Bool) (held : Bool) (n : Nat) (cs : List Value) (xs : List (DataW H × List MemPlace)), xs.length = fs.length →
    (∀ (i : Nat) (f : Field), fs[i]? = some f → DataW.trod enc P w 0 spare held n f.type ((cs.drop f.offset).take (P.cellsOf f.type)) = xs[i]?) →
    ∃ y, d.K w y ((cs.drop off).take d.sz) ∧ I y

theorem OpensF.one {α : Type} {P : Program} {f : Field} {off : Nat} {d : Kd α} {I : α → Prop} (ho : f.offset = off) (hc : P.cellsOf f.type = d.sz) (h : Opens P f.type d I) : OpensF P [f] off d I := by
  intro H enc w spare held n cs xs hl hf
  obtain ⟨x, rfl⟩ : ∃ x, xs = [x] := by
    match xs, hl with
    | [x], _ => exact ⟨x, rfl⟩
  have h1 := hf 0 f rfl
  rw [ho, hc] at h1
  exact h H enc w spare held n _ x h1

theorem OpensF.cons {α β : Type} {P : Program} {f : Field} {fs : List Field} {off : Nat} {a : Kd α} {b : Kd β} {I : α → Prop} {J : β → Prop} (ho : f.offset = off) (hc : P.cellsOf f.type = a.sz)
    (h : Opens P f.type a I) (hr : OpensF P fs (off + a.sz) b J) : OpensF P (f :: fs) off (Kd.pair a b) (fun y => I y.1 ∧ J y.2) := by
  intro H enc w spare held n cs xs hl hf
  obtain ⟨x, xs', rfl⟩ : ∃ x xs', xs = x :: xs' := by
    match xs, hl with
    | x :: xs', _ => exact ⟨x, xs', rfl⟩
  have h1 := hf 0 f rfl
  rw [ho, hc] at h1
  obtain ⟨y1, k1, i1⟩ := h H enc w spare held n _ x h1
  obtain ⟨y2, k2, i2⟩ := hr H enc w spare held n cs xs' (by simpa using hl) (fun i g hg => by simpa using hf (i + 1) g (by simpa using hg))
  refine ⟨(y1, y2), ⟨_, _, ?_, k1, k2⟩, i1, i2⟩
  show List.take (a.sz + b.sz) (List.drop off cs) = _
  rw [List.take_add, List.drop_drop]

theorem Opens.struct {α : Type} {P : Program} {t : TypeId} {fs : Array Field} {d : Kd α} {I : α → Prop} (ht : P.underlying t = some (.struct fs)) (hc : P.cellsOf t = d.sz) (h : OpensF P fs.toList 0 d I) : Opens P t d I := by
  intro H enc w spare held fuel cs x hx
  obtain ⟨xs, n, _, _, hlen, hl, hf⟩ := DataW.trod_struct ht hx
  obtain ⟨y, h1, h2⟩ := h H enc w spare held n cs xs (by simpa using hl) (fun i f hfi => hf i f (by simpa using hfi))
  refine ⟨y, ?_, h2⟩
  rw [List.drop_zero, ← hc, ← hlen, List.take_length] at h1
  exact h1

theorem Opens.iso {α β : Type} {P : Program} {t : TypeId} {d : Kd α} {I : α → Prop} {f : β → α} (g : α → β) (hg : ∀ x, f (g x) = x) (h : Opens P t d I) : Opens P t (Kd.iso d f) (fun y => I (f y)) := by
  intro H enc w spare held fuel cs x hx
  obtain ⟨y, h1, h2⟩ := h H enc w spare held fuel cs x hx
  exact ⟨g y, by show d.K w (f (g y)) cs; rw [hg]; exact h1, by show I (f (g y)); rw [hg]; exact h2⟩

/-- The argument itself. -/
theorem Opens.arg {α : Type} {P : Program} {t : TypeId} {d : Kd α} {I : α → Prop} (h : Opens P t d I) {H : Type} {enc : TypeId × Value → H} {w : World} {spare : Nat → Bool} {held : Bool} {v : Value} {x : DataW H} {p : List MemPlace}
    (hx : DataW.Trod enc P w 0 spare held t v x p) : ∃ y, d.K w y v.cells.toList ∧ I y := by
  obtain ⟨fuel, hf⟩ := hx
  exact h H enc w spare held fuel _ _ hf

end Go.Proofs.Yteepckjegpnffaa

/-! ### StmFnExactIsValidIndex -/
/- The pure statement of FnExactIsValidIndex, and how its arguments are read. -/
namespace Go.Proofs.Yteepckjegpnffaa.fnExactIsValidIndex
open Go.RowKit Go.Proofs.Yteepckjegpnffaa Go.Proofs.Yteepckjegpnffaa.P Go.Proofs.YteepckjegpnffaaW.PrintWords Go.Proofs.YteepckjegpnffaaW.PrintLast
structure S69 where
  f0 : (List S140)
  f1 : (List (List Int))
def k69 : Kd S69 := Kd.iso (Kd.pair (Kd.slice 140 k140) (Kd.slice 62 (Kd.slice 2 (Kd.int .i64)))) (fun x : S69 => (x.f0, x.f1))
theorem k69_open {w : World} {x : S69} {cs : List Value} (h : k69.K w x cs) : ∃ A0 c0 A1 c1, cs = [.slice A0 x.f0.length c0, .slice A1 x.f1.length c1] ∧ x.f0.length ≤ c0 ∧ k140.C w A0 x.f0.length x.f0 ∧ x.f1.length ≤ c1 ∧ (Kd.slice 2 (Kd.int .i64)).C w A1 x.f1.length x.f1 := by
  obtain ⟨_, _, rfl, ⟨A0, c0, rfl, l0, g0⟩, ⟨A1, c1, rfl, l1, g1⟩⟩ := h
  exact ⟨A0, c0, A1, c1, rfl, l0, g0, l1, g1⟩
def I2 (y : Int) : Prop := (Lit.int .i64 y).wf = true
def I85 (y : S85) : Prop := I2 y.f0 ∧ I2 y.f1 ∧ I2 y.f2 ∧ I2 y.f3
def I140 (y : S140) : Prop := I2 y.f0 ∧ I85 y.f1
def I67 (y : (List S140)) : Prop := y.length ≤ maxLen ∧ ∀ z ∈ y, I140 z
def I62 (y : (List Int)) : Prop := y.length ≤ maxLen ∧ ∀ z ∈ y, I2 z
def I40 (y : (List (List Int))) : Prop := y.length ≤ maxLen ∧ ∀ z ∈ y, I62 z
def I69 (y : S69) : Prop := I67 y.f0 ∧ I40 y.f1
theorem opens2 : Opens Try.prog 2 (Kd.int .i64) I2 := Opens.int Try.underlying2
theorem opens85 : Opens Try.prog 85 k85 I85 := (Opens.iso (fun p => (⟨p.1, p.2.1, p.2.2.1, p.2.2.2⟩ : S85)) (fun _ => rfl) (Opens.struct Try.underlying85 (by kernel_rfl) (OpensF.cons rfl (by kernel_rfl) opens2 (OpensF.cons rfl (by kernel_rfl) opens2 (OpensF.cons rfl (by kernel_rfl) opens2 (OpensF.one rfl (by kernel_rfl) opens2)))))).imp (fun _ h => h)
theorem opens140 : Opens Try.prog 140 k140 I140 := (Opens.iso (fun p => (⟨p.1, p.2⟩ : S140)) (fun _ => rfl) (Opens.struct Try.underlying140 (by kernel_rfl) (OpensF.cons rfl (by kernel_rfl) opens2 (OpensF.one rfl (by kernel_rfl) opens85)))).imp (fun _ h => h)
theorem opens67 : Opens Try.prog 67 (Kd.slice 140 k140) I67 := Opens.slice Try.underlying67 (by kernel_rfl) opens140
theorem opens62 : Opens Try.prog 62 (Kd.slice 2 (Kd.int .i64)) I62 := Opens.slice Try.underlying62 (by kernel_rfl) opens2
theorem opens40 : Opens Try.prog 40 (Kd.slice 62 (Kd.slice 2 (Kd.int .i64))) I40 := Opens.slice Try.underlying40 (by kernel_rfl) opens62
theorem opens69 : Opens Try.prog 69 k69 I69 := (Opens.iso (fun p => (⟨p.1, p.2⟩ : S69)) (fun _ => rfl) (Opens.struct Try.underlying69 (by kernel_rfl) (OpensF.cons rfl (by kernel_rfl) opens67 (OpensF.one rfl (by kernel_rfl) opens40)))).imp (fun _ h => h)
def Stm : Prop := ∀ (s0 : S69), I69 s0 →  ∃ k, laws_FnExactIsValidIndex.f k s0.f0 s0.f1 = some true
end Go.Proofs.Yteepckjegpnffaa.fnExactIsValidIndex

/-! ### Gen -/
/- Loops of the printed functions, once for all types: elementwise tests, copies, sizes, marks. -/
set_option linter.unusedVariables false
namespace Go.Proofs.Yteepckjegpnffaa.H
open Go.RowKit Go.Proofs.YteepckjegpnffaaW.PrintWords
theorem Ev.const {α : Type} {c : Option α} {a : α} (h : c = some a) : Ev (fun _ => c) a := ⟨0, fun _ _ => h⟩
theorem wrap_up (i : Nat) (h : i ≤ 1000000000000) : wrap64 ((i : Int) + 1) = ((i + 1 : Nat) : Int) := by
  unfold wrap64
  omega
section
variable {α β τ : Type} (rdf : List α → Int → α) (hrd : ∀ (l : List α) (i : Nat) (h : i < l.length), rdf l (i : Int) = l[i])
include hrd
/-- Two lists compared element by element. -/
theorem gen_eq2 (E : Nat → α → α → Option Bool) (p : α → α → Bool) (L : Nat → List α → List α → Int → Option Bool)
    (hL : ∀ k x y i, L (k + 1) x y i = if i < (x.length : Int) then (if 0 ≤ i then (if i < (y.length : Int) then ((E k (rdf x i) (rdf y i)).bind fun t => (if t = true then (L k x y (wrap64 (i + 1))) else (some false))) else none) else none) else (some true))
    (x y : List α) (hl : x.length ≤ 1000000000000) (hxy : x.length = y.length) (hE : ∀ (i : Nat) (h : i < x.length) (h' : i < y.length), Ev (fun k => E k x[i] y[i]) (p x[i] y[i])) :
    ∀ (d i : Nat), i + d = x.length → Ev (fun k => L k x y i) (((x.drop i).zip (y.drop i)).all fun q => p q.1 q.2)
  | 0, i, h => by
    refine Ev.step (f := fun _ => some true) (fun k => ?_) ?_
    · rw [hL, if_neg (by omega)]
    · rw [List.drop_eq_nil_of_le (by omega)]
      exact Ev.now true
  | d + 1, i, h => by
    have h1 : i < x.length := by omega
    have h2 : i < y.length := by omega
    rw [List.drop_eq_getElem_cons h1, List.drop_eq_getElem_cons h2]
    refine Ev.step (f := fun k => ((E k x[i] y[i]).bind fun t => (if t = true then (L k x y (((i + 1 : Nat) : Int))) else (some false)))) (fun k => ?_) ?_
    · rw [hL, if_pos (by omega), if_pos (by omega), if_pos (by omega), hrd x i h1, hrd y i h2, wrap_up i (by omega)]
    · refine Ev.bind (hE i h1 h2) ?_
      simp only [List.zip_cons_cons, List.all_cons]
      cases hp : p x[i] y[i]
      · exact Ev.now false
      · simpa using gen_eq2 E p L hL x y hl hxy hE d (i + 1) (by omega)
/-- A list is equal to itself. -/
theorem gen_eq (E : Nat → α → α → Option Bool) (L : Nat → List α → List α → Int → Option Bool)
    (hL : ∀ k x y i, L (k + 1) x y i = if i < (x.length : Int) then (if 0 ≤ i then (if i < (y.length : Int) then ((E k (rdf x i) (rdf y i)).bind fun t => (if t = true then (L k x y (wrap64 (i + 1))) else (some false))) else none) else none) else (some true))
    (x : List α) (hl : x.length ≤ 1000000000000) (hE : ∀ a ∈ x, Ev (fun k => E k a a) true) : Ev (fun k => L k x x 0) true := by
  have h := gen_eq2 rdf hrd E (fun _ _ => true) L hL x x hl rfl (fun i h _ => hE _ (List.getElem_mem h)) x.length 0 (by omega)
  have e : (((x.drop 0).zip (x.drop 0)).all fun q => (fun _ _ => true : α → α → Bool) q.1 q.2) = true := by simp
  rw [e] at h
  exact h
omit hrd in
theorem set_rep (x : List β) (z : β) (i n : Nat) (v : β) (hi : x.length = i) : (x ++ List.replicate (n + 1) z).set i v = (x ++ [v]) ++ List.replicate n z := by
  subst hi
  rw [List.set_append_right _ _ (Nat.le_refl _), Nat.sub_self, List.replicate_succ, List.set_cons_zero]
  simp
/-- A list copied into a new one, element by element. -/
theorem gen_to (T : Nat → α → Option τ) (t : α → τ) (c : τ → β) (L : Nat → List α → List β → Int → Option (List β))
    (hL : ∀ k x y i, L (k + 1) x y i = if i < (x.length : Int) then (if 0 ≤ i then ((T k (rdf x i)).bind fun b => (if i < (y.length : Int) then (L k x (y.set i.toNat (c b)) (wrap64 (i + 1))) else none)) else none) else (some y))
    (x : List α) (z : β) (hl : x.length ≤ 1000000000000) (hT : ∀ a ∈ x, Ev (fun k => T k a) (t a)) :
    ∀ (d i : Nat), i + d = x.length → Ev (fun k => L k x ((x.take i).map (fun a => c (t a)) ++ List.replicate d z) i) (x.map fun a => c (t a))
  | 0, i, h => by
    have hi : i = x.length := by omega
    subst hi
    refine Ev.step (f := fun _ => some (x.map fun a => c (t a))) (fun k => ?_) (Ev.now _)
    rw [hL, if_neg (by omega), List.take_length]
    simp
  | d + 1, i, h => by
    have h1 : i < x.length := by omega
    refine Ev.step (f := fun k => ((T k x[i]).bind fun b => (L k x (((x.take i).map (fun a => c (t a)) ++ List.replicate (d + 1) z).set i (c b)) (((i + 1 : Nat) : Int))))) (fun k => ?_) ?_
    · rw [hL, if_pos (by omega), if_pos (by omega), hrd x i h1, wrap_up i (by omega), Int.toNat_natCast]
      congr 1
      funext b
      rw [if_pos (by simp; omega)]
    · refine Ev.bind (hT _ (List.getElem_mem h1)) ?_
      have := gen_to T t c L hL x z hl hT d (i + 1) (by omega)
      rw [set_rep _ _ _ _ _ (by rw [List.length_map, List.length_take]; omega)]
      rw [List.take_succ_eq_append_getElem h1, List.map_append] at this
      exact this
/-- The same for numbers (no call). -/
theorem gen_to1 (c : α → β) (L : Nat → List α → List β → Int → Option (List β))
    (hL : ∀ k x y i, L (k + 1) x y i = if i < (x.length : Int) then (if 0 ≤ i then (if i < (y.length : Int) then (L k x (y.set i.toNat (c (rdf x i))) (wrap64 (i + 1))) else none) else none) else (some y))
    (x : List α) (z : β) (hl : x.length ≤ 1000000000000) : Ev (fun k => L k x (List.replicate x.length z) 0) (x.map c) := by
  have h := gen_to rdf hrd (fun _ a => some a) id c L (fun k x y i => by rw [hL]; rfl) x z hl (fun a _ => Ev.now a) x.length 0 (by omega)
  exact h
end
/-- A slice's size taken off what is left. -/
theorem size_off (n : Nat) (a : Int) (ha : 0 ≤ a) (ha2 : a ≤ 1048576) (hn : n ≤ 9223372036854775807) : (wrap64 (a - (n : Int)) < 0 ∨ (wrap64 (a - (n : Int)) = a - n ∧ (n : Int) ≤ a)) := by
  unfold wrap64
  omega
end Go.Proofs.Yteepckjegpnffaa.H

/-! ### IxLaw -/
/- The laws on indexes, the plain side: sizes, copies, equality. -/
set_option linter.unusedVariables false
set_option linter.unusedSimpArgs false
namespace Go.Proofs.Yteepckjegpnffaa.Q
open Go.RowKit Go.Proofs.Yteepckjegpnffaa.P Go.Proofs.Yteepckjegpnffaa.H Go.Proofs.YteepckjegpnffaaW.PrintWords Go.Proofs.YteepckjegpnffaaW.PrintLast
theorem rdE (l : List S94) (i : Nat) (h : i < l.length) : rd_T94 l (i : Int) = l[i] := by simp [rd_T94, List.getD_eq_getElem?_getD, h]
theorem rdE' (l : List S140) (i : Nat) (h : i < l.length) : rd_T140 l (i : Int) = l[i] := by simp [rd_T140, List.getD_eq_getElem?_getD, h]
theorem rdL3 (l : List (List Int)) (i : Nat) (h : i < l.length) : rd_L3 l (i : Int) = l[i] := by simp [rd_L3, List.getD_eq_getElem?_getD, h]
def BIG : Nat := 1048576
/-- What the size test leaves. -/
def Small (n : Nat) (l : List (List Int)) : Prop := n ≤ 1048576 ∧ l.length ≤ 1048576 ∧ ∀ x ∈ l, x.length ≤ 1048576
theorem ev_szSS (l : List (List Int)) (hl : l.length ≤ 1048576) (hm : ∀ x ∈ l, x.length ≤ 9223372036854775807) : ∀ (d i : Nat) (a : Int), 0 ≤ a → a ≤ 1048576 → i + d = l.length → ∃ r : Int, Ev (fun k => laws_szInt64SS.l0 k l a i) r ∧ (r < 0 ∨ (0 ≤ r ∧ r ≤ 1048576 ∧ ∀ x ∈ l.drop i, x.length ≤ 1048576))
  | 0, i, a, h0, h1, h => ⟨a, by
      refine Ev.step (f := fun _ => some a) (fun k => ?_) (Ev.now a)
      simp only [laws_szInt64SS.l0]
      rw [if_neg (by omega)], .inr ⟨h0, h1, by rw [List.drop_eq_nil_of_le (by omega)]; simp⟩⟩
  | d + 1, i, a, h0, h1, h => by
    have hi : i < l.length := by omega
    rcases size_off l[i].length a h0 h1 (hm _ (List.getElem_mem hi)) with hs | ⟨hs, hle⟩
    · refine ⟨-1, ?_, .inl (by omega)⟩
      refine Ev.step (f := fun _ => some (-1)) (fun k => ?_) (Ev.now _)
      simp only [laws_szInt64SS.l0, laws_szInt64S.f]
      rw [if_pos (by omega), if_pos (by omega), rdL3 l i hi, if_pos hs, Option.bind_some, if_pos (by omega)]
    · obtain ⟨r, hr, hc⟩ := ev_szSS l hl hm d (i + 1) (a - l[i].length) (by omega) (by omega) (by omega)
      refine ⟨r, ?_, ?_⟩
      · refine Ev.step (fun k => ?_) hr
        simp only [laws_szInt64SS.l0, laws_szInt64S.f]
        rw [if_pos (by omega), if_pos (by omega), rdL3 l i hi, hs, if_neg (by omega), Option.bind_some, if_neg (by omega), wrap_up i (by omega)]
      · rcases hc with hc | ⟨c1, c2, c3⟩
        · exact .inl hc
        · refine .inr ⟨c1, c2, ?_⟩
          rw [List.drop_eq_getElem_cons hi]
          intro x hx
          rcases List.mem_cons.1 hx with rfl | hx
          · omega
          · exact c3 x hx
theorem ev_sz (l0 : List S140) (l1 : List (List Int)) (h0 : l0.length ≤ 9223372036854775807) (h1 : l1.length ≤ 9223372036854775807) (hm : ∀ x ∈ l1, x.length ≤ 9223372036854775807) :
    ∃ r : Int, Ev (fun k => laws_szSpatialIndex.f k l0 l1 1048576) r ∧ (r < 0 ∨ Small l0.length l1) := by
  rcases size_off l0.length 1048576 (by omega) (by omega) h0 with hs | ⟨hs, hle⟩
  · refine ⟨-1, ?_, .inl (by omega)⟩
    refine Ev.congr (f := fun _ => some (-1)) (fun k => ?_) (Ev.now _)
    simp only [laws_szSpatialIndex.f, laws_szSpatialEntryS.f]
    rw [if_pos hs, Option.bind_some, if_pos (by omega)]
  · rcases size_off l1.length (1048576 - l0.length) (by omega) (by omega) h1 with ht | ⟨ht, hle2⟩
    · refine ⟨-1, ?_, .inl (by omega)⟩
      refine Ev.congr (f := fun _ => some (-1)) (fun k => ?_) (Ev.now _)
      simp only [laws_szSpatialIndex.f, laws_szSpatialEntryS.f, laws_szInt64SS.f]
      rw [hs, if_neg (by omega), Option.bind_some, if_neg (by omega), if_pos ht, Option.bind_some, if_pos (by omega)]
    · obtain ⟨r, hr, hc⟩ := ev_szSS l1 (by omega) hm l1.length 0 (1048576 - l0.length - l1.length) (by omega) (by omega) (by omega)
      refine ⟨if r < 0 then -1 else r, ?_, ?_⟩
      · refine Ev.congr (f := fun k => (laws_szInt64SS.l0 k l1 (1048576 - l0.length - l1.length) (0 : Nat)).bind fun t => if t < 0 then some (-1) else some t) (fun k => ?_) (Ev.bind hr ?_)
        · simp only [laws_szSpatialIndex.f, laws_szSpatialEntryS.f, laws_szInt64SS.f]
          rw [hs, if_neg (by omega), Option.bind_some, if_neg (by omega), ht, if_neg (by omega)]
          rfl
        · by_cases hr0 : r < 0
          · simp only [hr0, if_true]; exact Ev.now _
          · simp only [hr0, if_false]; exact Ev.now _
      · rcases hc with hc | ⟨c1, c2, c3⟩
        · rw [if_pos hc]; exact .inl (by omega)
        · exact .inr ⟨by omega, by omega, by simpa using c3⟩
/-- The entry as the program has it. -/
def toE (e : S140) : S94 := ⟨e.f0, ⟨e.f1.f0, e.f1.f1, e.f1.f2, e.f1.f3⟩⟩
theorem ev_toI (l : List Int) (hl : l.length ≤ 1048576) : Ev (fun k => laws_toInt64S.f k l) l := by
  have h := gen_to1 rd (fun l i h => by unfold rd; rw [Int.toNat_natCast, List.getD_eq_getElem?_getD, List.getElem?_eq_getElem h]; rfl) id laws_toInt64S.l0 (fun k x y i => rfl) l 0 (by omega)
  rw [List.map_id] at h
  refine Ev.congr (fun k => ?_) h
  simp only [laws_toInt64S.f]
  rw [if_pos (by omega), if_pos (by omega), Int.toNat_natCast]
theorem ev_to (l0 : List S140) (l1 : List (List Int)) (hs : Small l0.length l1) : Ev (fun k => laws_toSpatialIndex.f k l0 l1) (l0.map toE, l1) := by
  obtain ⟨h0, h1, h2⟩ := hs
  have a := gen_to rd_T140 rdE' (fun _ e => laws_toSpatialEntry.f e.f0 e.f1.f0 e.f1.f1 e.f1.f2 e.f1.f3) (fun e => (e.f0, e.f1.f0, e.f1.f1, e.f1.f2, e.f1.f3)) (fun b => (⟨b.1, ⟨b.2.1, b.2.2.1, b.2.2.2.1, b.2.2.2.2⟩⟩ : S94)) laws_toSpatialEntryS.l0 (fun k x y i => rfl) l0 z94 (by omega) (fun e _ => Ev.const rfl) l0.length 0 (by omega)
  have b := gen_to rd_L3 rdL3 laws_toInt64S.f id id laws_toInt64SS.l0 (fun k x y i => rfl) l1 [] (by omega) (fun e he => ev_toI e (h2 e he)) l1.length 0 (by omega)
  have a' : Ev (fun k => laws_toSpatialEntryS.f k l0) (l0.map toE) := by
    refine Ev.congr (fun k => ?_) a
    simp only [laws_toSpatialEntryS.f]
    rw [if_pos (by omega), if_pos (by omega), Int.toNat_natCast]
    rfl
  have b' : Ev (fun k => laws_toInt64SS.f k l1) l1 := by
    have hid : (l1.map fun a => id (id a)) = l1 := by simp
    rw [hid] at b
    refine Ev.congr (fun k => ?_) b
    simp only [laws_toInt64SS.f]
    rw [if_pos (by omega), if_pos (by omega), Int.toNat_natCast]
    rfl
  refine Ev.congr (fun k => by simp only [laws_toSpatialIndex.f]; rfl) (Ev.bind a' (Ev.bind b' ?_))
  exact Ev.now _
theorem ev_eqI (l : List Int) (hl : l.length ≤ 1048576) : Ev (fun k => laws_eqInt64S.f k l l) true := by
  have h := gen_eq rd (fun l i h => by unfold rd; rw [Int.toNat_natCast, List.getD_eq_getElem?_getD, List.getElem?_eq_getElem h]; rfl) (fun _ a b => some (decide (a = b))) laws_eqInt64S.l0 (fun k x y i => by
    simp only [laws_eqInt64S.l0, Option.bind_some, decide_eq_true_eq]) l (by omega) (fun a _ => Ev.const (by simp))
  refine Ev.congr (fun k => ?_) h
  unfold laws_eqInt64S.f
  rw [if_pos rfl]
theorem ev_eqSS (l : List (List Int)) (hl : l.length ≤ 1048576) (hm : ∀ x ∈ l, x.length ≤ 1048576) : Ev (fun k => laws_eqInt64SS.f k l l) true := by
  have h := gen_eq rd_L3 rdL3 laws_eqInt64S.f laws_eqInt64SS.l0 (fun k x y i => rfl) l (by omega) (fun a ha => ev_eqI a (hm a ha))
  refine Ev.congr (fun k => ?_) h
  unfold laws_eqInt64SS.f
  rw [if_pos rfl]
theorem ev_eqE (l : List S94) (hl : l.length ≤ 1048576) : Ev (fun k => laws_eqSpatialEntryS.f k l l) true := by
  have h := gen_eq rd_T94 rdE (fun _ a b => laws_eqSpatialEntry.f a.f0 a.f1.f0 a.f1.f1 a.f1.f2 a.f1.f3 b.f0 b.f1.f0 b.f1.f1 b.f1.f2 b.f1.f3) laws_eqSpatialEntryS.l0 (fun k x y i => rfl) l (by omega) (fun a _ => Ev.const (by simp [laws_eqSpatialEntry.f, laws_eqRect.f]))
  refine Ev.congr (fun k => ?_) h
  unfold laws_eqSpatialEntryS.f
  rw [if_pos rfl]
theorem ev_eq (l : List S94) (b : List (List Int)) (hs : Small l.length b) : Ev (fun k => laws_eqSpatialIndex.f k l b l b) true := by
  refine Ev.congr (fun k => by simp only [laws_eqSpatialIndex.f]; rfl) (Ev.bind (ev_eqE l hs.1) ?_)
  simp only [if_true]
  refine Ev.bind (ev_eqSS b hs.2.1 hs.2.2) ?_
  simp only [if_true]
  exact Ev.now _
theorem small_of {n : Nat} {b : List (List Int)} (hs : Small n b) : small b = true := by
  unfold small
  rw [Bool.and_eq_true, decide_eq_true_eq, List.all_eq_true]
  exact ⟨by have := hs.2.1; omega, fun x hx => by rw [decide_eq_true_eq]; have := hs.2.2 x hx; omega⟩
theorem spec_vix_f {n : Nat} (l : List S94) {b : List (List Int)} (hs : Small n b) : spec_IsValidIndex.f l b = some (vix l b) := by unfold spec_IsValidIndex.f; rw [if_pos (small_of hs)]
theorem impl_vix_f {n : Nat} (l : List S94) {b : List (List Int)} (hs : Small n b) : impl_IsValidIndex.f l b = some (vix l b) := by unfold impl_IsValidIndex.f; rw [if_pos (small_of hs)]
end Go.Proofs.Yteepckjegpnffaa.Q

/-! ### PureFnExactIsValidIndex -/
/- FnExactIsValidIndex: the pure part. -/
set_option linter.unusedVariables false
namespace Go.Proofs.Yteepckjegpnffaa.fnExactIsValidIndex
open Go.RowKit Go.Proofs.Yteepckjegpnffaa.P Go.Proofs.Yteepckjegpnffaa.Q Go.Proofs.Yteepckjegpnffaa.H Go.Proofs.YteepckjegpnffaaW.PrintWords Go.Proofs.YteepckjegpnffaaW.PrintLast
theorem pure : Stm := by
  intro s0 hI
  obtain ⟨⟨h0, _⟩, ⟨h1, h2⟩⟩ := hI
  obtain ⟨r, hr, hc⟩ := ev_sz s0.f0 s0.f1 h0 h1 (fun x hx => (h2 x hx).1)
  refine Ev.rounds (Ev.congr (fun k => by unfold laws_FnExactIsValidIndex.f; rfl) (Ev.bind hr ?_))
  by_cases hneg : r < 0
  · simp only [hneg, if_true]
    exact Ev.now _
  · simp only [hneg, if_false]
    have hs := hc.resolve_left hneg
    have hs2 : Small (s0.f0.map toE).length s0.f1 := by rw [List.length_map]; exact hs
    refine Ev.bind (ev_to _ _ hs) (Ev.bind (Ev.const (spec_vix_f _ hs)) (Ev.bind (ev_to _ _ hs) (Ev.bind (Ev.const (impl_vix_f _ hs)) ?_)))
    simp only [bne_self_eq_false, Bool.false_eq_true, if_false]
    refine Ev.bind (ev_to _ _ hs) (Ev.bind (ev_eq _ _ hs2) ?_)
    simp only [if_true]
    exact Ev.now _
end Go.Proofs.Yteepckjegpnffaa.fnExactIsValidIndex

/-! ### LawFnExactIsValidIndex -/
/- FnExactIsValidIndex: for every input the law returns true and leaves its arguments as they were. Conditions: none. -/
namespace Go.Proofs.Yteepckjegpnffaa.fnExactIsValidIndex
open Go.ChangeShapes Go.WideShapes Go.ChangeAt Go.RowKit Go.Proofs.Yteepckjegpnffaa.P Go.Proofs.YteepckjegpnffaaW.PrintWords Go.Proofs.YteepckjegpnffaaW.PrintLast
set_option linter.unusedVariables false
theorem own : ownKnob Try.prog.godebug = none := by kernel_rfl
theorem laidOut : laidOutB Try.prog = true := by kernel_rfl
theorem fine69 : Try.prog.readableRec 69 = true := by kernel_rfl
theorem there69 : 69 < Try.prog.types.size := of_decide_eq_true (by kernel_rfl)
set_option maxRecDepth 100000 in
theorem lifted (os : Os) (started : os.Started) (H : Type) (enc : TypeId × Value → H) :
    ReturnsInHanded {} Try.checked os 7 .any (Rows.fnExactIsValidIndexSpec.pre6 enc Try.prog Try.f7 Rows.fnExactIsValidIndexRow.domain false) (Rows.fnExactIsValidIndexSpec.post enc Try.prog Try.f7 false true false false) := by
  refine returnsInHanded_of_change_sized (C := Try.checked) own started (by kernel_rfl) Try.func7
    (ChangeSpec.witness6 (enc := enc) (C := Try.checked) false ⟨#[], #[.agg #[.slice none 0 0, .slice none 0 0]], []⟩ 8 (by kernel_rfl) (by kernel_rfl) (by kernel_rfl) (by kernel_rfl)) ?_
  intro W base args ds gs before hval0 hW hcnd hsz0 _
  have hval : ∀ (j : Nat) t v, Try.f7.params[j]? = some t → args[j]? = some v → Value.okWide Try.prog W .any base t v := hval0
  have hW' := hW
  obtain ⟨p, q, hA0, hV, rfl, hfz, hnd⟩ := hW
  have hA : DataW.TrodAll enc Try.prog W 0 (fun _ => true) true Try.f7.params.toList args.toList ds p := hA0
  rw [Try.params7] at hA hval
  obtain ⟨v0, vs0, d0, ds0, p0, q0, hargs, rfl, rfl, h0, r0⟩ := trodAll_cons hA
  obtain ⟨rfl, rfl, rfl⟩ := trodAll_nil r0
  obtain rfl : args = #[v0] := by cases args; simp_all
  obtain ⟨rfl, rfl⟩ := trodVars_none hV
  have lt0 : ∀ x ∈ p0, x.block < W.heap.size := by obtain ⟨m, hm⟩ := h0; exact DataW.trod_lt m _ _ _ hm
  obtain ⟨y0, ky0, iy0⟩ := opens69.arg h0
  obtain ⟨cs0, rfl, _⟩ := okWide_struct Try.underlying69 (hval 0 69 v0 rfl rfl)
  obtain ⟨A0_0, c0_0, A0_1, c0_1, e0, hc0_0, hr0_0, hc0_1, hr0_1⟩ := k69_open ky0
  obtain ⟨l0⟩ := cs0
  simp only [Value.cells] at e0
  subst e0
  obtain ⟨k, hk⟩ := pure y0 iy0
  refine (laws_FnExactIsValidIndex.calls k _ _ y0.f0 _ _ y0.f1 true W hr0_0 hc0_0 hr0_1 hc0_1 hk).mono ?_
  rintro e W' ⟨rfl, bel⟩
  exact ⟨_, rfl, _, _, _, [], _, [], hW', trodAll_mk1 (shut_bool Try.underlying4 _), (trodAll_cons_mk (Below.trod laidOut fine69 there69 h0 bel lt0) trodAll_mk0), rfl, bel.frame _, fun h => by cases h⟩
theorem over : Rows.fnExactIsValidIndexRow.holds Try.pinned (OpenSpec.ofChange Rows.fnExactIsValidIndexSpec) :=
  OpenClaim.holds_of_wide 7 Try.f7 rfl rfl rfl rfl rfl rfl rfl ⟨rfl, rfl, rfl, rfl, rfl⟩ rfl rfl rfl rfl rfl (by kernel_rfl) Try.func7 (by kernel_rfl)
    (of_decide_eq_true (by kernel_rfl)) (by unfold Func.isWrapper; first | (rw [if_pos (by decide +kernel)]; kernel_rfl) | (rw [if_neg (by decide +kernel)]; exact ⟨rfl, rfl⟩))
    (fun os started H enc _ => lifted os started H enc)
theorem proved : Rows.FnExactIsValidIndexSaid := over
#print axioms proved
end Go.Proofs.Yteepckjegpnffaa.fnExactIsValidIndex
namespace Go.Proofs.Yteepckjegpnffaa
/-- The row, under a short name, for the claim. -/
theorem fnExactIsValidIndex_holds : Rows.FnExactIsValidIndexSaid := fnExactIsValidIndex.proved
end Go.Proofs.Yteepckjegpnffaa
