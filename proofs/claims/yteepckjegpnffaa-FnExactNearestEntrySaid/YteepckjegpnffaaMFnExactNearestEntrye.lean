/- For every input FnExactNearestEntry returns true and leaves its arguments as they were. Conditions: none. -/
import Derived.Test.YteepckjegpnffaaMFnExactNearestEntryd
import Derived.Test.YteepckjegpnffaaMFnExactNearestEntryc
import Derived.Test.YteepckjegpnffaaRows
import Derived.WalkKit
import Derived.ProofKit
import Derived.OpenShut
import Derived.ShutString
import Derived.ChangeOld
import Derived.Below
import Derived.SizedLaws
import Derived.Carry
/-! ### IxNear -/
/- NearestEntry, the plain side: both programs answer the first of the nearest entries. -/
set_option linter.unusedVariables false
set_option linter.unusedSimpArgs false
namespace Go.Proofs.Yteepckjegpnffaa.Q
open Go.RowKit Go.Proofs.Yteepckjegpnffaa.P Go.Proofs.Yteepckjegpnffaa.H Go.Proofs.YteepckjegpnffaaW.PrintWords Go.Proofs.YteepckjegpnffaaW.PrintLast
def un (p0 p1 : Int) : Bool := decide (-40 ≤ p0 ∧ p0 ≤ 39 ∧ -40 ≤ p1 ∧ p1 ≤ 39)
theorem impl_un (p0 p1 : Int) : impl_isUnitCell.f p0 p1 = some (un p0 p1) := by
  unfold impl_isUnitCell.f impl_within.f un
  by_cases a : -40 ≤ p0 <;> by_cases b : p0 ≤ 39 <;> by_cases c : -40 ≤ p1 <;> simp [a, b, c]
theorem spec_un (p0 p1 : Int) : spec_l09Unit.f p0 p1 = some (un p0 p1) := by
  unfold spec_l09Unit.f spec_l09In.f un
  by_cases a : -40 ≤ p0 <;> by_cases b : p0 ≤ 39 <;> by_cases c : -40 ≤ p1 <;> simp [a, b, c]
/-- The distance of a unit cell and a box. -/
def dst (p0 p1 : Int) (r : S65) : Int := max (max (max (max 0 (p0 - r.f2 + 1)) (r.f0 - p0)) (p1 - r.f3 + 1)) (r.f1 - p1)
theorem un_b {p0 p1 : Int} (h : un p0 p1 = true) : -40 ≤ p0 ∧ p0 ≤ 39 ∧ -40 ≤ p1 ∧ p1 ≤ 39 := of_decide_eq_true h
theorem okR_b {r : S65} (h : okR r = true) : -40 ≤ r.f0 ∧ r.f0 < r.f2 ∧ r.f2 ≤ 40 ∧ -40 ≤ r.f1 ∧ r.f1 < r.f3 ∧ r.f3 ≤ 40 := of_decide_eq_true h
theorem impl_dst {p0 p1 : Int} {r : S65} (hp : un p0 p1 = true) (hr : okR r = true) : impl_cellDistance.f r.f0 r.f1 r.f2 r.f3 p0 p1 (wrap64 (p0 + 1)) (wrap64 (p1 + 1)) = some (dst p0 p1 r) := by
  have := un_b hp
  have := okR_b hr
  unfold impl_cellDistance.f dst
  rw [w64 (x := p0 + 1) (by omega) (by omega), w64 (x := p1 + 1) (by omega) (by omega), w64 (x := p0 - r.f2) (by omega) (by omega), w64 (x := p0 - r.f2 + 1) (by omega) (by omega), w64 (x := r.f0 - (p0 + 1)) (by omega) (by omega), w64 (x := r.f0 - (p0 + 1) + 1) (by omega) (by omega), w64 (x := p1 - r.f3) (by omega) (by omega), w64 (x := p1 - r.f3 + 1) (by omega) (by omega), w64 (x := r.f1 - (p1 + 1)) (by omega) (by omega), w64 (x := r.f1 - (p1 + 1) + 1) (by omega) (by omega)]
  congr 1
  unfold P.mx
  (repeat' split) <;> omega
theorem spec_dst {p0 p1 : Int} {r : S65} (hp : un p0 p1 = true) (hr : okR r = true) : spec_l11Distance.f p0 p1 r.f0 r.f1 r.f2 r.f3 = some (dst p0 p1 r) := by
  have := un_b hp
  have := okR_b hr
  unfold spec_l11Distance.f dst
  rw [w64 (x := r.f0 - p0) (by omega) (by omega), w64 (x := p0 - r.f2) (by omega) (by omega), w64 (x := p0 - r.f2 + 1) (by omega) (by omega), w64 (x := r.f1 - p1) (by omega) (by omega), w64 (x := p1 - r.f3) (by omega) (by omega), w64 (x := p1 - r.f3 + 1) (by omega) (by omega)]
  congr 1
  unfold P.mx
  (repeat' split) <;> omega
theorem dst_0 (p0 p1 : Int) (r : S65) : 0 ≤ dst p0 p1 r := by unfold dst; omega
def nst (p0 p1 : Int) (b : Int × Int) (e : S94) : Int × Int := if b.2 < 0 then (e.f0, dst p0 p1 e.f1) else if dst p0 p1 e.f1 < b.2 then (e.f0, dst p0 p1 e.f1) else b
/-- The first of the nearest entries and its distance. -/
def near (l : List S94) (p0 p1 : Int) : Int × Int := l.foldl (nst p0 p1) (0, -1)
def nearR (l : List S94) (b : List (List Int)) (p0 p1 : Int) : Int × Int := if vix l b = true ∧ un p0 p1 = true ∧ l ≠ [] then near l p0 p1 else (0, -1)
section
variable {l : List S94} {p0 p1 : Int} (hl : l.length ≤ 1000000) (hp : un p0 p1 = true) (hok : ∀ e ∈ l, okR e.f1 = true)
include hl hp hok
theorem ev_impl_near : ∀ (d i : Nat) (b : Int × Int), i + d = l.length → Ev (fun k => impl_NearestEntry.l0 k b.1 b.2 l l.length i p0 p1) ((l.drop i).foldl (nst p0 p1) b)
  | 0, i, b, h => by
    rw [List.drop_eq_nil_of_le (by omega)]
    refine Ev.step (f := fun _ => some b) (fun k => ?_) (Ev.now b)
    simp only [impl_NearestEntry.l0]
    rw [if_neg (by omega)]
  | d + 1, i, b, h => by
    have hi : i < l.length := by omega
    rw [List.drop_eq_getElem_cons hi, List.foldl_cons]
    refine Ev.step (fun k => ?_) (ev_impl_near d (i + 1) (nst p0 p1 b l[i]) (by omega))
    simp only [impl_NearestEntry.l0]
    rw [if_pos (by omega), if_pos (by omega), if_pos (by omega), rdE l i hi, impl_dst hp (hok _ (List.getElem_mem hi)), Option.bind_some, wrap_up i (by omega)]
    unfold nst
    by_cases h1 : b.2 < 0
    · rw [if_pos h1, if_pos h1]
    · rw [if_neg h1, if_neg h1]
      by_cases h2 : dst p0 p1 l[i].f1 < b.2
      · rw [if_pos h2, if_pos h2]
      · rw [if_neg h2, if_neg h2]
theorem ev_spec_near (b : List (List Int)) : ∀ (d i j : Nat) (hj : j < l.length), i + d = l.length → Ev (fun k => spec_NearestEntry.l0 k j i l b p0 p1) ((l.drop i).foldl (nst p0 p1) (l[j].f0, dst p0 p1 l[j].f1))
  | 0, i, j, hj, h => by
    rw [List.drop_eq_nil_of_le (by omega)]
    refine Ev.step (f := fun _ => some (l[j].f0, dst p0 p1 l[j].f1)) (fun k => ?_) (Ev.now _)
    simp only [spec_NearestEntry.l0]
    rw [if_neg (by omega), if_pos (by omega), if_pos (by omega), rdE l j hj, spec_dst hp (hok _ (List.getElem_mem hj)), Option.bind_some]
  | d + 1, i, j, hj, h => by
    have hi : i < l.length := by omega
    rw [List.drop_eq_getElem_cons hi, List.foldl_cons]
    have hd := dst_0 p0 p1 l[j].f1
    by_cases h2 : dst p0 p1 l[i].f1 < dst p0 p1 l[j].f1
    · have hn : nst p0 p1 (l[j].f0, dst p0 p1 l[j].f1) l[i] = (l[i].f0, dst p0 p1 l[i].f1) := by
        unfold nst
        simp only
        rw [if_neg (by omega), if_pos h2]
      rw [hn]
      refine Ev.step (fun k => ?_) (ev_spec_near b d (i + 1) i hi (by omega))
      simp only [spec_NearestEntry.l0]
      rw [if_pos (by omega), if_pos (by omega), rdE l i hi, spec_dst hp (hok _ (List.getElem_mem hi)), Option.bind_some, if_pos (by omega), if_pos (by omega), rdE l j hj, spec_dst hp (hok _ (List.getElem_mem hj)), Option.bind_some, wrap_up i (by omega), if_pos h2]
    · have hn : nst p0 p1 (l[j].f0, dst p0 p1 l[j].f1) l[i] = (l[j].f0, dst p0 p1 l[j].f1) := by
        unfold nst
        simp only
        rw [if_neg (by omega), if_neg h2]
      rw [hn]
      refine Ev.step (fun k => ?_) (ev_spec_near b d (i + 1) j hj (by omega))
      simp only [spec_NearestEntry.l0]
      rw [if_pos (by omega), if_pos (by omega), rdE l i hi, spec_dst hp (hok _ (List.getElem_mem hi)), Option.bind_some, if_pos (by omega), if_pos (by omega), rdE l j hj, spec_dst hp (hok _ (List.getElem_mem hj)), Option.bind_some, wrap_up i (by omega), if_neg h2]
end
theorem vix_ok {l : List S94} {b : List (List Int)} (h : vix l b = true) : l.length ≤ 40 ∧ (∀ e ∈ l, okR e.f1 = true) ∧ b = made l := by
  unfold vix at h
  rw [Bool.and_eq_true, Bool.and_eq_true, decide_eq_true_eq, decide_eq_true_eq, List.all_eq_true] at h
  exact ⟨h.1.1, okAt_box (fun j hj => h.1.2 j (List.mem_range.2 hj)), h.2⟩
theorem ev_impl_nearR {n : Nat} (l : List S94) {b : List (List Int)} (hs : Small n b) (p0 p1 : Int) : Ev (fun k => impl_NearestEntry.f k l b p0 p1) (nearR l b p0 p1) := by
  have hj : ∀ c : Bool, c = true → nearR l b p0 p1 = (0, -1) → Ev (fun k => impl_NearestEntry.j0 k c l b p0 p1) (nearR l b p0 p1) := by
    intro c hc hr
    subst hc
    rw [hr]
    refine Ev.step (f := fun _ => some (0, -1)) (fun k => ?_) (Ev.now _)
    simp only [impl_NearestEntry.j0]
    rfl
  refine Ev.congr (fun k => by unfold impl_NearestEntry.f; rfl) (Ev.bind (Ev.const (impl_vix_f l hs)) ?_)
  cases hv : vix l b with
  | false =>
    simp only [Bool.false_eq_true, if_false]
    exact hj true rfl (by unfold nearR; rw [if_neg (by simp [hv])])
  | true =>
    simp only [if_true]
    refine Ev.bind (Ev.const (impl_un p0 p1)) ?_
    cases hu : un p0 p1 with
    | false =>
      simp only [Bool.false_eq_true, if_false]
      exact hj true rfl (by unfold nearR; rw [if_neg (by simp [hu])])
    | true =>
      simp only [if_true]
      by_cases hn : l = []
      · subst hn
        exact hj _ rfl (by unfold nearR; rw [if_neg (by simp)])
      · have hc : ((l.length : Int) == 0) = false := by
          have : l.length ≠ 0 := fun e => hn (List.eq_nil_of_length_eq_zero e)
          rw [beq_eq_false_iff_ne]
          omega
        rw [hc]
        obtain ⟨h40, hok, _⟩ := vix_ok hv
        have h := ev_impl_near (by omega) hu hok l.length 0 (0, -1) (by omega)
        have hr : nearR l b p0 p1 = near l p0 p1 := by unfold nearR; rw [if_pos ⟨hv, hu, hn⟩]
        rw [hr]
        refine Ev.step (fun k => ?_) h
        simp only [impl_NearestEntry.j0]
        rfl
theorem ev_spec_nearR {n : Nat} (l : List S94) {b : List (List Int)} (hs : Small n b) (p0 p1 : Int) : Ev (fun k => spec_NearestEntry.f k l b p0 p1) (nearR l b p0 p1) := by
  have hj : ∀ c : Bool, c = true → nearR l b p0 p1 = (0, -1) → Ev (fun k => spec_NearestEntry.j0 k c l b p0 p1) (nearR l b p0 p1) := by
    intro c hc hr
    subst hc
    rw [hr]
    refine Ev.step (f := fun _ => some (0, -1)) (fun k => ?_) (Ev.now _)
    simp only [spec_NearestEntry.j0]
    rfl
  refine Ev.congr (fun k => by unfold spec_NearestEntry.f; rfl) (Ev.bind (Ev.const (spec_vix_f l hs)) ?_)
  cases hv : vix l b with
  | false =>
    simp only [Bool.false_eq_true, if_false]
    exact hj true rfl (by unfold nearR; rw [if_neg (by simp [hv])])
  | true =>
    simp only [if_true]
    refine Ev.bind (Ev.const (spec_un p0 p1)) ?_
    cases hu : un p0 p1 with
    | false =>
      simp only [Bool.false_eq_true, if_false]
      exact hj true rfl (by unfold nearR; rw [if_neg (by simp [hu])])
    | true =>
      simp only [if_true]
      by_cases hn : l = []
      · subst hn
        exact hj _ rfl (by unfold nearR; rw [if_neg (by simp)])
      · have hc : ((l.length : Int) == 0) = false := by
          have : l.length ≠ 0 := fun e => hn (List.eq_nil_of_length_eq_zero e)
          rw [beq_eq_false_iff_ne]
          omega
        rw [hc]
        obtain ⟨h40, hok, _⟩ := vix_ok hv
        obtain ⟨e, l', rfl⟩ : ∃ e l', l = e :: l' := List.exists_cons_of_ne_nil hn
        have h := ev_spec_near (by omega) hu hok b l'.length 1 0 (by simp) (by simp; omega)
        have hr : nearR (e :: l') b p0 p1 = near (e :: l') p0 p1 := by unfold nearR; rw [if_pos ⟨hv, hu, hn⟩]
        rw [hr]
        have hf : near (e :: l') p0 p1 = (((e :: l').drop 1).foldl (nst p0 p1) (((e :: l')[0]).f0, dst p0 p1 ((e :: l')[0]).f1)) := by
          unfold near
          rw [List.foldl_cons]
          rfl
        rw [hf]
        refine Ev.step (fun k => ?_) h
        simp only [spec_NearestEntry.j0]
        rfl
end Go.Proofs.Yteepckjegpnffaa.Q

/-! ### PureFnExactNearestEntry -/
/- FnExactNearestEntry: the pure part. -/
set_option linter.unusedVariables false
namespace Go.Proofs.Yteepckjegpnffaa.fnExactNearestEntry
open Go.RowKit Go.Proofs.Yteepckjegpnffaa.P Go.Proofs.Yteepckjegpnffaa.Q Go.Proofs.Yteepckjegpnffaa.H Go.Proofs.YteepckjegpnffaaW.PrintWords Go.Proofs.YteepckjegpnffaaW.PrintLast
theorem pure : Stm := by
  intro s0 s1 hI hP
  obtain ⟨⟨h0, _⟩, ⟨h1, h2⟩⟩ := hI
  obtain ⟨r, hr, hc⟩ := ev_sz s0.f0 s0.f1 h0 h1 (fun x hx => (h2 x hx).1)
  refine Ev.rounds (Ev.congr (fun k => by unfold laws_FnExactNearestEntry.f; rfl) (Ev.bind hr ?_))
  by_cases hneg : r < 0
  · simp only [hneg, if_true]
    exact Ev.now _
  · simp only [hneg, if_false]
    have hs := hc.resolve_left hneg
    have hs2 : Small (s0.f0.map toE).length s0.f1 := by rw [List.length_map]; exact hs
    refine Ev.bind (ev_to _ _ hs) (Ev.bind (Ev.const rfl) (Ev.bind (ev_spec_nearR _ hs _ _) (Ev.bind (ev_to _ _ hs) (Ev.bind (Ev.const rfl) (Ev.bind (ev_impl_nearR _ hs _ _) ?_)))))
    simp only [if_true, bne_self_eq_false]
    refine Ev.step (fun k => by simp only [laws_FnExactNearestEntry.j0]; rfl) ?_
    simp only [Bool.false_eq_true, if_false]
    refine Ev.bind (ev_to _ _ hs) (Ev.bind (ev_eq _ _ hs2) ?_)
    simp only [if_true]
    exact Ev.now _
end Go.Proofs.Yteepckjegpnffaa.fnExactNearestEntry

/-! ### LawFnExactNearestEntry -/
/- FnExactNearestEntry: for every input the law returns true and leaves its arguments as they were. Conditions: none. -/
namespace Go.Proofs.Yteepckjegpnffaa.fnExactNearestEntry
open Go.ChangeShapes Go.WideShapes Go.ChangeAt Go.RowKit Go.Proofs.Yteepckjegpnffaa.P Go.Proofs.YteepckjegpnffaaW.PrintWords Go.Proofs.YteepckjegpnffaaW.PrintLast
set_option linter.unusedVariables false
theorem own : ownKnob Try.prog.godebug = none := by kernel_rfl
theorem laidOut : laidOutB Try.prog = true := by kernel_rfl
theorem fine69 : Try.prog.readableRec 69 = true := by kernel_rfl
theorem there69 : 69 < Try.prog.types.size := of_decide_eq_true (by kernel_rfl)
theorem fine74 : Try.prog.readableRec 74 = true := by kernel_rfl
theorem there74 : 74 < Try.prog.types.size := of_decide_eq_true (by kernel_rfl)
set_option maxRecDepth 100000 in
theorem lifted (os : Os) (started : os.Started) (H : Type) (enc : TypeId × Value → H) :
    ReturnsInHanded {} Try.checked os 8 .any (Rows.fnExactNearestEntrySpec.pre6 enc Try.prog Try.f8 Rows.fnExactNearestEntryRow.domain false) (Rows.fnExactNearestEntrySpec.post enc Try.prog Try.f8 false true false false) := by
  refine returnsInHanded_of_change_sized (C := Try.checked) own started (by kernel_rfl) Try.func8
    (ChangeSpec.witness6 (enc := enc) (C := Try.checked) false ⟨#[], #[.agg #[.slice none 0 0, .slice none 0 0], .agg #[.int .i64 0, .int .i64 0]], []⟩ 8 (by kernel_rfl) (by kernel_rfl) (by kernel_rfl) (by kernel_rfl)) ?_
  intro W base args ds gs before hval0 hW hcnd hsz0 _
  have hval : ∀ (j : Nat) t v, Try.f8.params[j]? = some t → args[j]? = some v → Value.okWide Try.prog W .any base t v := hval0
  have hW' := hW
  obtain ⟨p, q, hA0, hV, rfl, hfz, hnd⟩ := hW
  have hA : DataW.TrodAll enc Try.prog W 0 (fun _ => true) true Try.f8.params.toList args.toList ds p := hA0
  rw [Try.params8] at hA hval
  obtain ⟨v0, vs0, d0, ds0, p0, q0, hargs, rfl, rfl, h0, r0⟩ := trodAll_cons hA
  obtain ⟨v1, vs1, d1, ds1, p1, q1, rfl, rfl, rfl, h1, r1⟩ := trodAll_cons r0
  obtain ⟨rfl, rfl, rfl⟩ := trodAll_nil r1
  obtain rfl : args = #[v0, v1] := by cases args; simp_all
  obtain ⟨rfl, rfl⟩ := trodVars_none hV
  have lt0 : ∀ x ∈ p0, x.block < W.heap.size := by obtain ⟨m, hm⟩ := h0; exact DataW.trod_lt m _ _ _ hm
  obtain ⟨y0, ky0, iy0⟩ := opens69.arg h0
  obtain ⟨cs0, rfl, _⟩ := okWide_struct Try.underlying69 (hval 0 69 v0 rfl rfl)
  obtain ⟨A0_0, c0_0, A0_1, c0_1, e0, hc0_0, hr0_0, hc0_1, hr0_1⟩ := k69_open ky0
  obtain ⟨l0⟩ := cs0
  simp only [Value.cells] at e0
  subst e0
  have lt1 : ∀ x ∈ p1, x.block < W.heap.size := by obtain ⟨m, hm⟩ := h1; exact DataW.trod_lt m _ _ _ hm
  obtain ⟨y1, ky1, iy1⟩ := opens74.arg h1
  obtain ⟨cs1, rfl, _⟩ := okWide_struct Try.underlying74 (hval 1 74 v1 rfl rfl)
  have e1 := k74_open ky1
  obtain ⟨l1⟩ := cs1
  simp only [Value.cells] at e1
  subst e1
  obtain ⟨k, hk⟩ := pure y0 y1 iy0 iy1
  refine (laws_FnExactNearestEntry.calls k _ _ y0.f0 _ _ y0.f1 y1.f0 y1.f1 true W hr0_0 hc0_0 hr0_1 hc0_1 hk).mono ?_
  rintro e W' ⟨rfl, bel⟩
  exact ⟨_, rfl, _, _, _, [], _, [], hW', trodAll_mk1 (shut_bool Try.underlying4 _), (trodAll_cons_mk (Below.trod laidOut fine69 there69 h0 bel lt0) (trodAll_cons_mk (Below.trod laidOut fine74 there74 h1 bel lt1) trodAll_mk0)), rfl, bel.frame _, fun h => by cases h⟩
theorem over : Rows.fnExactNearestEntryRow.holds Try.pinned (OpenSpec.ofChange Rows.fnExactNearestEntrySpec) :=
  OpenClaim.holds_of_wide 8 Try.f8 rfl rfl rfl rfl rfl rfl rfl ⟨rfl, rfl, rfl, rfl, rfl⟩ rfl rfl rfl rfl rfl (by kernel_rfl) Try.func8 (by kernel_rfl)
    (of_decide_eq_true (by kernel_rfl)) (by unfold Func.isWrapper; first | (rw [if_pos (by decide +kernel)]; kernel_rfl) | (rw [if_neg (by decide +kernel)]; exact ⟨rfl, rfl⟩))
    (fun os started H enc _ => lifted os started H enc)
theorem proved : Rows.FnExactNearestEntrySaid := over
#print axioms proved
end Go.Proofs.Yteepckjegpnffaa.fnExactNearestEntry
namespace Go.Proofs.Yteepckjegpnffaa
/-- The row, under a short name, for the claim. -/
theorem fnExactNearestEntry_holds : Rows.FnExactNearestEntrySaid := fnExactNearestEntry.proved
end Go.Proofs.Yteepckjegpnffaa
