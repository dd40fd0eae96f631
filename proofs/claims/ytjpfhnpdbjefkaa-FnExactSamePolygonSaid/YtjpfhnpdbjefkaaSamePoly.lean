/- SamePolygon, the program's: proved by hand over its callees. -/
import Derived.Test.YtjpfhnpdbjefkaaQPoly
import Derived.Test.YtjpfhnpdbjefkaaPx30
import Derived.Lib.Hide
import Derived.Outline
import Derived.IntWalk
import Derived.Deep.QuietTactic
import Derived.BigQuiet
set_option linter.unusedVariables false
set_option linter.unusedSimpArgs false
namespace Go.Proofs.Ytjpfhnpdbjefkaa.Q
open Go.RowKit Go.Proofs.Ytjpfhnpdbjefkaa.P Go.Proofs.YtjpfhnpdbjefkaaW.PrintWords Go.Proofs.YtjpfhnpdbjefkaaW.PrintLast
instance : DecidableEq S47 := fun a b => by
  rcases a with ⟨a0, a1⟩; rcases b with ⟨b0, b1⟩
  exact decidable_of_iff (a0 = b0 ∧ a1 = b1) (by simp)
theorem eqP_loop (p q : List S47) (h : p.length = q.length) (hl : p.length ≤ 1048576) (d : Nat) : ∀ i : Nat, i + d = p.length →
    Ev (fun k => impl_Point.l0 k p q p.length i) (decide (p.drop i = q.drop i)) := by
  induction d with
  | zero =>
    intro i hi
    refine Ev.step (f := fun _ => some _) (fun k => ?_) (Ev.now _)
    simp only [impl_Point.l0]
    rw [if_neg (by omega), List.drop_of_length_le (by omega), List.drop_of_length_le (by omega)]
    simp
  | succ d ih =>
    intro i hi
    have e1 : p.drop i = p[i]'(by omega) :: p.drop (i + 1) := List.drop_eq_getElem_cons (by omega)
    have e2 : q.drop i = q[i]'(by omega) :: q.drop (i + 1) := List.drop_eq_getElem_cons (by omega)
    have r1 := rd47_get p i (by omega)
    have r2 := rd47_get q i (by omega)
    by_cases hx : p[i]'(by omega) = q[i]'(by omega)
    · have e : decide (p.drop i = q.drop i) = decide (p.drop (i + 1) = q.drop (i + 1)) := by
        rw [e1, e2, hx, decide_eq_decide]
        exact ⟨fun h => (List.cons.inj h).2, fun h => by rw [h]⟩
      rw [e]
      refine Ev.step (fun k => ?_) (ih (i + 1) (by omega))
      simp only [impl_Point.l0]
      rw [if_pos (by omega), if_pos (by omega), if_pos (by omega), if_pos (by omega), r1, r2, hx, w64 (by omega) (by omega)]
      simp
    · have e : decide (p.drop i = q.drop i) = false := by
        rw [e1, e2, decide_eq_false_iff_not]
        exact fun h => hx (List.cons.inj h).1
      rw [e]
      refine Ev.step (f := fun _ => some false) (fun k => ?_) (Ev.now false)
      simp only [impl_Point.l0]
      rw [if_pos (by omega), if_pos (by omega), if_pos (by omega), if_pos (by omega), r1, r2, if_pos]
      generalize p[i]'(by omega) = a at hx
      generalize q[i]'(by omega) = b at hx
      rcases a with ⟨a0, a1⟩; rcases b with ⟨b0, b1⟩
      simp at hx
      by_cases h0 : a0 = b0
      · simp [h0, hx h0]
      · simp [h0]
theorem eqP_f (p q : List S47) (hl : p.length ≤ 1048576) : Ev (fun k => impl_Point.f k p q) (decide (p = q)) := by
  by_cases h : p.length = q.length
  · refine Ev.congr (fun k => ?_) (eqP_loop p q h hl p.length 0 (by omega))
    simp only [impl_Point.f]
    rw [if_pos (by omega)]
    rfl
  · have e : decide (p = q) = false := decide_eq_false fun x => h (by rw [x])
    rw [e]
    refine Ev.congr (f := fun _ => some false) (fun k => ?_) (Ev.now _)
    simp only [impl_Point.f]
    rw [if_neg (by omega)]
theorem eqP_calls (A0 : Option Addr) (c0 : Nat) (l0 : List S47) (A1 : Option Addr) (c1 : Nat) (l1 : List S47) (w : World) (hr0 : Kd.C k47 w A0 l0.length l0) (hc0 : l0.length ≤ c0) (hr1 : Kd.C k47 w A1 l1.length l1) (hc1 : l1.length ≤ c1) (hl : l0.length ≤ 1048576) (b : Bool) (hb : decide (l0 = l1) = b) :
    Calls Try.prog 37 #[.slice A0 l0.length c0, .slice A1 l1.length c1] w fun e w' => e = .returned (.bool b) ∧ Drawn0 w w' := by
  obtain ⟨k, hk⟩ := (eqP_f l0 l1 hl).rounds
  rw [hb] at hk
  exact impl_Point.calls k A0 c0 l0 A1 c1 l1 _ w hr0 hc0 hr1 hc1 hk

theorem cutFrom {A0 : Option Addr} {c0 : Nat} {l0 : List S47} {w : World} (hr0 : Kd.C k47 w A0 l0.length l0) (hc0 : l0.length ≤ c0) (m : Nat) (j : Int) (hj : j = m) (hm : m ≤ l0.length) :
    ∃ A' c', (∀ W, (Instr.slice 35 (.slice A0 l0.length c0) (some (.int .i64 j)) none none).run Try.prog W = .ok (.slice A' (l0.drop m).length c') W) ∧ Kd.C k47 w A' (l0.drop m).length (l0.drop m) ∧ (l0.drop m).length ≤ c' := by
  subst hj
  obtain ⟨i, hi, _, hsz, _⟩ := info_parts info47
  have h := cut_from (P := Try.prog) 35 47 .i64 Try.underlying35 hi 2 hsz A0 l0.length c0 m (by omega) (by omega)
  refine ⟨_, c0 - m, fun W => ?_, Kd.C_drop (c := c0) hr0 hm hc0, by rw [List.length_drop]; omega⟩
  rw [h W, List.length_drop, Int.toNat_natCast]
  rfl
theorem cutTo {A0 : Option Addr} {c0 : Nat} {l0 : List S47} {w : World} (hr0 : Kd.C k47 w A0 l0.length l0) (hc0 : l0.length ≤ c0) (m : Nat) (j : Int) (hj : j = m) (hm : m ≤ l0.length) :
    (∀ W, (Instr.slice 35 (.slice A0 l0.length c0) none (some (.int .i64 j)) none).run Try.prog W = .ok (.slice A0 (l0.take m).length c0) W) ∧ Kd.C k47 w A0 (l0.take m).length (l0.take m) ∧ (l0.take m).length ≤ c0 := by
  subst hj
  obtain ⟨i, hi, _, hsz, _⟩ := info_parts info47
  have h := cut_to (P := Try.prog) 35 47 .i64 Try.underlying35 hi A0 l0.length c0 m (by omega) (by omega) hc0
  refine ⟨fun W => ?_, Kd.C_take hr0 hm, by rw [List.length_take]; omega⟩
  rw [h W, List.length_take, Int.toNat_natCast, Nat.min_eq_left hm]

/-- q is p turned by x. -/
theorem vp_le {p : List S47} (h : vp p = true) : p.length ≤ 12800 := by
  unfold vp at h
  simp only [Bool.and_eq_true, decide_eq_true_eq] at h
  exact h.1.2.1
def turned (p q : List S47) (x : Nat) : Bool := decide (p = q.drop x) || (decide (p.take (p.length - x) = q.drop x) && decide (p.drop (p.length - x) = q.take x))
def sameP (p q : List S47) : Bool := vp p && vp q && decide (p.length = q.length) && (List.range q.length).any (turned p q)
end Go.Proofs.Ytjpfhnpdbjefkaa.Q
namespace Go.Proofs.Ytjpfhnpdbjefkaa.P
open Go.RowKit Go.Proofs.Ytjpfhnpdbjefkaa.Q Go.Proofs.YtjpfhnpdbjefkaaW.PrintWords Go.Proofs.YtjpfhnpdbjefkaaW.PrintLast
def impl_SamePolygon.f (l0 l1 : List S47) : Option Bool := some (sameP l0 l1)
def SPRel (p q : List S47) (w0 w : World) (v : Value) (w' : World) : Prop := ∃ k : Nat, k ≤ q.length ∧ v = .int .i64 k ∧ (List.range k).any (turned p q) = false ∧ Below w0.heap.size w0 w'
theorem SPRel.next {p q : List S47} {w0 w w' : World} {k : Nat} (hk : k < q.length) (h : (List.range k).any (turned p q) = false) (ht : turned p q k = false) (hb : Below w0.heap.size w0 w') : SPRel p q w0 w (.int .i64 (↑k + 1)) w' :=
  ⟨k + 1, by omega, rfl, by rw [List.range_succ, List.any_append, h, List.any_cons, List.any_nil, ht]; rfl, hb⟩
theorem any_at {p : Nat → Bool} {n x : Nat} (hx : x < n) (h : p x = true) : (List.range n).any p = true := List.any_eq_true.2 ⟨x, List.mem_range.2 hx, h⟩
set_option maxHeartbeats 800000 in
theorem impl_SamePolygon.calls (A0 : Option Addr) (c0 : Nat) (l0 : List S47) (A1 : Option Addr) (c1 : Nat) (l1 : List S47) (r : Bool) (w : World) (hr0 : Kd.C k47 w A0 l0.length l0) (hc0 : l0.length ≤ c0) (hr1 : Kd.C k47 w A1 l1.length l1) (hc1 : l1.length ≤ c1) (h : impl_SamePolygon.f l0 l1 = some r) :
    Calls Try.prog 23 #[.slice A0 l0.length c0, .slice A1 l1.length c1] w fun e w' => e = .returned (.bool r) ∧ Below w.heap.size w w' := by
  obtain rfl := Option.some.inj h
  clear h
  have HR := Lib.hid hr0
  have HR' := Lib.hid hr1
  clear hr0 hr1
  obtain ⟨k1, hk1⟩ := (impl_vp l0).rounds
  have HK1 := Lib.hid hk1
  clear hk1
  obtain ⟨k2, hk2⟩ := (impl_vp l1).rounds
  have HK2 := Lib.hid hk2
  clear hk2
  cases hv0 : vp l0 with
  | false =>
    rw [hv0] at HK1
    have HE := Lib.hid (show sameP l0 l1 = false by unfold sameP; rw [hv0]; rfl)
    clear hv0
    go_enter Try.func23, Try.ntmps23
    go_wp2_with fail
    refine (impl_IsValidPolygon.calls k1 _ _ l0 _ _ HR.out hc0 HK1.out).mono ?_
    rintro e w1 ⟨rfl, hb1⟩
    go_wp2_with fail
    go_ret
    rw [HE.out]
    exact ⟨rfl, hb1⟩
  | true =>
    rw [hv0] at HK1
    cases hv1 : vp l1 with
    | false =>
      rw [hv1] at HK2
      have HE := Lib.hid (show sameP l0 l1 = false by unfold sameP; rw [hv0, hv1]; rfl)
      clear hv0 hv1
      go_enter Try.func23, Try.ntmps23
      go_wp2_with fail
      refine (impl_IsValidPolygon.calls k1 _ _ l0 _ _ HR.out hc0 HK1.out).mono ?_
      rintro e w1 ⟨rfl, hb1⟩
      have HR1' := Lib.hid (Kd.C_below HR'.out hb1)
      go_wp2_with fail
      refine (impl_IsValidPolygon.calls k2 _ _ l1 _ _ HR1'.out hc1 HK2.out).mono ?_
      rintro e w2 ⟨rfl, hb2⟩
      go_wp2_with fail
      go_ret
      rw [HE.out]
      exact ⟨rfl, hb1.trans (hb2.mono hb1.size)⟩
    | true =>
      rw [hv1] at HK2
      have hle := vp_le hv0
      have hle1 := vp_le hv1
      by_cases hl : l0.length = l1.length
      · have HE := Lib.hid (show sameP l0 l1 = (List.range l1.length).any (turned l0 l1) by unfold sameP; rw [hv0, hv1, decide_eq_true hl]; rfl)
        clear hv0 hv1
        have HL := Lib.hid hl
        have hneq : ((l0.length : Int) != (l1.length : Int)) = false := by rw [bne_eq_false_iff_eq]; omega
        clear hl
        go_enter Try.func23, Try.ntmps23
        go_wp2_with fail
        refine (impl_IsValidPolygon.calls k1 _ _ l0 _ _ HR.out hc0 HK1.out).mono ?_
        rintro e w1 ⟨rfl, hb1⟩
        have HR1' := Lib.hid (Kd.C_below HR'.out hb1)
        go_wp2_with fail
        refine (impl_IsValidPolygon.calls k2 _ _ l1 _ _ HR1'.out hc1 HK2.out).mono ?_
        rintro e w2 ⟨rfl, hb2⟩
        have HB := Lib.hid (hb1.trans (hb2.mono hb1.size))
        clear hb1 hb2
        go_wp2_with fail
        go_loopw [23] (fun v w' => SPRel l0 l1 w w v w') (fun v _ => l1.length - (intOf v).toNat)
        case atStart => exact ⟨0, by omega, rfl, rfl, HB.out⟩
        case round =>
          clear HB
          obtain ⟨x, hx, rfl, hno, hb3⟩ := hrel
          have HB := Lib.hid hb3
          have HNO := Lib.hid hno
          clear hb3 hno
          by_cases hlt : x < l1.length
          · obtain ⟨A2, c2, run2, rd2, le2⟩ := cutFrom HR'.out hc1 x (x : Int) rfl (by omega)
            obtain ⟨run3, rd3, le3⟩ := cutTo HR.out hc0 (l0.length - x) ((l0.length : Int) - x) (by have := HL.out; omega) (by omega)
            obtain ⟨A4, c4, run4, rd4, le4⟩ := cutFrom HR.out hc0 (l0.length - x) ((l0.length : Int) - x) (by have := HL.out; omega) (by omega)
            obtain ⟨run5, rd5, le5⟩ := cutTo HR'.out hc1 x (x : Int) rfl (by omega)
            have hw : IntKind.i64.wrap ((l0.length : Int) - x) = (l0.length : Int) - x := IntWalk.i64_in _ (by omega)
            have hlx : (x : Int) ≤ l0.length := by have := HL.out; omega
            have RD2 := Lib.hid rd2
            have RD3 := Lib.hid rd3
            have RD4 := Lib.hid rd4
            have RD5 := Lib.hid rd5
            clear rd2 rd3 rd4 rd5
            generalize y2 : l1.drop x = q2 at *
            generalize y3 : l0.take (l0.length - x) = q3 at *
            generalize y4 : l0.drop (l0.length - x) = q4 at *
            generalize y5 : l1.take x = q5 at *
            have HT := Lib.hid (show turned l0 l1 x = (decide (l0 = q2) || (decide (q3 = q2) && decide (q4 = q5))) by unfold turned; rw [y2, y3, y4, y5])
            have L3 : q3.length ≤ 1048576 := by rw [← y3, List.length_take]; omega
            have L4 : q4.length ≤ 1048576 := by rw [← y4, List.length_drop]; omega
            clear y2 y3 y4 y5
            cases e1 : decide (l0 = q2) with
            | true =>
              have E1 := Lib.hid e1
              clear e1
              go_wp2_with fail
              go_quiet ((first | (go_at_call 37; (with_reducible refine (eqP_calls A0 c0 l0 A2 c2 q2 _ ?s1 hc0 ?s2 le2 (by omega) true E1.out).mono ?_); (case s1 => repeat (first | exact (Kd.C_below HR.out HB.out) | (with_reducible refine Kd.C_drewN ?_ _) | (with_reducible refine Kd.C_drew ?_))); (case s2 => repeat (first | exact (Kd.C_below RD2.out HB.out) | (with_reducible refine Kd.C_drewN ?_ _) | (with_reducible refine Kd.C_drew ?_))); rintro e w' ⟨rfl, ⟨nd, rfl⟩⟩; (try first | exact ⟨rfl, _, World.drewN_drewN _ _ _⟩ | exact ⟨rfl, _, Eq.trans (World.drewN_drewN _ _ _) (congrArg (World.drewN _) (Nat.add_assoc _ _ _))⟩))))
              go_wp2_with fail
              go_ret
              rw [HE.out, any_at hlt (by rw [HT.out, E1.out]; rfl)]
              exact ⟨rfl, pw_below_drewN HB.out _⟩
            | false =>
              have E1 := Lib.hid e1
              clear e1
              cases e2 : decide (q3 = q2) with
              | false =>
                have E2 := Lib.hid e2
                clear e2
                go_wp2_with fail
                go_quiet ((first | (go_at_call 37; (with_reducible refine (eqP_calls A0 c0 l0 A2 c2 q2 _ ?s1 hc0 ?s2 le2 (by omega) false E1.out).mono ?_); (case s1 => repeat (first | exact (Kd.C_below HR.out HB.out) | (with_reducible refine Kd.C_drewN ?_ _) | (with_reducible refine Kd.C_drew ?_))); (case s2 => repeat (first | exact (Kd.C_below RD2.out HB.out) | (with_reducible refine Kd.C_drewN ?_ _) | (with_reducible refine Kd.C_drew ?_))); rintro e w' ⟨rfl, ⟨nd, rfl⟩⟩; (try first | exact ⟨rfl, _, World.drewN_drewN _ _ _⟩ | exact ⟨rfl, _, Eq.trans (World.drewN_drewN _ _ _) (congrArg (World.drewN _) (Nat.add_assoc _ _ _))⟩)) | (go_at_call 37; (with_reducible refine (eqP_calls A0 c0 q3 A2 c2 q2 _ ?s1 le3 ?s2 le2 L3 false E2.out).mono ?_); (case s1 => repeat (first | exact (Kd.C_below RD3.out HB.out) | (with_reducible refine Kd.C_drewN ?_ _) | (with_reducible refine Kd.C_drew ?_))); (case s2 => repeat (first | exact (Kd.C_below RD2.out HB.out) | (with_reducible refine Kd.C_drewN ?_ _) | (with_reducible refine Kd.C_drew ?_))); rintro e w' ⟨rfl, ⟨nd, rfl⟩⟩; (try first | exact ⟨rfl, _, World.drewN_drewN _ _ _⟩ | exact ⟨rfl, _, Eq.trans (World.drewN_drewN _ _ _) (congrArg (World.drewN _) (Nat.add_assoc _ _ _))⟩))))
                go_wp2_with fail
                exact ⟨SPRel.next hlt HNO.out (by rw [HT.out, E1.out, E2.out]; rfl) (pw_below_drewN HB.out _), by simp [intOf]; omega⟩
              | true =>
                have E2 := Lib.hid e2
                clear e2
                cases e3 : decide (q4 = q5) with
                | false =>
                  have E3 := Lib.hid e3
                  clear e3
                  go_wp2_with fail
                  go_quiet ((first | (go_at_call 37; (with_reducible refine (eqP_calls A0 c0 l0 A2 c2 q2 _ ?s1 hc0 ?s2 le2 (by omega) false E1.out).mono ?_); (case s1 => repeat (first | exact (Kd.C_below HR.out HB.out) | (with_reducible refine Kd.C_drewN ?_ _) | (with_reducible refine Kd.C_drew ?_))); (case s2 => repeat (first | exact (Kd.C_below RD2.out HB.out) | (with_reducible refine Kd.C_drewN ?_ _) | (with_reducible refine Kd.C_drew ?_))); rintro e w' ⟨rfl, ⟨nd, rfl⟩⟩; (try first | exact ⟨rfl, _, World.drewN_drewN _ _ _⟩ | exact ⟨rfl, _, Eq.trans (World.drewN_drewN _ _ _) (congrArg (World.drewN _) (Nat.add_assoc _ _ _))⟩)) | (go_at_call 37; (with_reducible refine (eqP_calls A0 c0 q3 A2 c2 q2 _ ?s1 le3 ?s2 le2 L3 true E2.out).mono ?_); (case s1 => repeat (first | exact (Kd.C_below RD3.out HB.out) | (with_reducible refine Kd.C_drewN ?_ _) | (with_reducible refine Kd.C_drew ?_))); (case s2 => repeat (first | exact (Kd.C_below RD2.out HB.out) | (with_reducible refine Kd.C_drewN ?_ _) | (with_reducible refine Kd.C_drew ?_))); rintro e w' ⟨rfl, ⟨nd, rfl⟩⟩; (try first | exact ⟨rfl, _, World.drewN_drewN _ _ _⟩ | exact ⟨rfl, _, Eq.trans (World.drewN_drewN _ _ _) (congrArg (World.drewN _) (Nat.add_assoc _ _ _))⟩)) | (go_at_call 37; (with_reducible refine (eqP_calls A4 c4 q4 A1 c1 q5 _ ?s1 le4 ?s2 le5 L4 false E3.out).mono ?_); (case s1 => repeat (first | exact (Kd.C_below RD4.out HB.out) | (with_reducible refine Kd.C_drewN ?_ _) | (with_reducible refine Kd.C_drew ?_))); (case s2 => repeat (first | exact (Kd.C_below RD5.out HB.out) | (with_reducible refine Kd.C_drewN ?_ _) | (with_reducible refine Kd.C_drew ?_))); rintro e w' ⟨rfl, ⟨nd, rfl⟩⟩; (try first | exact ⟨rfl, _, World.drewN_drewN _ _ _⟩ | exact ⟨rfl, _, Eq.trans (World.drewN_drewN _ _ _) (congrArg (World.drewN _) (Nat.add_assoc _ _ _))⟩))))
                  go_wp2_with fail
                  exact ⟨SPRel.next hlt HNO.out (by rw [HT.out, E1.out, E2.out, E3.out]; rfl) (pw_below_drewN HB.out _), by simp [intOf]; omega⟩
                | true =>
                  have E3 := Lib.hid e3
                  clear e3
                  go_wp2_with fail
                  go_quiet ((first | (go_at_call 37; (with_reducible refine (eqP_calls A0 c0 l0 A2 c2 q2 _ ?s1 hc0 ?s2 le2 (by omega) false E1.out).mono ?_); (case s1 => repeat (first | exact (Kd.C_below HR.out HB.out) | (with_reducible refine Kd.C_drewN ?_ _) | (with_reducible refine Kd.C_drew ?_))); (case s2 => repeat (first | exact (Kd.C_below RD2.out HB.out) | (with_reducible refine Kd.C_drewN ?_ _) | (with_reducible refine Kd.C_drew ?_))); rintro e w' ⟨rfl, ⟨nd, rfl⟩⟩; (try first | exact ⟨rfl, _, World.drewN_drewN _ _ _⟩ | exact ⟨rfl, _, Eq.trans (World.drewN_drewN _ _ _) (congrArg (World.drewN _) (Nat.add_assoc _ _ _))⟩)) | (go_at_call 37; (with_reducible refine (eqP_calls A0 c0 q3 A2 c2 q2 _ ?s1 le3 ?s2 le2 L3 true E2.out).mono ?_); (case s1 => repeat (first | exact (Kd.C_below RD3.out HB.out) | (with_reducible refine Kd.C_drewN ?_ _) | (with_reducible refine Kd.C_drew ?_))); (case s2 => repeat (first | exact (Kd.C_below RD2.out HB.out) | (with_reducible refine Kd.C_drewN ?_ _) | (with_reducible refine Kd.C_drew ?_))); rintro e w' ⟨rfl, ⟨nd, rfl⟩⟩; (try first | exact ⟨rfl, _, World.drewN_drewN _ _ _⟩ | exact ⟨rfl, _, Eq.trans (World.drewN_drewN _ _ _) (congrArg (World.drewN _) (Nat.add_assoc _ _ _))⟩)) | (go_at_call 37; (with_reducible refine (eqP_calls A4 c4 q4 A1 c1 q5 _ ?s1 le4 ?s2 le5 L4 true E3.out).mono ?_); (case s1 => repeat (first | exact (Kd.C_below RD4.out HB.out) | (with_reducible refine Kd.C_drewN ?_ _) | (with_reducible refine Kd.C_drew ?_))); (case s2 => repeat (first | exact (Kd.C_below RD5.out HB.out) | (with_reducible refine Kd.C_drewN ?_ _) | (with_reducible refine Kd.C_drew ?_))); rintro e w' ⟨rfl, ⟨nd, rfl⟩⟩; (try first | exact ⟨rfl, _, World.drewN_drewN _ _ _⟩ | exact ⟨rfl, _, Eq.trans (World.drewN_drewN _ _ _) (congrArg (World.drewN _) (Nat.add_assoc _ _ _))⟩))))
                  go_wp2_with fail
                  go_ret
                  rw [HE.out, any_at hlt (by rw [HT.out, E1.out, E2.out, E3.out]; rfl)]
                  exact ⟨rfl, pw_below_drewN HB.out _⟩
          · go_wp2_with fail
            go_ret
            have : x = l1.length := by omega
            subst this
            rw [HE.out, HNO.out]
            exact ⟨rfl, HB.out⟩
      · have HE := Lib.hid (show sameP l0 l1 = false by unfold sameP; rw [decide_eq_false hl]; simp)
        clear hv0 hv1
        go_enter Try.func23, Try.ntmps23
        go_wp2_with fail
        refine (impl_IsValidPolygon.calls k1 _ _ l0 _ _ HR.out hc0 HK1.out).mono ?_
        rintro e w1 ⟨rfl, hb1⟩
        have HR1' := Lib.hid (Kd.C_below HR'.out hb1)
        go_wp2_with fail
        refine (impl_IsValidPolygon.calls k2 _ _ l1 _ _ HR1'.out hc1 HK2.out).mono ?_
        rintro e w2 ⟨rfl, hb2⟩
        go_wp2_with fail
        go_ret
        rw [HE.out]
        exact ⟨rfl, hb1.trans (hb2.mono hb1.size)⟩
end Go.Proofs.Ytjpfhnpdbjefkaa.P
