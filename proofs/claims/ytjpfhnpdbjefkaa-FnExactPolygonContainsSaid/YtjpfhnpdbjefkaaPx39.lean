-- Written by a program (wip/tools/pall.py) over the kit's print.py out of the translation; Lean checks it.
import Derived.Test.YtjpfhnpdbjefkaaPx0
import Derived.Test.YtjpfhnpdbjefkaaPx18
import Derived.Test.YtjpfhnpdbjefkaaPx38
namespace Go.Proofs.Ytjpfhnpdbjefkaa.P
open Go.RowKit Go.Proofs.YtjpfhnpdbjefkaaW.PrintWords Go.Proofs.YtjpfhnpdbjefkaaW.PrintLast Go.Proofs.YtjpfhnpdbjefkaaW.PrintMore
attribute [local go_sem] max2_int min2_int max_two min_two max_three min_three max_four min_four   -- for this text's walks alone
set_option linter.unusedVariables false
set_option linter.unusedSimpArgs false

/-! ### spec_l03Has: function 40 -/
def spec_l03Has.f (l0 : List Bool) (a1 : Int) (a2 : Int) : Option (Bool) := (spec_l01In.f a1 (-40) 39).bind fun t324 => (if t324 = true then ((spec_l01In.f a2 (-40) 39).bind fun t325 => (if t325 = true then ((spec_l03At.f a1 a2).bind fun t326 => (if 0 ≤ t326 then (if t326 < (l0.length : Int) then (some (rdOf false l0 t326)) else (none)) else (none))) else (some false))) else (some false))
set_option maxHeartbeats 8000000 in
set_option maxRecDepth 100000 in
theorem spec_l03Has.calls (A0 : Option Addr) (c0 : Nat) (l0 : List Bool) (a1 : Int) (a2 : Int) (r : Bool) (w : World) (hr0 : Kd.C Kd.bool w A0 l0.length l0) (hc0 : l0.length ≤ c0) (h : spec_l03Has.f l0 a1 a2 = some r) :
    Calls Try.prog 40 #[.slice A0 l0.length c0, .int .i64 a1, .int .i64 a2] w fun e w' => e = .returned (.bool r) ∧ Drawn0 w w' := by
  have HR0 := Aside0.mk hr0
  have HC0 := Aside0.mk hc0
  clear hr0 hc0
  have H : ((spec_l01In.f a1 (-40) 39).bind fun t324 => (if t324 = true then ((spec_l01In.f a2 (-40) 39).bind fun t325 => (if t325 = true then ((spec_l03At.f a1 a2).bind fun t326 => (if 0 ≤ t326 then (if t326 < (l0.length : Int) then (some (rdOf false l0 t326)) else (none)) else (none))) else (some false))) else (some false))) = some r := h
  clear h
  replace H := Option.bind_eq_some_iff.mp H
  obtain ⟨t324, A40, H⟩ := H
  replace H : (if t324 = true then ((spec_l01In.f a2 (-40) 39).bind fun t325 => (if t325 = true then ((spec_l03At.f a1 a2).bind fun t326 => (if 0 ≤ t326 then (if t326 < (l0.length : Int) then (some (rdOf false l0 t326)) else (none)) else (none))) else (some false))) else (some false)) = some r := H
  have A4 := Aside0.mk A40
  clear A40
  by_cases c5 : t324 = true
  · subst c5
    have H1 : ((spec_l01In.f a2 (-40) 39).bind fun t325 => (if t325 = true then ((spec_l03At.f a1 a2).bind fun t326 => (if 0 ≤ t326 then (if t326 < (l0.length : Int) then (some (rdOf false l0 t326)) else (none)) else (none))) else (some false))) = some r := by rw [if_pos rfl] at H; exact H
    clear H
    have H := H1
    clear H1
    replace H := Option.bind_eq_some_iff.mp H
    obtain ⟨t325, A60, H⟩ := H
    replace H : (if t325 = true then ((spec_l03At.f a1 a2).bind fun t326 => (if 0 ≤ t326 then (if t326 < (l0.length : Int) then (some (rdOf false l0 t326)) else (none)) else (none))) else (some false)) = some r := H
    have A6 := Aside0.mk A60
    clear A60
    by_cases c7 : t325 = true
    · subst c7
      have H1 : ((spec_l03At.f a1 a2).bind fun t326 => (if 0 ≤ t326 then (if t326 < (l0.length : Int) then (some (rdOf false l0 t326)) else (none)) else (none))) = some r := by rw [if_pos rfl] at H; exact H
      clear H
      have H := H1
      clear H1
      replace H := Option.bind_eq_some_iff.mp H
      obtain ⟨t326, A80, H⟩ := H
      replace H : (if 0 ≤ t326 then (if t326 < (l0.length : Int) then (some (rdOf false l0 t326)) else (none)) else (none)) = some r := H
      have A8 := Aside0.mk A80
      clear A80
      by_cases c9 : 0 ≤ t326
      · rw [if_pos c9] at H
        have c9b0 : decide (0 ≤ t326) = true := decide_eq_true c9
        clear c9
        by_cases c10 : t326 < (l0.length : Int)
        · rw [if_pos c10] at H
          have c10b0 : decide (t326 < (l0.length : Int)) = true := decide_eq_true c10
          clear c10
          obtain rfl := Option.some.inj H
          go_enter Try.func40, Try.ntmps40
          go_wp2_with (first | ((with_reducible refine gate_callee (f := 44) rfl ?_); refine goesL_ (some 8) rfl rfl Try.func44 (by kernel_rfl) rfl #[.int .i64 a1, .int .i64 (-40), .int .i64 39] rfl (by (try simp only [List.map_toArray, List.map_cons, List.map_nil]); first | done | rfl | (simp only [List.length_drop, List.length_take]; rfl)) ?_; (with_reducible refine (spec_l01In.calls a1 (-40) 39 true _ A4.out).mono ?_); rintro e w' ⟨rfl, ⟨nd, rfl⟩⟩; refine ⟨_, rfl, ?_⟩) | (go_at_call 44; (with_reducible refine (spec_l01In.calls a2 (-40) 39 true _ A6.out).mono ?_); rintro e w' ⟨rfl, ⟨nd, rfl⟩⟩) | (go_at_call 46; (with_reducible refine (spec_l03At.calls a1 a2 t326 _ A8.out).mono ?_); rintro e w' ⟨rfl, ⟨nd, rfl⟩⟩; have p327 : 0 ≤ (t326 : Int) := of_decide_eq_true (by first | (with_reducible assumption) | assumption); have q327 : t326 < (l0.length : Int) := of_decide_eq_true (by first | (with_reducible assumption) | assumption); obtain ⟨ad327, e327, hx327_0⟩ := Kd.at_bool HR0.out t326 p327 q327; cases e327; replace p327 := eq_true p327; replace q327 := eq_true q327))
          go_ret
          exact ⟨by first | rfl | (simp; done) | (simp [*]; done), by repeat (first | exact Drawn0.refl _ | apply Drawn0.step)⟩
        · rw [if_neg c10] at H
          exact absurd H (by simp)
      · rw [if_neg c9] at H
        exact absurd H (by simp)
    · replace c7 := Bool.eq_false_iff.mpr c7
      subst c7
      have H1 : (some false) = some r := by rw [if_neg (show ¬ (false = true) by decide)] at H; exact H
      clear H
      have H := H1
      clear H1
      obtain rfl := Option.some.inj H
      go_enter Try.func40, Try.ntmps40
      go_wp2_with (first | ((with_reducible refine gate_callee (f := 44) rfl ?_); refine goesL_ (some 8) rfl rfl Try.func44 (by kernel_rfl) rfl #[.int .i64 a1, .int .i64 (-40), .int .i64 39] rfl (by (try simp only [List.map_toArray, List.map_cons, List.map_nil]); first | done | rfl | (simp only [List.length_drop, List.length_take]; rfl)) ?_; (with_reducible refine (spec_l01In.calls a1 (-40) 39 true _ A4.out).mono ?_); rintro e w' ⟨rfl, ⟨nd, rfl⟩⟩; refine ⟨_, rfl, ?_⟩) | (go_at_call 44; (with_reducible refine (spec_l01In.calls a2 (-40) 39 false _ A6.out).mono ?_); rintro e w' ⟨rfl, ⟨nd, rfl⟩⟩))
      go_ret
      exact ⟨by first | rfl | (simp; done) | (simp [*]; done), by repeat (first | exact Drawn0.refl _ | apply Drawn0.step)⟩
  · replace c5 := Bool.eq_false_iff.mpr c5
    subst c5
    have H1 : (some false) = some r := by rw [if_neg (show ¬ (false = true) by decide)] at H; exact H
    clear H
    have H := H1
    clear H1
    obtain rfl := Option.some.inj H
    go_enter Try.func40, Try.ntmps40
    go_wp2_with (first | ((with_reducible refine gate_callee (f := 44) rfl ?_); refine goesL_ (some 8) rfl rfl Try.func44 (by kernel_rfl) rfl #[.int .i64 a1, .int .i64 (-40), .int .i64 39] rfl (by (try simp only [List.map_toArray, List.map_cons, List.map_nil]); first | done | rfl | (simp only [List.length_drop, List.length_take]; rfl)) ?_; (with_reducible refine (spec_l01In.calls a1 (-40) 39 false _ A4.out).mono ?_); rintro e w' ⟨rfl, ⟨nd, rfl⟩⟩; refine ⟨_, rfl, ?_⟩))
    go_ret
    exact ⟨by first | rfl | (simp; done) | (simp [*]; done), by repeat (first | exact Drawn0.refl _ | apply Drawn0.step)⟩

end Go.Proofs.Ytjpfhnpdbjefkaa.P
