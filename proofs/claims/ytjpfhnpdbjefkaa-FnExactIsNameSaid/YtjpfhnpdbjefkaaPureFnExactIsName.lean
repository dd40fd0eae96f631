/- IsName: the program's IsName and the reference's IsName return the same for every string. Conditions: none. -/
import Derived.Test.YtjpfhnpdbjefkaaPFnExactIsNamex1
namespace Go.Proofs.Ytjpfhnpdbjefkaa.Pure
open Go.RowKit Go.Proofs.Ytjpfhnpdbjefkaa.PFnExactIsName Go.Proofs.YtjpfhnpdbjefkaaW.PrintWords Go.Proofs.YtjpfhnpdbjefkaaW.PrintLast

def okc (c : Int) : Prop := (97 ≤ c ∧ c ≤ 122) ∨ (48 ≤ c ∧ c ≤ 57)
instance (c : Int) : Decidable (okc c) := by unfold okc; infer_instance

theorem spec_step (k : Nat) (s : ByteArray) (x : Int) (h0 : 0 ≤ x) (h1 : x < s.size) :
    spec_IsName.l0 (k + 1) s x = if okc (bt s x) then spec_IsName.l0 k s (wrap64 (x + 1)) else some false := by
  simp only [spec_IsName.l0]
  rw [if_pos h1, if_pos h0]
  repeat' split
  all_goals first | rfl | (exfalso; unfold okc at *; omega)

theorem impl_step (k : Nat) (s : ByteArray) (x : Int) (h0 : 0 ≤ x) (h1 : x < s.size) :
    impl_IsName.l0 (k + 1) s x = if okc (bt s x) then impl_IsName.l0 k s (wrap64 (x + 1)) else some false := by
  simp only [impl_IsName.l0]
  rw [if_pos h1, if_pos h0]
  repeat' split
  all_goals first | rfl | (exfalso; unfold okc at *; omega)

theorem same_loops (s : ByteArray) (hs : s.size ≤ 140737488351232) (d : Nat) : ∀ x : Int, 0 ≤ x → x + d = s.size →
    ∃ r, spec_IsName.l0 (d + 1) s x = some r ∧ impl_IsName.l0 (d + 1) s x = some r := by
  induction d with
  | zero =>
    intro x h0 hd
    refine ⟨if (s.size : Int) ≥ 1 then decide ((s.size : Int) ≤ 8) else false, ?_, ?_⟩
    · simp only [spec_IsName.l0]
      rw [if_neg (by omega)]
      split <;> simp_all
    · simp only [impl_IsName.l0]
      rw [if_neg (by omega)]
      split <;> simp_all
  | succ d ih =>
    intro x h0 hd
    rw [spec_step _ _ _ h0 (by omega), impl_step _ _ _ h0 (by omega)]
    have hw : wrap64 (x + 1) = x + 1 := by unfold wrap64; omega
    rw [hw]
    by_cases c : okc (bt s x)
    · rw [if_pos c, if_pos c]
      exact ih (x + 1) (by omega) (by omega)
    · rw [if_neg c, if_neg c]
      exact ⟨false, rfl, rfl⟩

theorem FnExactIsName : laws_FnExactIsName.Pure := by
  intro s hs
  obtain ⟨r, h1, h2⟩ := same_loops s hs s.size 0 (by omega) (by omega)
  refine ⟨s.size + 1, ?_⟩
  unfold laws_FnExactIsName.f spec_IsName.f impl_IsName.f
  rw [h1, h2]
  simp

end Go.Proofs.Ytjpfhnpdbjefkaa.Pure
