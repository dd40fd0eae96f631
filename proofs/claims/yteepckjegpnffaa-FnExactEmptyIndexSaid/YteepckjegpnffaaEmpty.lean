/- EmptyIndex: the law's walk by hand; marks of an empty index. -/
import Derived.Test.YteepckjegpnffaaMade
import Derived.Test.YteepckjegpnffaaPx5
import Derived.Test.YteepckjegpnffaaPx11
import Derived.Test.YteepckjegpnffaaPx19
import Derived.Deep.DeepMust
set_option linter.unusedVariables false
set_option linter.unusedSimpArgs false
namespace Go.Proofs.Yteepckjegpnffaa.Q
open Go.RowKit Go.Proofs.Yteepckjegpnffaa.P Go.Proofs.Yteepckjegpnffaa.H Go.Proofs.YteepckjegpnffaaW.PrintWords Go.Proofs.YteepckjegpnffaaW.PrintLast
def E0 : List S94 := []
def E25 : List (List Int) := List.replicate 25 []
theorem made_nil : made [] = E25 := by decide
theorem eq_f : laws_eqSpatialIndex.f 60 E0 E25 E0 E25 = some true := by decide +kernel
theorem held_f0 : laws_heldSpatialIndex.f 60 E0 E25 1 = some 1 := by decide +kernel
theorem empty_f : impl_EmptyIndex.f = some (E0, E25) := rfl
theorem E0_C (w : World) : Kd.C k94 w none E0.length E0 := by
  have h := (Kd.R_reads' (Kd.R_nil k94 0 w 0 (fun _ => True))).2.2
  exact h
theorem spec_EmptyIndex_calls (w : World) : Calls Try.prog 21 #[] w fun e w' => ∃ Ab cb, e = .returned (.agg #[.slice none E0.length 0, .slice Ab E25.length cb]) ∧ Below w.heap.size w w' ∧ E25.length ≤ cb ∧ Kd.C kB w' Ab E25.length E25 := by
  have B := Lib.hid (Below.refl w.heap.size w)
  go_enter Try.func21, Try.ntmps21
  go_wp2_with (first
    | ((with_reducible refine gate_dst (N := 0) rfl ?_); refine box_event rfl (N := 0) rfl (cs := #[.slice none 0 0, .slice none 0 0]) (t := 42) ?hr ?_; (case hr => first | (go_simp; done) | (go_simp; rfl)); intro g0 hg w1 hbox hb; have GE0 := Lib.hid (show w.heap.size ≤ g0 from by rw [hg]; exact B.out.size); have X := Lib.hid hbox; replace B := Lib.hid (B.out.trans (hb.mono B.out.size)); have W1 := Lib.hid (hg : g0 = w.heap.size); clear hb hbox hg)
    | (go_at_call 69; (refine (made_calls none 0 E0 _ (E0_C _) (Nat.le_refl _) (by decide)).mono ?_); rintro e w2 ⟨vB, rfl, hS, hb⟩; obtain ⟨Ab, cb, ev⟩ := Kd.S_slice hS; subst ev; have S0 := Lib.hid hS; have X0 : Box w2 g0 #[.slice none 0 0, .slice none 0 0] 42 := Box.below X.out hb; have X1 := Lib.hid X0; replace B := Lib.hid (B.out.trans (hb.mono B.out.size)); clear hS hb X0)
    | ((with_reducible refine gate_store (p := 0) rfl ?_); refine box_store rfl 42 _ _ rfl rfl g0 _ rfl rfl X1.out (by kernel_rfl) rfl (by simp [Value.oneCell']) ?_; intro w3 hx hk hb; have X2 := Lib.hid hx; have S1 := Lib.hid (Kd.S_keep (Kd.S_types S0.out X1.out (by decide)) hk (fun _ h => h.2)); replace B := Lib.hid (B.out.trans (hb _ GE0.out)); clear hx hk hb))
  refine bodyPost_ret (v := .agg #[.slice none E0.length 0, .slice Ab (made E0).length cb]) ?hres rfl ?_
  case hres => exact results_cell_row rfl _ _ g0 42 _ (0, 0) _ rfl X2.out Try.underlying42 rfl (by kernel_rfl)
  have h := Kd.S_reads' S1.out
  rw [show made E0 = E25 from made_nil] at h
  exact ⟨Ab, cb, by rw [show made E0 = E25 from made_nil], B.out, h.2.1, h.2.2⟩
theorem impl_EmptyIndex_calls (w : World) : Calls Try.prog 22 #[] w fun e w' => ∃ A2 c2 B2 d2, e = .returned (.agg #[.slice A2 E0.length c2, .slice B2 E25.length d2]) ∧ Below w.heap.size w w' ∧ E0.length ≤ c2 ∧ E25.length ≤ d2 ∧ Kd.C k94 w' A2 E0.length E0 ∧ Kd.C kB w' B2 E25.length E25 := by
  refine (impl_EmptyIndex.calls E0 E25 w empty_f).mono ?_
  rintro e w' ⟨v0, v1, rfl, h0, h1, hb⟩
  obtain ⟨A2, c2, e2⟩ := Kd.R_slice h0
  obtain ⟨B2, d2, e3⟩ := Kd.S_slice h1
  subst e2 e3
  have q0 := Kd.R_reads' h0
  have q1 := Kd.S_reads' h1
  exact ⟨A2, c2, B2, d2, rfl, hb, q0.2.1, q1.2.1, q0.2.2, q1.2.2⟩
theorem markE0_calls (A : Option Addr) (c : Nat) (k : Int) (w : World) : Calls Try.prog 72 #[.slice A 0 c, .int .i64 k] w fun e w' => e = .returned (.int .i64 k) ∧ Below w.heap.size w w' := by
  go_enter Try.func72, Try.ntmps72
  go_wp2_with fail
  go_loopw [1, 5] (fun v1 v w' => v1 = .int .i64 k ∧ v = .int .i64 0 ∧ Below w.heap.size w w') (fun _ _ _ => 0)
  case atStart => exact ⟨rfl, rfl, Below.refl _ _⟩
  case round =>
    obtain ⟨rfl, rfl, hB⟩ := hrel
    go_wp2_with fail
    go_ret
    exact ⟨rfl, hB⟩
theorem markI0_calls (A : Option Addr) (c : Nat) (k : Int) (w : World) : Calls Try.prog 51 #[.slice A 0 c, .int .i64 k] w fun e w' => e = .returned (.int .i64 k) ∧ Below w.heap.size w w' := by
  go_enter Try.func51, Try.ntmps51
  go_wp2_with fail
  go_loopw [1, 5] (fun v1 v w' => v1 = .int .i64 k ∧ v = .int .i64 0 ∧ Below w.heap.size w w') (fun _ _ _ => 0)
  case atStart => exact ⟨rfl, rfl, Below.refl _ _⟩
  case round =>
    obtain ⟨rfl, rfl, hB⟩ := hrel
    go_wp2_with fail
    go_ret
    exact ⟨rfl, hB⟩
theorem markSS0_calls (A : Option Addr) (c : Nat) (k : Int) (w : World) (hr : Kd.C kB w A E25.length E25) : Calls Try.prog 73 #[.slice A E25.length c, .int .i64 k] w fun e w' => e = .returned (.int .i64 k) ∧ Below w.heap.size w w' := by
  have HR := Lib.hid hr
  have hs : E25.length ≤ 25 := by decide
  clear hr
  go_enter Try.func73, Try.ntmps73
  go_wp2_with fail
  go_loopw [1, 5] (fun v1 v w' => ∃ i : Nat, i ≤ E25.length ∧ v1 = .int .i64 k ∧ v = .int .i64 i ∧ Below w.heap.size w w') (fun _ v _ => E25.length - (intOf v).toNat)
  case atStart => exact ⟨0, Nat.zero_le _, rfl, rfl, Below.refl _ _⟩
  case round =>
    obtain ⟨i, hi, rfl, rfl, hB⟩ := hrel
    have B := Lib.hid hB
    clear hB
    by_cases hlt : i < E25.length
    · obtain ⟨ad, A0, c0, rfl, hc, _, _⟩ := at_L3 (Kd.C_below HR.out B.out) (i : Int) (by omega) (by omega)
      have e0 : rd_L3 E25 (i : Int) = [] := by
        simp only [rd_L3, E25, Int.toNat_natCast, List.getD_eq_getElem?_getD, List.getElem?_replicate]
        split <;> rfl
      rw [e0, List.length_nil, Int.toNat_natCast] at hc
      go_wp2_with (go_at_call 51; (refine (markI0_calls A0 c0 k _).mono ?_); rintro e w1 ⟨rfl, hb⟩; replace B := Lib.hid (B.out.trans (hb.mono B.out.size)); clear hb hc)
      exact ⟨⟨i + 1, by omega, rfl, rfl, B.out⟩, by simp [intOf]; omega⟩
    · go_wp2_with fail
      go_ret
      exact ⟨rfl, B.out⟩
theorem mark0_calls (A : Option Addr) (c : Nat) (B2 : Option Addr) (d : Nat) (k : Int) (w : World) (hr : Kd.C kB w B2 E25.length E25) : Calls Try.prog 24 #[.agg #[.slice A E0.length c, .slice B2 E25.length d], .int .i64 k] w fun e w' => e = .returned (.int .i64 k) ∧ Below w.heap.size w w' := by
  have HR := Lib.hid hr
  clear hr
  have B := Lib.hid (Below.refl w.heap.size w)
  go_enter Try.func24, Try.ntmps24
  go_wp2_with (first
    | ((with_reducible refine gate_dst (N := 2) rfl ?_); refine box_event rfl (N := 2) rfl (cs := #[.slice A E0.length c, .slice B2 E25.length d]) (t := 42) ?hr ?_; (case hr => first | (go_simp; done) | (go_simp; rfl)); intro g2 hg w1 hbox hb; have X := Lib.hid (show Box w1 g2 _ _ from hbox); have x0 := X.out.cell 0 _ rfl; have x1 := X.out.cell 1 _ rfl; replace B := Lib.hid (B.out.trans (hb.mono B.out.size)); clear hb hg)
    | (go_at_call 72; (refine (markE0_calls A c k _).mono ?_); rintro e w2 ⟨rfl, hb⟩; have X2 := Lib.hid (X.out.below hb); have y1 := X2.out.cell 1 _ rfl; replace B := Lib.hid (B.out.trans (hb.mono B.out.size)); clear hb)
    | (go_at_call 73; (refine (markSS0_calls B2 d k _ (Kd.C_below HR.out B.out)).mono ?_); rintro e w3 ⟨rfl, hb⟩; replace B := Lib.hid (B.out.trans (hb.mono B.out.size)); clear hb))
  go_ret
  exact ⟨rfl, B.out⟩
end Go.Proofs.Yteepckjegpnffaa.Q
namespace Go.Proofs.Yteepckjegpnffaa.P
open Go.RowKit Go.Proofs.Yteepckjegpnffaa.H Go.Proofs.Yteepckjegpnffaa.Q Go.Proofs.YteepckjegpnffaaW.PrintWords Go.Proofs.YteepckjegpnffaaW.PrintLast
def laws_FnExactEmptyIndex.f : Option Bool := some true
set_option maxRecDepth 100000 in
set_option maxHeartbeats 1000000 in
theorem laws_FnExactEmptyIndex.calls (r : Bool) (w : World) (h : laws_FnExactEmptyIndex.f = some r) :
    Calls Try.prog 4 #[] w fun e w' => e = .returned (.bool r) ∧ Below w.heap.size w w' := by
  obtain rfl := Option.some.inj h
  clear h
  have held_f := held_f0
  have FST := Lib.hid True.intro
  have B := Lib.hid (Below.refl w.heap.size w)
  have X := Lib.hid (show Bxs w [] from trivial)
  go_enter Try.func4, Try.ntmps4
  go_wp2_with (first
    | (go_at_call 21; (with_reducible refine (spec_EmptyIndex_calls _).mono ?_); rintro e w1 ⟨Ab, cb, rfl, hb, hc, hA⟩; replace X := Lib.hid (Bxs.below hb X.out); replace B := Lib.hid (B.out.trans (hb.mono B.out.size)); (try replace BA := Lib.hid (BA.out.trans (hb.mono BA.out.size))); (try replace BB := Lib.hid (BB.out.trans (hb.mono BB.out.size))); (try replace BC := Lib.hid (BC.out.trans (hb.mono BC.out.size))); clear hb; have CA := Lib.hid hA; have LA := Lib.hid hc; have BA := Lib.hid (Below.refl w1.heap.size w1); clear hA hc)
    | (go_at_call 22; clear FST; (with_reducible refine (impl_EmptyIndex_calls _).mono ?_); rintro e w1 ⟨A2, c2, B2, d2, rfl, hb, hc, hd, hC, hD⟩; replace X := Lib.hid (Bxs.below hb X.out); replace B := Lib.hid (B.out.trans (hb.mono B.out.size)); (try replace BA := Lib.hid (BA.out.trans (hb.mono BA.out.size))); (try replace BB := Lib.hid (BB.out.trans (hb.mono BB.out.size))); (try replace BC := Lib.hid (BC.out.trans (hb.mono BC.out.size))); clear hb; have CB0 := Lib.hid hC; have CB1 := Lib.hid hD; have LB0 := Lib.hid hc; have LB1 := Lib.hid hd; have BB := Lib.hid (Below.refl w1.heap.size w1); clear hC hD hc hd)
    | (go_at_call 22; (with_reducible refine (impl_EmptyIndex_calls _).mono ?_); rintro e w1 ⟨A5, c5, B5, d5, rfl, hb, hc, hd, hC, hD⟩; replace X := Lib.hid (Bxs.below hb X.out); replace B := Lib.hid (B.out.trans (hb.mono B.out.size)); (try replace BA := Lib.hid (BA.out.trans (hb.mono BA.out.size))); (try replace BB := Lib.hid (BB.out.trans (hb.mono BB.out.size))); (try replace BC := Lib.hid (BC.out.trans (hb.mono BC.out.size))); clear hb; have CC0 := Lib.hid hC; have CC1 := Lib.hid hD; have LC0 := Lib.hid hc; have LC1 := Lib.hid hd; have BC := Lib.hid (Below.refl w1.heap.size w1); clear hC hD hc hd)
    | (go_at_call 23; (with_reducible refine (laws_eqSpatialIndex.calls 60 A2 c2 E0 B2 d2 E25 none 0 E0 Ab cb E25 true _ (Kd.C_below CB0.out BB.out) LB0.out (Kd.C_below CB1.out BB.out) LB1.out (E0_C _) (Nat.le_refl _) (Kd.C_below CA.out BA.out) LA.out eq_f).mono ?_); rintro e w1 ⟨rfl, hb⟩; replace X := Lib.hid (Bxs.below hb X.out); replace B := Lib.hid (B.out.trans (hb.mono B.out.size)); (try replace BA := Lib.hid (BA.out.trans (hb.mono BA.out.size))); (try replace BB := Lib.hid (BB.out.trans (hb.mono BB.out.size))); (try replace BC := Lib.hid (BC.out.trans (hb.mono BC.out.size))); clear hb)
    | (go_at_call 23; (with_reducible refine (laws_eqSpatialIndex.calls 60 A5 c5 E0 B5 d5 E25 none 0 E0 Ab cb E25 true _ (Kd.C_below CC0.out BC.out) LC0.out (Kd.C_below CC1.out BC.out) LC1.out (E0_C _) (Nat.le_refl _) (Kd.C_below CA.out BA.out) LA.out eq_f).mono ?_); rintro e w1 ⟨rfl, hb⟩; replace X := Lib.hid (Bxs.below hb X.out); replace B := Lib.hid (B.out.trans (hb.mono B.out.size)); (try replace BA := Lib.hid (BA.out.trans (hb.mono BA.out.size))); (try replace BB := Lib.hid (BB.out.trans (hb.mono BB.out.size))); (try replace BC := Lib.hid (BC.out.trans (hb.mono BC.out.size))); clear hb)
    | (go_at_call 24; (with_reducible refine (mark0_calls A2 c2 B2 d2 1 _ (Kd.C_below CB1.out BB.out)).mono ?_); rintro e w1 ⟨rfl, hb⟩; replace X := Lib.hid (Bxs.below hb X.out); replace B := Lib.hid (B.out.trans (hb.mono B.out.size)); (try replace BA := Lib.hid (BA.out.trans (hb.mono BA.out.size))); (try replace BB := Lib.hid (BB.out.trans (hb.mono BB.out.size))); (try replace BC := Lib.hid (BC.out.trans (hb.mono BC.out.size))); clear hb)
    | (go_at_call 25; (with_reducible refine (laws_heldSpatialIndex.calls 60 A2 c2 E0 B2 d2 E25 1 1 _ (Kd.C_below CB0.out BB.out) LB0.out (Kd.C_below CB1.out BB.out) LB1.out held_f).mono ?_); rintro e w1 ⟨rfl, hb⟩; replace X := Lib.hid (Bxs.below hb X.out); replace B := Lib.hid (B.out.trans (hb.mono B.out.size)); (try replace BA := Lib.hid (BA.out.trans (hb.mono BA.out.size))); (try replace BB := Lib.hid (BB.out.trans (hb.mono BB.out.size))); (try replace BC := Lib.hid (BC.out.trans (hb.mono BC.out.size))); clear hb)
    | ((with_reducible refine gate_dst (N := 1) rfl ?_); refine box_event rfl (N := 1) rfl (cs := #[.slice none 0 0, .slice none 0 0]) (t := 42) ?hr ?_; (case hr => first | (go_simp; done) | (go_simp; rfl)); intro g1 hg w1 hbox hb; have GE1 := Lib.hid (show w.heap.size ≤ g1 from by rw [hg]; exact B.out.size); (try have GBA1 := Lib.hid (show _ ≤ g1 from by rw [hg]; exact BA.out.size)); (try have GBB1 := Lib.hid (show _ ≤ g1 from by rw [hg]; exact BB.out.size)); (try have GBC1 := Lib.hid (show _ ≤ g1 from by rw [hg]; exact BC.out.size)); replace X := Lib.hid (Bxs.push X.out (Nat.le_of_eq hg.symm) hb hbox); replace B := Lib.hid (B.out.trans (hb.mono B.out.size)); (try replace BA := Lib.hid (BA.out.trans (hb.mono BA.out.size))); (try replace BB := Lib.hid (BB.out.trans (hb.mono BB.out.size))); (try replace BC := Lib.hid (BC.out.trans (hb.mono BC.out.size))); clear hb hbox hg)
    | ((with_reducible refine gate_store (p := 1) rfl ?_); go_must (refine box_store rfl 42 _ _ rfl rfl g1 (#[.slice none E0.length 0, .slice Ab E25.length cb]) rfl rfl (Bxs.at X.out (g := g1) (cs := #[.slice none 0 0, .slice none 0 0]) (t := 42) (by simp)) (by kernel_rfl) rfl (by simp [Value.oneCell']) ?_); intro w1 hx hk hb; replace X := Lib.hid (Bxs.set0 X.out hx hk); replace B := Lib.hid (B.out.trans (hb _ GE1.out)); (try replace BA := Lib.hid (BA.out.trans (hb _ GBA1.out))); (try replace BB := Lib.hid (BB.out.trans (hb _ GBB1.out))); (try replace BC := Lib.hid (BC.out.trans (hb _ GBC1.out))); clear hx hk hb)
    | ((with_reducible refine gate_dst (N := 2) rfl ?_); refine box_event rfl (N := 2) rfl (cs := #[.slice none 0 0, .slice none 0 0]) (t := 42) ?hr ?_; (case hr => first | (go_simp; done) | (go_simp; rfl)); intro g2 hg w1 hbox hb; have GE2 := Lib.hid (show w.heap.size ≤ g2 from by rw [hg]; exact B.out.size); (try have GBA2 := Lib.hid (show _ ≤ g2 from by rw [hg]; exact BA.out.size)); (try have GBB2 := Lib.hid (show _ ≤ g2 from by rw [hg]; exact BB.out.size)); (try have GBC2 := Lib.hid (show _ ≤ g2 from by rw [hg]; exact BC.out.size)); replace X := Lib.hid (Bxs.push X.out (Nat.le_of_eq hg.symm) hb hbox); replace B := Lib.hid (B.out.trans (hb.mono B.out.size)); (try replace BA := Lib.hid (BA.out.trans (hb.mono BA.out.size))); (try replace BB := Lib.hid (BB.out.trans (hb.mono BB.out.size))); (try replace BC := Lib.hid (BC.out.trans (hb.mono BC.out.size))); clear hb hbox hg)
    | ((with_reducible refine gate_store (p := 2) rfl ?_); go_must (refine box_store rfl 42 _ _ rfl rfl g2 (#[.slice A2 E0.length c2, .slice B2 E25.length d2]) rfl rfl (Bxs.at X.out (g := g2) (cs := #[.slice none 0 0, .slice none 0 0]) (t := 42) (by simp)) (by kernel_rfl) rfl (by simp [Value.oneCell']) ?_); intro w1 hx hk hb; replace X := Lib.hid (Bxs.set0 X.out hx hk); replace B := Lib.hid (B.out.trans (hb _ GE2.out)); (try replace BA := Lib.hid (BA.out.trans (hb _ GBA2.out))); (try replace BB := Lib.hid (BB.out.trans (hb _ GBB2.out))); (try replace BC := Lib.hid (BC.out.trans (hb _ GBC2.out))); clear hx hk hb)
    | ((with_reducible refine gate_dst (N := 5) rfl ?_); refine box_event rfl (N := 5) rfl (cs := #[.slice none 0 0, .slice none 0 0]) (t := 42) ?hr ?_; (case hr => first | (go_simp; done) | (go_simp; rfl)); intro g5 hg w1 hbox hb; have GE5 := Lib.hid (show w.heap.size ≤ g5 from by rw [hg]; exact B.out.size); (try have GBA5 := Lib.hid (show _ ≤ g5 from by rw [hg]; exact BA.out.size)); (try have GBB5 := Lib.hid (show _ ≤ g5 from by rw [hg]; exact BB.out.size)); (try have GBC5 := Lib.hid (show _ ≤ g5 from by rw [hg]; exact BC.out.size)); replace X := Lib.hid (Bxs.push X.out (Nat.le_of_eq hg.symm) hb hbox); replace B := Lib.hid (B.out.trans (hb.mono B.out.size)); (try replace BA := Lib.hid (BA.out.trans (hb.mono BA.out.size))); (try replace BB := Lib.hid (BB.out.trans (hb.mono BB.out.size))); (try replace BC := Lib.hid (BC.out.trans (hb.mono BC.out.size))); clear hb hbox hg)
    | ((with_reducible refine gate_store (p := 5) rfl ?_); go_must (refine box_store rfl 42 _ _ rfl rfl g5 (#[.slice A5 E0.length c5, .slice B5 E25.length d5]) rfl rfl (Bxs.at X.out (g := g5) (cs := #[.slice none 0 0, .slice none 0 0]) (t := 42) (by simp)) (by kernel_rfl) rfl (by simp [Value.oneCell']) ?_); intro w1 hx hk hb; replace X := Lib.hid (Bxs.set0 X.out hx hk); replace B := Lib.hid (B.out.trans (hb _ GE5.out)); (try replace BA := Lib.hid (BA.out.trans (hb _ GBA5.out))); (try replace BB := Lib.hid (BB.out.trans (hb _ GBB5.out))); (try replace BC := Lib.hid (BC.out.trans (hb _ GBC5.out))); clear hx hk hb)
    | ((with_reducible refine gate_dst (N := 8) rfl ?_); go_must (refine box_load rfl 42 _ rfl g2 rfl (Bxs.at X.out (g := g2) (cs := #[.slice A2 E0.length c2, .slice B2 E25.length d2]) (t := 42) (by simp)) _ Try.underlying42 rfl (by kernel_rfl) ?_))
    | ((with_reducible refine gate_dst (N := 9) rfl ?_); go_must (refine box_load rfl 42 _ rfl g1 rfl (Bxs.at X.out (g := g1) (cs := #[.slice none E0.length 0, .slice Ab E25.length cb]) (t := 42) (by simp)) _ Try.underlying42 rfl (by kernel_rfl) ?_))
    | ((with_reducible refine gate_dst (N := 12) rfl ?_); go_must (refine box_load rfl 42 _ rfl g2 rfl (Bxs.at X.out (g := g2) (cs := #[.slice A2 E0.length c2, .slice B2 E25.length d2]) (t := 42) (by simp)) _ Try.underlying42 rfl (by kernel_rfl) ?_))
    | ((with_reducible refine gate_dst (N := 15) rfl ?_); go_must (refine box_load rfl 42 _ rfl g2 rfl (Bxs.at X.out (g := g2) (cs := #[.slice A2 E0.length c2, .slice B2 E25.length d2]) (t := 42) (by simp)) _ Try.underlying42 rfl (by kernel_rfl) ?_))
    | ((with_reducible refine gate_dst (N := 24) rfl ?_); go_must (refine box_load rfl 42 _ rfl g5 rfl (Bxs.at X.out (g := g5) (cs := #[.slice A5 E0.length c5, .slice B5 E25.length d5]) (t := 42) (by simp)) _ Try.underlying42 rfl (by kernel_rfl) ?_))
    | ((with_reducible refine gate_dst (N := 25) rfl ?_); go_must (refine box_load rfl 42 _ rfl g1 rfl (Bxs.at X.out (g := g1) (cs := #[.slice none E0.length 0, .slice Ab E25.length cb]) (t := 42) (by simp)) _ Try.underlying42 rfl (by kernel_rfl) ?_))
    | ((with_reducible refine gate_dst (N := 28) rfl ?_); go_must (refine box_load rfl 42 _ rfl g2 rfl (Bxs.at X.out (g := g2) (cs := #[.slice A2 E0.length c2, .slice B2 E25.length d2]) (t := 42) (by simp)) _ Try.underlying42 rfl (by kernel_rfl) ?_))
    )
  go_ret
  exact ⟨rfl, B.out⟩
end Go.Proofs.Yteepckjegpnffaa.P
