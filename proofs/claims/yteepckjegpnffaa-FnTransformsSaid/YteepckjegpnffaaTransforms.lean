/- FnTransforms: the law's walk by hand, with the plain facts of QTrans. -/
import Derived.Test.YteepckjegpnffaaQTrans
import Derived.Test.YteepckjegpnffaaBoxes
import Derived.Test.YteepckjegpnffaaPx26
import Derived.BigRegion
import Derived.Deep.DeepMust
import Derived.Lib.Hide
set_option linter.unusedVariables false
set_option linter.unusedSimpArgs false
namespace Go.Proofs.Yteepckjegpnffaa.P
open Go.RowKit Go.Proofs.Yteepckjegpnffaa.H Go.Proofs.Yteepckjegpnffaa.Q Go.Proofs.YteepckjegpnffaaW.PrintWords Go.Proofs.YteepckjegpnffaaW.PrintLast
def tr (o x y : Int) : Array Value := #[.int .i64 o, .int .i64 x, .int .i64 y]
def pt (x y : Int) : Array Value := #[.int .i64 x, .int .i64 y]
def laws_FnTransforms.f (l0 : List Int) : Option Bool := if ∀ x ∈ l0, 0 ≤ x ∧ x ≤ 255 then some true else none
set_option maxHeartbeats 3000000 in
set_option maxRecDepth 100000 in
theorem laws_FnTransforms.good (A0 : Option Addr) (c0 : Nat) (l0 : List Int) (w : World) (hr0 : Kd.C (Kd.int .u8) w A0 l0.length l0) (hc0 : l0.length ≤ c0)
    (kd k1 k2 k3 k4 k5 k6 k7 : Nat) (o x y o2 x2 y2 co cx cy io ix iy h0 r1 i1 h1 r2 i2 h2 ax ay bx by_ gx gy : Int) (five : Bool)
    (hG : laws_big.f l0 = some false)
    (hD : spec_DrawComposeTransforms.f l0 = some (o, x, y, o2, x2, y2))
    (hS : spec_ComposeTransforms.f k1 o x y o2 x2 y2 = some (co, cx, cy, true))
    (hI : impl_ComposeTransforms.f k2 o x y o2 x2 y2 = some (co, cx, cy, true))
    (hV : impl_InvertTransform.f k3 o x y = some (io, ix, iy, true))
    (hE : impl_ComposeTransforms.f k4 o x y io ix iy = some (0, 0, 0, true))
    (hR : laws_roll.f l0 61 = some (l0, 0, h0))
    (hB1 : laws_dice_below.f l0 0 h0 11 = some (r1, i1, h1))
    (hB2 : laws_dice_below.f l0 i1 h1 11 = some (r2, i2, h2))
    (r10 : 0 ≤ r1) (r11 : r1 < 11) (r20 : 0 ≤ r2) (r21 : r2 < 11)
    (hA : impl_MovePoint.f k5 o x y (r1 - 5) (r2 - 5) = some (ax, ay, true))
    (hB : impl_MovePoint.f k6 co cx cy (r1 - 5) (r2 - 5) = some (bx, by_, true))
    (hU : impl_MovePoint.f k7 o2 x2 y2 ax ay = some (gx, gy, five))
    (hq : five = true → bx = gx ∧ by_ = gy)
    (hcase : (five = true ∧ -40 ≤ ax ∧ ax ≤ 40 ∧ -40 ≤ ay ∧ ay ≤ 40) ∨ (five = false ∧ ax < -40) ∨ (five = false ∧ -40 ≤ ax ∧ 40 < ax) ∨ (five = false ∧ -40 ≤ ax ∧ ax ≤ 40 ∧ ay < -40) ∨ (five = false ∧ -40 ≤ ax ∧ ax ≤ 40 ∧ -40 ≤ ay ∧ 40 < ay)) :
    Calls Try.prog 3 #[.slice A0 l0.length c0] w fun e w' => e = .returned (.bool true) ∧ Below w.heap.size w w' := by
  have HR0 := Lib.hid hr0
  have HC0 := Lib.hid hc0
  have HG := Lib.hid hG
  have HD := Lib.hid hD
  have HS := Lib.hid hS
  have HI := Lib.hid hI
  have HV := Lib.hid hV
  have HE := Lib.hid hE
  have HR := Lib.hid hR
  have HB1 := Lib.hid hB1
  have HB2 := Lib.hid hB2
  have HA := Lib.hid hA
  have HB := Lib.hid hB
  have HU := Lib.hid hU
  have HQ := Lib.hid hq
  clear hr0 hc0 hG hD hS hI hV hE hR hB1 hB2 hA hB hU hq
  have B := Lib.hid (Below.refl w.heap.size w)
  have X := Lib.hid (show Bxs w [] from trivial)
  rcases hcase with ⟨rfl, q1, q2, q3, q4⟩ | ⟨rfl, q1⟩ | ⟨rfl, q1, q2⟩ | ⟨rfl, q1, q2, q3⟩ | ⟨rfl, q1, q2, q3, q4⟩
  all_goals
   go_enter Try.func3, Try.ntmps3
   go_wp2_with (first
    | (go_at_call 13; (with_reducible refine (laws_big.calls A0 _ l0 false _ (Kd.C_below HR0.out B.out) HC0.out HG.out).mono ?_); rintro e w1 ⟨rfl, hb0⟩; have hb := hb0.below; replace X := Lib.hid (Bxs.below hb X.out); replace B := Lib.hid (B.out.trans (hb.mono B.out.size)); clear hb)
    | (go_at_call 14; (with_reducible refine (spec_DrawComposeTransforms.calls A0 _ l0 o x y o2 x2 y2 _ (Kd.C_below HR0.out B.out) HC0.out HD.out).mono ?_); rintro e w1 ⟨rfl, hb⟩; replace X := Lib.hid (Bxs.below hb X.out); replace B := Lib.hid (B.out.trans (hb.mono B.out.size)); clear hb)
    | (go_at_call 15; (with_reducible refine (spec_ComposeTransforms.calls k1 o x y o2 x2 y2 co cx cy true _ HS.out).mono ?_); rintro e w1 ⟨rfl, hb⟩; replace X := Lib.hid (Bxs.below hb X.out); replace B := Lib.hid (B.out.trans (hb.mono B.out.size)); clear hb)
    | (go_at_call 16; (with_reducible refine (impl_ComposeTransforms.calls k2 o x y o2 x2 y2 co cx cy true _ HI.out).mono ?_); rintro e w1 ⟨rfl, hb⟩; replace X := Lib.hid (Bxs.below hb X.out); replace B := Lib.hid (B.out.trans (hb.mono B.out.size)); clear hb)
    | (go_at_call 16; (with_reducible refine (impl_ComposeTransforms.calls k4 o x y io ix iy 0 0 0 true _ HE.out).mono ?_); rintro e w1 ⟨rfl, hb⟩; replace X := Lib.hid (Bxs.below hb X.out); replace B := Lib.hid (B.out.trans (hb.mono B.out.size)); clear hb)
    | (go_at_call 17; (with_reducible refine (impl_InvertTransform.calls k3 o x y io ix iy true _ HV.out).mono ?_); rintro e w1 ⟨rfl, hb⟩; replace X := Lib.hid (Bxs.below hb X.out); replace B := Lib.hid (B.out.trans (hb.mono B.out.size)); clear hb)
    | (go_at_call 20; (with_reducible refine (impl_MovePoint.calls k5 o x y (r1 - 5) (r2 - 5) ax ay true _ HA.out).mono ?_); rintro e w1 ⟨rfl, hb⟩; replace X := Lib.hid (Bxs.below hb X.out); replace B := Lib.hid (B.out.trans (hb.mono B.out.size)); clear hb)
    | (go_at_call 20; (with_reducible refine (impl_MovePoint.calls k6 co cx cy (r1 - 5) (r2 - 5) bx by_ true _ HB.out).mono ?_); rintro e w1 ⟨rfl, hb⟩; replace X := Lib.hid (Bxs.below hb X.out); replace B := Lib.hid (B.out.trans (hb.mono B.out.size)); clear hb)
    | (go_at_call 20; (with_reducible refine (impl_MovePoint.calls k7 o2 x2 y2 ax ay gx gy _ _ HU.out).mono ?_); rintro e w1 ⟨rfl, hb⟩; replace X := Lib.hid (Bxs.below hb X.out); replace B := Lib.hid (B.out.trans (hb.mono B.out.size)); clear hb)
    | (go_at_call 18; (with_reducible refine (laws_roll.calls A0 _ l0 61 l0 0 h0 _ _ (Below.refl _ _) (Kd.C_below HR0.out B.out) HC0.out HR.out).mono ?_); rintro e w1 ⟨gd, rfl, hdi, _, hb⟩; have ND := Lib.hid (fun (y : Nat × Array Value × Nat) hy => Nat.ne_of_lt (Nat.lt_of_lt_of_le (Bxs.lt X.out y hy) (IsS106.ge hdi))); have BW := Lib.hid B.out; have DI := Lib.hid hdi; have BD := Lib.hid hb; clear hdi; replace X := Lib.hid (Bxs.below hb X.out); replace B := Lib.hid (B.out.trans (hb.mono B.out.size)); clear hb)
    | (go_at_call 19; (with_reducible refine (laws_dice_below.calls gd l0 0 h0 11 r1 i1 h1 _ _ DI.out BD.out HB1.out).mono ?_); rintro e w1 ⟨rfl, hdi, hb, hk⟩; replace X := Lib.hid (Bxs.keep hk X.out ND.out); replace B := Lib.hid (BW.out.trans (hb.mono BW.out.size)); replace DI := Lib.hid hdi; replace BD := Lib.hid hb; clear hdi hb hk)
    | (go_at_call 19; (with_reducible refine (laws_dice_below.calls gd l0 i1 h1 11 r2 i2 h2 _ _ DI.out BD.out HB2.out).mono ?_); rintro e w1 ⟨rfl, hdi, hb, hk⟩; replace X := Lib.hid (Bxs.keep hk X.out ND.out); replace B := Lib.hid (BW.out.trans (hb.mono BW.out.size)); replace DI := Lib.hid hdi; replace BD := Lib.hid hb; clear hdi hb hk)
    | ((with_reducible refine gate_dst (N := 3) rfl ?_); refine box_event rfl (N := 3) rfl (cs := #[.int .i64 0, .int .i64 0, .int .i64 0]) (t := 25) ?hr ?_; (case hr => first | (go_simp; done) | (go_simp; rfl)); intro g3 hg w1 hbox hb; have GE3 := Lib.hid (show w.heap.size ≤ g3 from by rw [hg]; exact B.out.size); replace X := Lib.hid (Bxs.push X.out (Nat.le_of_eq hg.symm) hb hbox); replace B := Lib.hid (B.out.trans (hb.mono B.out.size)); clear hb hbox hg)
    | ((with_reducible refine gate_store (p := 3) rfl ?_); go_must (refine box_store rfl 25 _ _ rfl rfl g3 (#[.int .i64 o, .int .i64 x, .int .i64 y]) rfl rfl (Bxs.at X.out (g := g3) (cs := #[.int .i64 0, .int .i64 0, .int .i64 0]) (t := 25) (by simp)) (by kernel_rfl) rfl (by simp [Value.oneCell']) ?_); intro w1 hx hk hb; replace X := Lib.hid (Bxs.set1 X.out hx hk); replace B := Lib.hid (B.out.trans (hb _ GE3.out)); clear hx hk hb)
    | ((with_reducible refine gate_dst (N := 4) rfl ?_); refine box_event rfl (N := 4) rfl (cs := #[.int .i64 0, .int .i64 0, .int .i64 0]) (t := 25) ?hr ?_; (case hr => first | (go_simp; done) | (go_simp; rfl)); intro g4 hg w1 hbox hb; have GE4 := Lib.hid (show w.heap.size ≤ g4 from by rw [hg]; exact B.out.size); replace X := Lib.hid (Bxs.push X.out (Nat.le_of_eq hg.symm) hb hbox); replace B := Lib.hid (B.out.trans (hb.mono B.out.size)); clear hb hbox hg)
    | ((with_reducible refine gate_store (p := 4) rfl ?_); go_must (refine box_store rfl 25 _ _ rfl rfl g4 (#[.int .i64 o2, .int .i64 x2, .int .i64 y2]) rfl rfl (Bxs.at X.out (g := g4) (cs := #[.int .i64 0, .int .i64 0, .int .i64 0]) (t := 25) (by simp)) (by kernel_rfl) rfl (by simp [Value.oneCell']) ?_); intro w1 hx hk hb; replace X := Lib.hid (Bxs.set0 X.out hx hk); replace B := Lib.hid (B.out.trans (hb _ GE4.out)); clear hx hk hb)
    | ((with_reducible refine gate_dst (N := 5) rfl ?_); refine box_event rfl (N := 5) rfl (cs := #[.int .i64 0, .int .i64 0, .int .i64 0]) (t := 25) ?hr ?_; (case hr => first | (go_simp; done) | (go_simp; rfl)); intro g5 hg w1 hbox hb; have GE5 := Lib.hid (show w.heap.size ≤ g5 from by rw [hg]; exact B.out.size); replace X := Lib.hid (Bxs.push X.out (Nat.le_of_eq hg.symm) hb hbox); replace B := Lib.hid (B.out.trans (hb.mono B.out.size)); clear hb hbox hg)
    | ((with_reducible refine gate_store (p := 5) rfl ?_); go_must (refine box_store rfl 25 _ _ rfl rfl g5 (#[.int .i64 co, .int .i64 cx, .int .i64 cy]) rfl rfl (Bxs.at X.out (g := g5) (cs := #[.int .i64 0, .int .i64 0, .int .i64 0]) (t := 25) (by simp)) (by kernel_rfl) rfl (by simp [Value.oneCell']) ?_); intro w1 hx hk hb; replace X := Lib.hid (Bxs.set0 X.out hx hk); replace B := Lib.hid (B.out.trans (hb _ GE5.out)); clear hx hk hb)
    | ((with_reducible refine gate_dst (N := 7) rfl ?_); refine box_event rfl (N := 7) rfl (cs := #[.int .i64 0, .int .i64 0, .int .i64 0]) (t := 25) ?hr ?_; (case hr => first | (go_simp; done) | (go_simp; rfl)); intro g7 hg w1 hbox hb; have GE7 := Lib.hid (show w.heap.size ≤ g7 from by rw [hg]; exact B.out.size); replace X := Lib.hid (Bxs.push X.out (Nat.le_of_eq hg.symm) hb hbox); replace B := Lib.hid (B.out.trans (hb.mono B.out.size)); clear hb hbox hg)
    | ((with_reducible refine gate_store (p := 7) rfl ?_); go_must (refine box_store rfl 25 _ _ rfl rfl g7 (#[.int .i64 co, .int .i64 cx, .int .i64 cy]) rfl rfl (Bxs.at X.out (g := g7) (cs := #[.int .i64 0, .int .i64 0, .int .i64 0]) (t := 25) (by simp)) (by kernel_rfl) rfl (by simp [Value.oneCell']) ?_); intro w1 hx hk hb; replace X := Lib.hid (Bxs.set0 X.out hx hk); replace B := Lib.hid (B.out.trans (hb _ GE7.out)); clear hx hk hb)
    | ((with_reducible refine gate_dst (N := 9) rfl ?_); refine box_event rfl (N := 9) rfl (cs := #[.int .i64 0, .int .i64 0, .int .i64 0]) (t := 25) ?hr ?_; (case hr => first | (go_simp; done) | (go_simp; rfl)); intro g9 hg w1 hbox hb; have GE9 := Lib.hid (show w.heap.size ≤ g9 from by rw [hg]; exact B.out.size); replace X := Lib.hid (Bxs.push X.out (Nat.le_of_eq hg.symm) hb hbox); replace B := Lib.hid (B.out.trans (hb.mono B.out.size)); clear hb hbox hg)
    | ((with_reducible refine gate_store (p := 9) rfl ?_); go_must (refine box_store rfl 25 _ _ rfl rfl g9 (#[.int .i64 io, .int .i64 ix, .int .i64 iy]) rfl rfl (Bxs.at X.out (g := g9) (cs := #[.int .i64 0, .int .i64 0, .int .i64 0]) (t := 25) (by simp)) (by kernel_rfl) rfl (by simp [Value.oneCell']) ?_); intro w1 hx hk hb; replace X := Lib.hid (Bxs.set0 X.out hx hk); replace B := Lib.hid (B.out.trans (hb _ GE9.out)); clear hx hk hb)
    | ((with_reducible refine gate_dst (N := 11) rfl ?_); refine box_event rfl (N := 11) rfl (cs := #[.int .i64 0, .int .i64 0, .int .i64 0]) (t := 25) ?hr ?_; (case hr => first | (go_simp; done) | (go_simp; rfl)); intro g11 hg w1 hbox hb; have GE11 := Lib.hid (show w.heap.size ≤ g11 from by rw [hg]; exact B.out.size); replace X := Lib.hid (Bxs.push X.out (Nat.le_of_eq hg.symm) hb hbox); replace B := Lib.hid (B.out.trans (hb.mono B.out.size)); clear hb hbox hg)
    | ((with_reducible refine gate_store (p := 11) rfl ?_); go_must (refine box_store rfl 25 _ _ rfl rfl g11 (#[.int .i64 0, .int .i64 0, .int .i64 0]) rfl rfl (Bxs.at X.out (g := g11) (cs := #[.int .i64 0, .int .i64 0, .int .i64 0]) (t := 25) (by simp)) (by kernel_rfl) rfl (by simp [Value.oneCell']) ?_); intro w1 hx hk hb; replace X := Lib.hid (Bxs.set0 X.out hx hk); replace B := Lib.hid (B.out.trans (hb _ GE11.out)); clear hx hk hb)
    | ((with_reducible refine gate_dst (N := 14) rfl ?_); refine box_event rfl (N := 14) rfl (cs := #[.int .i64 0, .int .i64 0]) (t := 36) ?hr ?_; (case hr => first | (go_simp; done) | (go_simp; rfl)); intro g14 hg w1 hbox hb; have GE14 := Lib.hid (show w.heap.size ≤ g14 from by rw [hg]; exact B.out.size); replace X := Lib.hid (Bxs.push X.out (Nat.le_of_eq hg.symm) hb hbox); replace B := Lib.hid (B.out.trans (hb.mono B.out.size)); clear hb hbox hg)
    | ((with_reducible refine gate_store (p := 14) rfl ?_); go_must (refine box_store rfl 36 _ _ rfl rfl g14 (#[.int .i64 (r1 - 5), .int .i64 (r2 - 5)]) rfl rfl (Bxs.at X.out (g := g14) (cs := #[.int .i64 0, .int .i64 0]) (t := 36) (by simp)) (by kernel_rfl) rfl (by simp [Value.oneCell']) ?_); intro w1 hx hk hb; replace X := Lib.hid (Bxs.set0 X.out hx hk); replace B := Lib.hid (B.out.trans (hb _ GE14.out)); clear hx hk hb)
    | ((with_reducible refine gate_dst (N := 15) rfl ?_); refine box_event rfl (N := 15) rfl (cs := #[.int .i64 0, .int .i64 0]) (t := 36) ?hr ?_; (case hr => first | (go_simp; done) | (go_simp; rfl)); intro g15 hg w1 hbox hb; have GE15 := Lib.hid (show w.heap.size ≤ g15 from by rw [hg]; exact B.out.size); replace X := Lib.hid (Bxs.push X.out (Nat.le_of_eq hg.symm) hb hbox); replace B := Lib.hid (B.out.trans (hb.mono B.out.size)); clear hb hbox hg)
    | ((with_reducible refine gate_store (p := 15) rfl ?_); go_must (refine box_store rfl 36 _ _ rfl rfl g15 (#[.int .i64 ax, .int .i64 ay]) rfl rfl (Bxs.at X.out (g := g15) (cs := #[.int .i64 0, .int .i64 0]) (t := 36) (by simp)) (by kernel_rfl) rfl (by simp [Value.oneCell']) ?_); intro w1 hx hk hb; replace X := Lib.hid (Bxs.set0 X.out hx hk); replace B := Lib.hid (B.out.trans (hb _ GE15.out)); clear hx hk hb)
    | ((with_reducible refine gate_dst (N := 17) rfl ?_); refine box_event rfl (N := 17) rfl (cs := #[.int .i64 0, .int .i64 0]) (t := 36) ?hr ?_; (case hr => first | (go_simp; done) | (go_simp; rfl)); intro g17 hg w1 hbox hb; have GE17 := Lib.hid (show w.heap.size ≤ g17 from by rw [hg]; exact B.out.size); replace X := Lib.hid (Bxs.push X.out (Nat.le_of_eq hg.symm) hb hbox); replace B := Lib.hid (B.out.trans (hb.mono B.out.size)); clear hb hbox hg)
    | ((with_reducible refine gate_store (p := 17) rfl ?_); go_must (refine box_store rfl 36 _ _ rfl rfl g17 (#[.int .i64 bx, .int .i64 by_]) rfl rfl (Bxs.at X.out (g := g17) (cs := #[.int .i64 0, .int .i64 0]) (t := 36) (by simp)) (by kernel_rfl) rfl (by simp [Value.oneCell']) ?_); intro w1 hx hk hb; replace X := Lib.hid (Bxs.set0 X.out hx hk); replace B := Lib.hid (B.out.trans (hb _ GE17.out)); clear hx hk hb)
    | ((with_reducible refine gate_dst (N := 19) rfl ?_); refine box_event rfl (N := 19) rfl (cs := #[.int .i64 0, .int .i64 0]) (t := 36) ?hr ?_; (case hr => first | (go_simp; done) | (go_simp; rfl)); intro g19 hg w1 hbox hb; have GE19 := Lib.hid (show w.heap.size ≤ g19 from by rw [hg]; exact B.out.size); replace X := Lib.hid (Bxs.push X.out (Nat.le_of_eq hg.symm) hb hbox); replace B := Lib.hid (B.out.trans (hb.mono B.out.size)); clear hb hbox hg)
    | ((with_reducible refine gate_store (p := 19) rfl ?_); go_must (refine box_store rfl 36 _ _ rfl rfl g19 (#[.int .i64 gx, .int .i64 gy]) rfl rfl (Bxs.at X.out (g := g19) (cs := #[.int .i64 0, .int .i64 0]) (t := 36) (by simp)) (by kernel_rfl) rfl (by simp [Value.oneCell']) ?_); intro w1 hx hk hb; replace X := Lib.hid (Bxs.set0 X.out hx hk); replace B := Lib.hid (B.out.trans (hb _ GE19.out)); clear hx hk hb; have c5_0 := (Bxs.at X.out (g := g5) (cs := #[.int .i64 co, .int .i64 cx, .int .i64 cy]) (t := 25) (by simp)).cell 0 _ rfl; have c5_1 := (Bxs.at X.out (g := g5) (cs := #[.int .i64 co, .int .i64 cx, .int .i64 cy]) (t := 25) (by simp)).cell 1 _ rfl; have c5_2 := (Bxs.at X.out (g := g5) (cs := #[.int .i64 co, .int .i64 cx, .int .i64 cy]) (t := 25) (by simp)).cell 2 _ rfl; have c7_0 := (Bxs.at X.out (g := g7) (cs := #[.int .i64 co, .int .i64 cx, .int .i64 cy]) (t := 25) (by simp)).cell 0 _ rfl; have c7_1 := (Bxs.at X.out (g := g7) (cs := #[.int .i64 co, .int .i64 cx, .int .i64 cy]) (t := 25) (by simp)).cell 1 _ rfl; have c7_2 := (Bxs.at X.out (g := g7) (cs := #[.int .i64 co, .int .i64 cx, .int .i64 cy]) (t := 25) (by simp)).cell 2 _ rfl; have c11_0 := (Bxs.at X.out (g := g11) (cs := #[.int .i64 0, .int .i64 0, .int .i64 0]) (t := 25) (by simp)).cell 0 _ rfl; have c11_1 := (Bxs.at X.out (g := g11) (cs := #[.int .i64 0, .int .i64 0, .int .i64 0]) (t := 25) (by simp)).cell 1 _ rfl; have c11_2 := (Bxs.at X.out (g := g11) (cs := #[.int .i64 0, .int .i64 0, .int .i64 0]) (t := 25) (by simp)).cell 2 _ rfl; have c15_0 := (Bxs.at X.out (g := g15) (cs := #[.int .i64 ax, .int .i64 ay]) (t := 36) (by simp)).cell 0 _ rfl; have c15_1 := (Bxs.at X.out (g := g15) (cs := #[.int .i64 ax, .int .i64 ay]) (t := 36) (by simp)).cell 1 _ rfl; have c17_0 := (Bxs.at X.out (g := g17) (cs := #[.int .i64 bx, .int .i64 by_]) (t := 36) (by simp)).cell 0 _ rfl; have c17_1 := (Bxs.at X.out (g := g17) (cs := #[.int .i64 bx, .int .i64 by_]) (t := 36) (by simp)).cell 1 _ rfl; have c19_0 := (Bxs.at X.out (g := g19) (cs := #[.int .i64 gx, .int .i64 gy]) (t := 36) (by simp)).cell 0 _ rfl; have c19_1 := (Bxs.at X.out (g := g19) (cs := #[.int .i64 gx, .int .i64 gy]) (t := 36) (by simp)).cell 1 _ rfl; (try have eb := (HQ.out trivial).1); (try have ey := (HQ.out trivial).2))
    | ((with_reducible refine gate_dst (N := 30) rfl ?_); go_must (refine box_load rfl 25 _ rfl g3 rfl (Bxs.at X.out (g := g3) (cs := #[.int .i64 o, .int .i64 x, .int .i64 y]) (t := 25) (by simp)) _ Try.underlying25 rfl (by kernel_rfl) ?_))
    | ((with_reducible refine gate_dst (N := 31) rfl ?_); go_must (refine box_load rfl 25 _ rfl g4 rfl (Bxs.at X.out (g := g4) (cs := #[.int .i64 o2, .int .i64 x2, .int .i64 y2]) (t := 25) (by simp)) _ Try.underlying25 rfl (by kernel_rfl) ?_))
    | ((with_reducible refine gate_dst (N := 38) rfl ?_); go_must (refine box_load rfl 25 _ rfl g3 rfl (Bxs.at X.out (g := g3) (cs := #[.int .i64 o, .int .i64 x, .int .i64 y]) (t := 25) (by simp)) _ Try.underlying25 rfl (by kernel_rfl) ?_))
    | ((with_reducible refine gate_dst (N := 39) rfl ?_); go_must (refine box_load rfl 25 _ rfl g4 rfl (Bxs.at X.out (g := g4) (cs := #[.int .i64 o2, .int .i64 x2, .int .i64 y2]) (t := 25) (by simp)) _ Try.underlying25 rfl (by kernel_rfl) ?_))
    | ((with_reducible refine gate_dst (N := 44) rfl ?_); go_must (refine box_load rfl 25 _ rfl g3 rfl (Bxs.at X.out (g := g3) (cs := #[.int .i64 o, .int .i64 x, .int .i64 y]) (t := 25) (by simp)) _ Try.underlying25 rfl (by kernel_rfl) ?_))
    | ((with_reducible refine gate_dst (N := 49) rfl ?_); go_must (refine box_load rfl 25 _ rfl g3 rfl (Bxs.at X.out (g := g3) (cs := #[.int .i64 o, .int .i64 x, .int .i64 y]) (t := 25) (by simp)) _ Try.underlying25 rfl (by kernel_rfl) ?_))
    | ((with_reducible refine gate_dst (N := 50) rfl ?_); go_must (refine box_load rfl 25 _ rfl g9 rfl (Bxs.at X.out (g := g9) (cs := #[.int .i64 io, .int .i64 ix, .int .i64 iy]) (t := 25) (by simp)) _ Try.underlying25 rfl (by kernel_rfl) ?_))
    | ((with_reducible refine gate_dst (N := 64) rfl ?_); go_must (refine box_load rfl 25 _ rfl g3 rfl (Bxs.at X.out (g := g3) (cs := #[.int .i64 o, .int .i64 x, .int .i64 y]) (t := 25) (by simp)) _ Try.underlying25 rfl (by kernel_rfl) ?_))
    | ((with_reducible refine gate_dst (N := 65) rfl ?_); go_must (refine box_load rfl 36 _ rfl g14 rfl (Bxs.at X.out (g := g14) (cs := #[.int .i64 (r1 - 5), .int .i64 (r2 - 5)]) (t := 36) (by simp)) _ Try.underlying36 rfl (by kernel_rfl) ?_))
    | ((with_reducible refine gate_dst (N := 70) rfl ?_); go_must (refine box_load rfl 25 _ rfl g7 rfl (Bxs.at X.out (g := g7) (cs := #[.int .i64 co, .int .i64 cx, .int .i64 cy]) (t := 25) (by simp)) _ Try.underlying25 rfl (by kernel_rfl) ?_))
    | ((with_reducible refine gate_dst (N := 71) rfl ?_); go_must (refine box_load rfl 36 _ rfl g14 rfl (Bxs.at X.out (g := g14) (cs := #[.int .i64 (r1 - 5), .int .i64 (r2 - 5)]) (t := 36) (by simp)) _ Try.underlying36 rfl (by kernel_rfl) ?_))
    | ((with_reducible refine gate_dst (N := 76) rfl ?_); go_must (refine box_load rfl 25 _ rfl g4 rfl (Bxs.at X.out (g := g4) (cs := #[.int .i64 o2, .int .i64 x2, .int .i64 y2]) (t := 25) (by simp)) _ Try.underlying25 rfl (by kernel_rfl) ?_))
    | ((with_reducible refine gate_dst (N := 77) rfl ?_); go_must (refine box_load rfl 36 _ rfl g15 rfl (Bxs.at X.out (g := g15) (cs := #[.int .i64 ax, .int .i64 ay]) (t := 36) (by simp)) _ Try.underlying36 rfl (by kernel_rfl) ?_))
    )
   all_goals
    clear X DI BD BW ND
    first
    | (exfalso; have q := HQ.out trivial; omega)
    | (go_ret; exact ⟨rfl, B.out⟩)
theorem laws_FnTransforms.big (A0 : Option Addr) (c0 : Nat) (l0 : List Int) (w : World) (hr0 : Kd.C (Kd.int .u8) w A0 l0.length l0) (hc0 : l0.length ≤ c0)
    (hG : laws_big.f l0 = some true) :
    Calls Try.prog 3 #[.slice A0 l0.length c0] w fun e w' => e = .returned (.bool true) ∧ Below w.heap.size w w' := by
  have HR0 := Lib.hid hr0
  have HC0 := Lib.hid hc0
  have HG := Lib.hid hG
  clear hr0 hc0 hG
  go_enter Try.func3, Try.ntmps3
  go_wp2_with (go_at_call 13; (with_reducible refine (laws_big.calls A0 _ l0 true _ HR0.out HC0.out HG.out).mono ?_); rintro e w1 ⟨rfl, hb0⟩; have B := Lib.hid hb0.below; clear hb0)
  go_ret
  exact ⟨rfl, B.out⟩
set_option maxRecDepth 100000 in
theorem laws_FnTransforms.bad (A0 : Option Addr) (c0 : Nat) (l0 : List Int) (w : World) (hr0 : Kd.C (Kd.int .u8) w A0 l0.length l0) (hc0 : l0.length ≤ c0)
    (k1 : Nat) (o x y o2 x2 y2 : Int)
    (hG : laws_big.f l0 = some false)
    (hD : spec_DrawComposeTransforms.f l0 = some (o, x, y, o2, x2, y2))
    (hS : spec_ComposeTransforms.f k1 o x y o2 x2 y2 = some (0, 0, 0, false)) :
    Calls Try.prog 3 #[.slice A0 l0.length c0] w fun e w' => e = .returned (.bool true) ∧ Below w.heap.size w w' := by
  have HR0 := Lib.hid hr0
  have HC0 := Lib.hid hc0
  have HG := Lib.hid hG
  have HD := Lib.hid hD
  have HS := Lib.hid hS
  clear hr0 hc0 hG hD hS
  have B := Lib.hid (Below.refl w.heap.size w)
  have X := Lib.hid (show Bxs w [] from trivial)
  go_enter Try.func3, Try.ntmps3
  go_wp2_with (first
    | (go_at_call 13; (with_reducible refine (laws_big.calls A0 _ l0 false _ (Kd.C_below HR0.out B.out) HC0.out HG.out).mono ?_); rintro e w1 ⟨rfl, hb0⟩; have hb := hb0.below; replace X := Lib.hid (Bxs.below hb X.out); replace B := Lib.hid (B.out.trans (hb.mono B.out.size)); clear hb)
    | (go_at_call 14; (with_reducible refine (spec_DrawComposeTransforms.calls A0 _ l0 o x y o2 x2 y2 _ (Kd.C_below HR0.out B.out) HC0.out HD.out).mono ?_); rintro e w1 ⟨rfl, hb⟩; replace X := Lib.hid (Bxs.below hb X.out); replace B := Lib.hid (B.out.trans (hb.mono B.out.size)); clear hb)
    | (go_at_call 15; (with_reducible refine (spec_ComposeTransforms.calls k1 o x y o2 x2 y2 0 0 0 false _ HS.out).mono ?_); rintro e w1 ⟨rfl, hb⟩; replace X := Lib.hid (Bxs.below hb X.out); replace B := Lib.hid (B.out.trans (hb.mono B.out.size)); clear hb)
    | ((with_reducible refine gate_dst (N := 3) rfl ?_); refine box_event rfl (N := 3) rfl (cs := #[.int .i64 0, .int .i64 0, .int .i64 0]) (t := 25) ?hr ?_; (case hr => first | (go_simp; done) | (go_simp; rfl)); intro g3 hg w1 hbox hb; have GE3 := Lib.hid (show w.heap.size ≤ g3 from by rw [hg]; exact B.out.size); replace X := Lib.hid (Bxs.push X.out (Nat.le_of_eq hg.symm) hb hbox); replace B := Lib.hid (B.out.trans (hb.mono B.out.size)); clear hb hbox hg)
    | ((with_reducible refine gate_store (p := 3) rfl ?_); go_must (refine box_store rfl 25 _ _ rfl rfl g3 (#[.int .i64 o, .int .i64 x, .int .i64 y]) rfl rfl (Bxs.at X.out (g := g3) (cs := #[.int .i64 0, .int .i64 0, .int .i64 0]) (t := 25) (by simp)) (by kernel_rfl) rfl (by simp [Value.oneCell']) ?_); intro w1 hx hk hb; replace X := Lib.hid (Bxs.set1 X.out hx hk); replace B := Lib.hid (B.out.trans (hb _ GE3.out)); clear hx hk hb)
    | ((with_reducible refine gate_dst (N := 4) rfl ?_); refine box_event rfl (N := 4) rfl (cs := #[.int .i64 0, .int .i64 0, .int .i64 0]) (t := 25) ?hr ?_; (case hr => first | (go_simp; done) | (go_simp; rfl)); intro g4 hg w1 hbox hb; have GE4 := Lib.hid (show w.heap.size ≤ g4 from by rw [hg]; exact B.out.size); replace X := Lib.hid (Bxs.push X.out (Nat.le_of_eq hg.symm) hb hbox); replace B := Lib.hid (B.out.trans (hb.mono B.out.size)); clear hb hbox hg)
    | ((with_reducible refine gate_store (p := 4) rfl ?_); go_must (refine box_store rfl 25 _ _ rfl rfl g4 (#[.int .i64 o2, .int .i64 x2, .int .i64 y2]) rfl rfl (Bxs.at X.out (g := g4) (cs := #[.int .i64 0, .int .i64 0, .int .i64 0]) (t := 25) (by simp)) (by kernel_rfl) rfl (by simp [Value.oneCell']) ?_); intro w1 hx hk hb; replace X := Lib.hid (Bxs.set0 X.out hx hk); replace B := Lib.hid (B.out.trans (hb _ GE4.out)); clear hx hk hb)
    | ((with_reducible refine gate_dst (N := 5) rfl ?_); refine box_event rfl (N := 5) rfl (cs := #[.int .i64 0, .int .i64 0, .int .i64 0]) (t := 25) ?hr ?_; (case hr => first | (go_simp; done) | (go_simp; rfl)); intro g5 hg w1 hbox hb; have GE5 := Lib.hid (show w.heap.size ≤ g5 from by rw [hg]; exact B.out.size); replace X := Lib.hid (Bxs.push X.out (Nat.le_of_eq hg.symm) hb hbox); replace B := Lib.hid (B.out.trans (hb.mono B.out.size)); clear hb hbox hg)
    | ((with_reducible refine gate_store (p := 5) rfl ?_); go_must (refine box_store rfl 25 _ _ rfl rfl g5 (#[.int .i64 0, .int .i64 0, .int .i64 0]) rfl rfl (Bxs.at X.out (g := g5) (cs := #[.int .i64 0, .int .i64 0, .int .i64 0]) (t := 25) (by simp)) (by kernel_rfl) rfl (by simp [Value.oneCell']) ?_); intro w1 hx hk hb; replace X := Lib.hid (Bxs.set0 X.out hx hk); replace B := Lib.hid (B.out.trans (hb _ GE5.out)); clear hx hk hb)
    | ((with_reducible refine gate_dst (N := 30) rfl ?_); go_must (refine box_load rfl 25 _ rfl g3 rfl (Bxs.at X.out (g := g3) (cs := #[.int .i64 o, .int .i64 x, .int .i64 y]) (t := 25) (by simp)) _ Try.underlying25 rfl (by kernel_rfl) ?_))
    | ((with_reducible refine gate_dst (N := 31) rfl ?_); go_must (refine box_load rfl 25 _ rfl g4 rfl (Bxs.at X.out (g := g4) (cs := #[.int .i64 o2, .int .i64 x2, .int .i64 y2]) (t := 25) (by simp)) _ Try.underlying25 rfl (by kernel_rfl) ?_))
    )
  go_ret
  exact ⟨rfl, B.out⟩
theorem laws_FnTransforms.calls (A0 : Option Addr) (c0 : Nat) (l0 : List Int) (r : Bool) (w : World) (hr0 : Kd.C (Kd.int .u8) w A0 l0.length l0) (hc0 : l0.length ≤ c0) (h : laws_FnTransforms.f l0 = some r) :
    Calls Try.prog 3 #[.slice A0 l0.length c0] w fun e w' => e = .returned (.bool r) ∧ Below w.heap.size w w' := by
  unfold laws_FnTransforms.f at h
  split at h
  · rename_i hb
    obtain rfl := Option.some.inj h
    by_cases hbig : (l0.length : Int) > 4096
    · exact laws_FnTransforms.big A0 c0 l0 w hr0 hc0 (by simp [laws_big.f, hbig])
    · have hl : l0.length ≤ 4096 := by omega
      have hG : laws_big.f l0 = some false := by simp [laws_big.f]; omega
      obtain ⟨o, x, y, o2, x2, y2, hD⟩ := drawC_f l0 hl
      obtain ⟨k1, hS⟩ := (spec_cmp o x y o2 x2 y2).rounds
      obtain ⟨k2, hI⟩ := (impl_cmp o x y o2 x2 y2).rounds
      by_cases hok : (okT o x y && okT o2 x2 y2 && okT (cmpo o o2) (cx o x y o2 x2 y2) (cy o x y o2 x2 y2)) = true
      · have ec : cmpT o x y o2 x2 y2 = (cmpo o o2, cx o x y o2 x2 y2, cy o x y o2 x2 y2, true) := if_pos hok
        rw [ec] at hS hI
        simp only [Bool.and_eq_true] at hok
        obtain ⟨⟨t1, t2⟩, t3⟩ := hok
        obtain ⟨k3, hV⟩ := (impl_inv t1).rounds
        obtain ⟨k4, hE⟩ := (impl_cmp o x y (ino o) (tx (ino o) (-x) (-y)) (ty (ino o) (-x) (-y))).rounds
        rw [inv_ok t1] at hE
        obtain ⟨r1, i1, h1, hB1, r10, r11, i10, i11⟩ := below_f l0 0 (rollOf l0 61) 11 hb hl (by omega) (by omega) (by omega) (by omega)
        obtain ⟨r2, i2, h2, hB2, r20, r21, _, _⟩ := below_f l0 i1 h1 11 hb hl i10 i11 (by omega) (by omega)
        obtain ⟨a0, a1, a2, a3, a4, a5⟩ := okT_bd t1
        obtain ⟨b0, b1, b2, b3, b4, b5⟩ := okT_bd t2
        have hon : onP (r1 - 5) (r2 - 5) = true := decide_eq_true ⟨by omega, by omega, by omega, by omega⟩
        obtain ⟨k5, hA⟩ := (impl_mvP o x y (r1 - 5) (r2 - 5)).rounds
        obtain ⟨k6, hB⟩ := (impl_mvP (cmpo o o2) (cx o x y o2 x2 y2) (cy o x y o2 x2 y2) (r1 - 5) (r2 - 5)).rounds
        obtain ⟨k7, hU⟩ := (impl_mvP o2 x2 y2 (tx o (r1 - 5) (r2 - 5) + x) (ty o (r1 - 5) (r2 - 5) + y)).rounds
        have eA : mvP o x y (r1 - 5) (r2 - 5) = (tx o (r1 - 5) (r2 - 5) + x, ty o (r1 - 5) (r2 - 5) + y, true) := by unfold mvP; rw [t1, hon]; rfl
        have eB : mvP (cmpo o o2) (cx o x y o2 x2 y2) (cy o x y o2 x2 y2) (r1 - 5) (r2 - 5) = (tx (cmpo o o2) (r1 - 5) (r2 - 5) + cx o x y o2 x2 y2, ty (cmpo o o2) (r1 - 5) (r2 - 5) + cy o x y o2 x2 y2, true) := by unfold mvP; rw [t3, hon]; rfl
        rw [eA] at hA
        rw [eB] at hB
        obtain ⟨m1, m2⟩ := cmpo_acts a0 a1 b0 b1 (r1 - 5) (r2 - 5)
        obtain ⟨n1, n2⟩ := t_lin o2 (tx o (r1 - 5) (r2 - 5)) (ty o (r1 - 5) (r2 - 5)) x y
        cases ho : onP (tx o (r1 - 5) (r2 - 5) + x) (ty o (r1 - 5) (r2 - 5) + y) with
        | true =>
          have eU : mvP o2 x2 y2 (tx o (r1 - 5) (r2 - 5) + x) (ty o (r1 - 5) (r2 - 5) + y) = (tx o2 (tx o (r1 - 5) (r2 - 5) + x) (ty o (r1 - 5) (r2 - 5) + y) + x2, ty o2 (tx o (r1 - 5) (r2 - 5) + x) (ty o (r1 - 5) (r2 - 5) + y) + y2, true) := by unfold mvP; rw [t2, ho]; rfl
          rw [eU] at hU
          obtain ⟨c1, c2, c3, c4⟩ := of_decide_eq_true ho
          refine laws_FnTransforms.good A0 c0 l0 w hr0 hc0 0 k1 k2 k3 k4 k5 k6 k7 o x y o2 x2 y2 _ _ _ _ _ _ _ r1 i1 h1 r2 i2 h2 _ _ _ _ _ _ true hG hD hS hI hV hE rfl hB1 hB2 r10 r11 r20 r21 hA hB hU (fun _ => ?_) (.inl ⟨rfl, c1, c2, c3, c4⟩)
          rw [m1, m2, n1, n2]
          unfold cx cy
          constructor <;> omega
        | false =>
          have eU : mvP o2 x2 y2 (tx o (r1 - 5) (r2 - 5) + x) (ty o (r1 - 5) (r2 - 5) + y) = (0, 0, false) := by unfold mvP; rw [t2, ho]; rfl
          rw [eU] at hU
          have c := of_decide_eq_false ho
          refine laws_FnTransforms.good A0 c0 l0 w hr0 hc0 0 k1 k2 k3 k4 k5 k6 k7 o x y o2 x2 y2 _ _ _ _ _ _ _ r1 i1 h1 r2 i2 h2 _ _ _ _ _ _ false hG hD hS hI hV hE rfl hB1 hB2 r10 r11 r20 r21 hA hB hU (fun h => by cases h) ?_
          generalize tx o (r1 - 5) (r2 - 5) + x = u at *
          generalize ty o (r1 - 5) (r2 - 5) + y = v at *
          refine .inr ?_
          by_cases q1 : u < -40
          · exact .inl ⟨rfl, q1⟩
          · by_cases q2 : 40 < u
            · exact .inr (.inl ⟨rfl, by omega, q2⟩)
            · by_cases q3 : v < -40
              · exact .inr (.inr (.inl ⟨rfl, by omega, by omega, q3⟩))
              · exact .inr (.inr (.inr ⟨rfl, by omega, by omega, by omega, by omega⟩))
      · have ec : cmpT o x y o2 x2 y2 = (0, 0, 0, false) := if_neg hok
        rw [ec] at hS
        exact laws_FnTransforms.bad A0 c0 l0 w hr0 hc0 k1 o x y o2 x2 y2 hG hD hS
  · cases h
end Go.Proofs.Yteepckjegpnffaa.P
