/- l11Made: the reference's index of a list of entries; walked by hand. -/
import Derived.Test.YteepckjegpnffaaBoxes
import Derived.Test.YteepckjegpnffaaPx1
import Derived.Test.YteepckjegpnffaaPx2
import Derived.BigRegion
import Derived.Deep.RegionHeld3
import Derived.Lib.Hide
set_option linter.unusedVariables false
set_option linter.unusedSimpArgs false
namespace Go.Proofs.Yteepckjegpnffaa.Q
open Go.RowKit Go.Proofs.Yteepckjegpnffaa.P Go.Proofs.Yteepckjegpnffaa.H Go.Proofs.YteepckjegpnffaaW.PrintWords Go.Proofs.YteepckjegpnffaaW.PrintLast
def ovl (a b : S65) : Bool := decide (a.f0 < b.f2 ∧ b.f0 < a.f2 ∧ a.f1 < b.f3 ∧ b.f1 < a.f3)
def bkt (k : Nat) : S65 := ⟨-40 + 16 * ((k % 5 : Nat) : Int), -40 + 16 * ((k / 5 : Nat) : Int), -24 + 16 * ((k % 5 : Nat) : Int), -24 + 16 * ((k / 5 : Nat) : Int)⟩
/-- The ids of the entries that overlap bucket k. -/
def idsOf (l : List S94) (k : Nat) : List Int := (l.filter (fun e => ovl e.f1 (bkt k))).map (fun e => e.f0)
def made (l : List S94) : List (List Int) := (List.range 25).map (idsOf l)
theorem made_len (l : List S94) : (made l).length = 25 := by simp [made]
theorem made_get (l : List S94) (k : Nat) (h : k < 25) : (made l)[k]'(by rw [made_len]; exact h) = idsOf l k := by simp [made]
theorem overlap_f (a b : S65) : spec_l11Overlap.f a.f0 a.f1 a.f2 a.f3 b.f0 b.f1 b.f2 b.f3 = some (ovl a b) := by
  unfold spec_l11Overlap.f ovl
  by_cases h1 : a.f0 < b.f2 <;> by_cases h2 : b.f0 < a.f2 <;> by_cases h3 : a.f1 < b.f3 <;> simp [h1, h2, h3]
theorem bucket_all : ∀ k : Fin 25, spec_l11Bucket.f ((k.val : Nat) : Int) = some ((bkt k.val).f0, (bkt k.val).f1, (bkt k.val).f2, (bkt k.val).f3) := by decide +kernel
theorem bucket_f (k : Nat) (h : k < 25) : spec_l11Bucket.f (k : Int) = some ((bkt k).f0, (bkt k).f1, (bkt k).f2, (bkt k).f3) := bucket_all ⟨k, h⟩
theorem ids_succ (l : List S94) (k i : Nat) (h : i < l.length) : idsOf (l.take (i + 1)) k = if ovl l[i].f1 (bkt k) = true then idsOf (l.take i) k ++ [l[i].f0] else idsOf (l.take i) k := by
  unfold idsOf
  rw [List.take_succ_eq_append_getElem h, List.filter_append, List.map_append]
  by_cases ho : ovl l[i].f1 (bkt k) = true
  · rw [if_pos ho]; simp [ho]
  · rw [if_neg ho]; simp [ho]
theorem ids_len (l : List S94) (k : Nat) : (idsOf l k).length ≤ l.length := by
  unfold idsOf
  rw [List.length_map]
  exact List.length_filter_le _ _

/-- An entry that is read. -/
theorem entCells {w : World} {A : Option Addr} {l : List S94} (h : Kd.C k94 w A l.length l) (i : Nat) (hi : i < l.length) :
    ∃ ad, A = some ad ∧ w.cell? (ad.add (i * 5)) = some (.int .i64 l[i].f0) ∧ w.cell? ⟨(ad.add (i * 5)).block, (ad.add (i * 5)).off + 1, none⟩ = some (.int .i64 l[i].f1.f0) ∧ w.cell? ⟨(ad.add (i * 5)).block, (ad.add (i * 5)).off + 1 + 1, none⟩ = some (.int .i64 l[i].f1.f1) ∧ w.cell? ⟨(ad.add (i * 5)).block, (ad.add (i * 5)).off + 1 + 2, none⟩ = some (.int .i64 l[i].f1.f2) ∧ w.cell? ⟨(ad.add (i * 5)).block, (ad.add (i * 5)).off + 1 + 3, none⟩ = some (.int .i64 l[i].f1.f3) := by
  obtain ⟨ad, e, h0, h1, h2, h3, h4⟩ := at_T94 h (i : Int) (by omega) (by omega)
  have e2 : rd_T94 l (i : Int) = l[i] := by simp [rd_T94, List.getD_eq_getElem?_getD, hi]
  rw [e2] at h0 h1 h2 h3 h4
  rw [Int.toNat_natCast] at h0 h1 h2 h3 h4
  exact ⟨ad, e, h0, h1, h2, h3, h4⟩

abbrev kB : Kd (List Int) := Kd.slice 2 (Kd.int .i64)
theorem below_of_grown {w w1 : World} (h : w.grownBy w1 none) : Below w.heap.size w w1 := ⟨h.os, h.tape, h.output, h.size, fun i hi => h.block i hi (by simp)⟩
/-- The outer loop: buckets 0 to k-1 are made. -/
def ORel (A : Option Addr) (c : Nat) (l : List S94) (g2 g3 : Nat) (w : World) (v : Value) (w' : World) : Prop :=
  ∃ k : Nat, k ≤ 25 ∧ v = .int .i64 k ∧ Below w.heap.size w w' ∧ Box w' g2 #[.slice none 0 0, .slice none 0 0] 42 ∧
    ∃ vB, Box w' g3 #[.slice A l.length c, vB] 42 ∧ Kd.S kB 62 w' w.heap.size (fun _ => True) vB ((made l).take k)
/-- The inner loop: of bucket k the entries 0 to i-1 are through; n0: the heap's size when the bucket's round began. -/
def IRel (A : Option Addr) (c : Nat) (l : List S94) (g2 g3 : Nat) (w : World) (k n0 : Nat) (vB : Value) (v5 v6 : Value) (w' : World) : Prop :=
  ∃ i : Nat, i ≤ l.length ∧ n0 ≤ w'.heap.size ∧ v6 = .int .i64 i ∧ Below w.heap.size w w' ∧ Box w' g2 #[.slice none 0 0, .slice none 0 0] 42 ∧
    Box w' g3 #[.slice A l.length c, vB] 42 ∧ Kd.S kB 62 w' w.heap.size (fun b => b < n0) vB ((made l).take k) ∧
    Kd.R (Kd.int .i64) 2 w' w.heap.size (fun b => n0 ≤ b) v5 (idsOf (l.take i) k)
/-- What a region's loads read, and what stays. -/
abbrev EHeld (wr : World) (ad : Addr) (i : Nat) (e : S94) (w' : World) : Prop :=
  w'.cell? ⟨(ad.add (i * 5)).block, (ad.add (i * 5)).off + 1, none⟩ = some (.int .i64 e.f1.f0) ∧ w'.cell? ⟨(ad.add (i * 5)).block, (ad.add (i * 5)).off + 1 + 1, none⟩ = some (.int .i64 e.f1.f1) ∧ w'.cell? ⟨(ad.add (i * 5)).block, (ad.add (i * 5)).off + 1 + 2, none⟩ = some (.int .i64 e.f1.f2) ∧ w'.cell? ⟨(ad.add (i * 5)).block, (ad.add (i * 5)).off + 1 + 3, none⟩ = some (.int .i64 e.f1.f3) ∧ Below wr.heap.size wr w'
theorem EHeld.step {wr w1 w2 : World} {ad : Addr} {i : Nat} {e : S94} (h : EHeld wr ad i e w1) (hb : Below w1.heap.size w1 w2) : EHeld wr ad i e w2 := by
  obtain ⟨c1, c2, c3, c4, hB⟩ := h
  have k : ∀ (a : Addr) v, w1.cell? a = some v → w2.cell? a = some v := fun a v h => by rw [hb.cell (World.block_lt_of_cell? _ _ h)]; exact h
  exact ⟨k _ _ c1, k _ _ c2, k _ _ c3, k _ _ c4, hB.trans (hb.mono hB.size)⟩
set_option maxHeartbeats 800000 in
theorem made_calls (A : Option Addr) (c : Nat) (l : List S94) (w : World) (hr : Kd.C k94 w A l.length l) (hc : l.length ≤ c) (hl : l.length ≤ 8796093022207) :
    Calls Try.prog 69 #[.slice A l.length c] w fun e w' => ∃ vB, e = .returned (.agg #[.slice A l.length c, vB]) ∧ Kd.S kB 62 w' w.heap.size (fun _ => True) vB (made l) ∧ Below w.heap.size w w' := by
  have HR := Lib.hid hr
  have HC := Lib.hid hc
  clear hr hc
  have B := Lib.hid (Below.refl w.heap.size w)
  have X := Lib.hid (show Bxs w [] from trivial)
  go_enter Try.func69, Try.ntmps69
  go_wp2_with (first
    | ((with_reducible refine gate_dst (N := 2) rfl ?_); refine box_event rfl (N := 2) rfl (cs := #[.slice none 0 0, .slice none 0 0]) (t := 42) ?hr ?_; (case hr => first | (go_simp; done) | (go_simp; rfl)); intro g2 hg w1 hbox hb; have GE2 := Lib.hid (show w.heap.size ≤ g2 from by rw [hg]; exact B.out.size); replace X := Lib.hid (Bxs.push X.out (Nat.le_of_eq hg.symm) hb hbox); replace B := Lib.hid (B.out.trans (hb.mono B.out.size)); clear hb hbox hg)
    | ((with_reducible refine gate_dst (N := 3) rfl ?_); refine box_event rfl (N := 3) rfl (cs := #[.slice none 0 0, .slice none 0 0]) (t := 42) ?hr ?_; (case hr => first | (go_simp; done) | (go_simp; rfl)); intro g3 hg w1 hbox hb; have GE3 := Lib.hid (show w.heap.size ≤ g3 from by rw [hg]; exact B.out.size); replace X := Lib.hid (Bxs.push X.out (Nat.le_of_eq hg.symm) hb hbox); replace B := Lib.hid (B.out.trans (hb.mono B.out.size)); clear hb hbox hg)
    | ((with_reducible refine gate_store (p := 3) rfl ?_); refine box_store rfl 42 _ _ rfl rfl g3 (#[.slice A l.length c, .slice none 0 0]) rfl rfl (Bxs.at X.out (g := g3) (cs := #[.slice none 0 0, .slice none 0 0]) (t := 42) (by simp)) (by kernel_rfl) rfl (by simp [Value.oneCell']) ?_; intro w1 hx hk hb; replace X := Lib.hid (Bxs.set0 X.out hx hk); replace B := Lib.hid (B.out.trans (hb _ GE3.out)); clear hx hk hb))
  go_loopw [4] (fun v w' => ORel A c l g2 g3 w v w') (fun v _ => 25 - (intOf v).toNat)
  case atStart => exact ⟨0, by omega, rfl, B.out, X.out.2.2.1, _, X.out.1, Kd.S_nil _ _ _ _ _⟩
  case round =>
    have N23 := Lib.hid (X.out.2.1 (g2, #[.slice none 0 0, .slice none 0 0], 42) (by simp))
    clear B X
    obtain ⟨k, hk, rfl, hB, hx2, vB, hx3, hS⟩ := hrel
    have B := Lib.hid hB
    have X2 := Lib.hid hx2
    have X3 := Lib.hid hx3
    have SB := Lib.hid hS
    clear hB hx2 hx3 hS
    by_cases hlt : k < 25
    · obtain ⟨wo, rfl⟩ : ∃ wo : World, wo = wr := ⟨_, rfl⟩
      go_wp2_with (first
        | ((with_reducible refine gate_dst (N := 13) rfl ?_); refine Kd.R_lit (Kd.int .i64) (w0 := w) w.heap.size 2 rfl (N := 13) rfl (xs := ([] : List Int)) (inner := []) (ok := fun b => wo.heap.size ≤ b) (okp := fun _ => False) ?hr (Reps.none _ _) (fun _ hk => hk.elim) (Nat.le_refl _) B.out B.out.size (by simp) ?_; (case hr => first | (go_simp; done) | (go_simp; rfl)); intro v5 w1 ho hb hg hn; have hbw : Below wo.heap.size wo w1 := below_of_grown hg; have O1 := Lib.hid ho; have LE := Lib.hid hbw.size; have S1 := Lib.hid (Kd.S_mono (Kd.S_old SB.out hbw) (fun b h => h.2)); replace X2 := Lib.hid (X2.out.below hbw); replace X3 := Lib.hid (X3.out.below hbw); replace B := Lib.hid hb; clear ho hb hg hn hbw SB))
      generalize hn0 : wo.heap.size = n0 at *
      go_loopw [5, 6] (fun v5 v6 w' => IRel A c l g2 g3 w k n0 vB v5 v6 w') (fun _ v6 _ => l.length - (intOf v6).toNat)
      case atStart => exact ⟨0, by omega, LE.out, rfl, B.out, X2.out, X3.out, S1.out, O1.out⟩
      case round =>
        clear B X2 X3 S1 O1 LE
        obtain ⟨i, hi, hle, rfl, hB, hx2, hx3, hS, hO⟩ := hrel
        have B := Lib.hid hB
        have X2 := Lib.hid hx2
        have X3 := Lib.hid hx3
        have S1 := Lib.hid hS
        have O1 := Lib.hid hO
        clear hB hx2 hx3 hS hO
        by_cases hil : i < l.length
        · obtain ⟨ad, rfl, c0, c1, c2, c3, c4⟩ := entCells (Kd.C_below HR.out B.out) i hil
          have hsucc := ids_succ l k i hil
          generalize l[i] = en at *
          have HSU := Lib.hid hsucc
          have HE := Lib.hid (show EHeld wr ad i en wr.drew from ⟨c1, c2, c3, c4, (Below.refl _ _).drew⟩)
          have C0 := Lib.hid c0
          clear hsucc c0 c1 c2 c3 c4
          obtain ⟨wq, rfl⟩ : ∃ wq : World, wq = wr := ⟨_, rfl⟩
          go_wp2_with fail
          go_region_held3 (fun w' => w'.cell? ⟨(ad.add (i * 5)).block, (ad.add (i * 5)).off + 1, none⟩ = some (.int .i64 en.f1.f0) ∧ w'.cell? ⟨(ad.add (i * 5)).block, (ad.add (i * 5)).off + 1 + 1, none⟩ = some (.int .i64 en.f1.f1) ∧ w'.cell? ⟨(ad.add (i * 5)).block, (ad.add (i * 5)).off + 1 + 2, none⟩ = some (.int .i64 en.f1.f2) ∧ w'.cell? ⟨(ad.add (i * 5)).block, (ad.add (i * 5)).off + 1 + 3, none⟩ = some (.int .i64 en.f1.f3) ∧ Below wq.heap.size wq w') (first | exact HE.out | (refine EHeld.step (wr := wq) (ad := ad) (i := i) (e := en) ?_ hb; assumption)) (first
            | (go_at_call 112; (with_reducible refine (spec_l11Bucket.calls _ _ _ _ _ _ (bucket_f k hlt)).mono ?_); rintro e w1 ⟨rfl, hb⟩)
            | (go_at_call 102; (with_reducible refine (spec_l11Overlap.calls _ _ _ _ _ _ _ _ _ _ (overlap_f en.f1 (bkt k))).mono ?_); rintro e w1 ⟨rfl, hb⟩))
          have hbq : Below wq.heap.size wq w1 := by
            rename_i hh
            exact hh.2.2.2.2
          replace C0 := Lib.hid ((hbq.cell (World.block_lt_of_cell? _ _ C0.out)).trans C0.out)
          replace S1 := Lib.hid (Kd.S_below S1.out hbq)
          replace O1 := Lib.hid (Kd.R_below O1.out hbq)
          replace X2 := Lib.hid (X2.out.below hbq)
          replace X3 := Lib.hid (X3.out.below hbq)
          replace B := Lib.hid (B.out.trans (hbq.mono B.out.size))
          have hle1 : n0 ≤ w1.heap.size := Nat.le_trans hle hbq.size
          clear hbq HE
          cases hov : ovl en.f1 (bkt k) with
          | true =>
            have HSU := Lib.hid (show idsOf (l.take (i + 1)) k = idsOf (l.take i) k ++ [en.f0] from by rw [HSU.out, if_pos hov])
            have hc0 := C0.out
            go_wp2_with (at_builtin; refine Kd.R_append (Kd.int .i64) (w0 := w) w.heap.size rfl (.tmp 28) (.tmp 34) 62 2 (.int .i64 0) 8 rfl Try.underlying62 info2 rfl (by decide) (by omega) _ (idsOf (l.take i) k) en.f0 [.int .i64 en.f0] (fun b => n0 ≤ b) (fun _ => False) rfl rfl rfl (fun _ hk => hk.elim) (fun b hb => Nat.le_trans hle1 hb) O1.out B.out B.out.size (by have := ids_len (l.take i) k; have h2 := List.length_take (i := i) (l := l); omega) ?_; intro v1 w2 ho hb hg hat)
            refine ⟨⟨i + 1, by omega, Nat.le_trans hle1 hg.size, rfl, hb, blk_grown X2.out hg (Kd.R_ne O1.out X2.out (by decide)), blk_grown X3.out hg (Kd.R_ne O1.out X3.out (by decide)), Kd.S_grown S1.out hg (fun b hbn he => absurd (O1.out.1 b he.symm) (by omega)), by rw [HSU.out]; exact ho⟩, by simp [intOf]; omega⟩
          | false =>
            have HSU := Lib.hid (show idsOf (l.take (i + 1)) k = idsOf (l.take i) k from by rw [HSU.out, hov]; rfl)
            go_wp2_with fail
            exact ⟨⟨i + 1, by omega, hle1, rfl, B.out, X2.out, X3.out, S1.out, by rw [HSU.out]; exact O1.out⟩, by simp [intOf]; omega⟩
        · have hie : i = l.length := by omega
          subst hie
          obtain ⟨A5, c5, e5⟩ := Kd.R_slice O1.out
          subst e5
          rw [List.take_length] at O1
          have O2 := O1
          have f1 := X3.out.cell 1 vB rfl
          have f2 := X3.out.frozen 1
          clear O1
          go_wp2_with (at_builtin; go_loud (refine Kd.S_append kB (w0 := w) w.heap.size rfl (.tmp 37) (.tmp 39) 40 62 (.slice none 0 0) 24 rfl Try.underlying40 info62 rfl (by decide) (by omega) vB ((made l).take k) (idsOf l k) [.slice A5 (idsOf l k).length c5] (fun _ => True) (fun b => n0 ≤ b) rfl rfl (show kB.M wr w.heap.size (fun b => n0 ≤ b) (idsOf l k) [.slice A5 (idsOf l k).length c5] from ⟨_, rfl, O2.out⟩) (fun b hb => ⟨trivial, fun he => absurd ((Kd.S_R S1.out).1 b he.symm) (by omega)⟩) (fun _ _ => trivial) (Kd.S_mono S1.out (fun b hb => ⟨trivial, by omega⟩)) B.out B.out.size (by rw [List.length_take, made_len]; omega) ?_); intro v1 w2 ho hb hg hat; obtain ⟨Av, cv, ev⟩ := Kd.S_slice ho; subst ev; have X2' := Lib.hid (show Box w2 g2 _ _ from blk_grown X2.out hg (Kd.S_ne S1.out X2.out (by decide))); have X3' := Lib.hid (show Box w2 g3 _ _ from blk_grown X3.out hg (Kd.S_ne S1.out X3.out (by decide))); have SO := Lib.hid ho; replace B := Lib.hid hb; clear f1 f2 X2 X3 S1 O2 ho hb hg hat; have f1 := X3'.out.cell 1 vB rfl; have f2 := X3'.out.frozen 1)
          refine ⟨⟨k + 1, by omega, by simp, B.out.setCell GE3.out _, Box.far X2'.out (fun e => N23.out e.symm) _, _, Box.set X3'.out 1 _ _ rfl, ?_⟩, by simp [intOf]; omega⟩
          have hsuc : (made l).take (k + 1) = (made l).take k ++ [idsOf l k] := by rw [List.take_succ_eq_append_getElem (by rw [made_len]; exact hlt), made_get l k hlt]
          rw [hsuc]
          have q := Kd.S_set SO.out X3'.out (by decide) 1 (.slice Av (List.take k (made l) ++ [idsOf l k]).length cv)
          rw [show (List.take k (made l) ++ [idsOf l k]).length = min k (made l).length + 1 from by simp] at q
          exact q
    · have hke : k = 25 := by omega
      subst hke
      have hS := SB.out
      rw [List.take_of_length_le (by rw [made_len]; exact Nat.le_refl _)] at hS
      obtain ⟨Av, cv, ev⟩ := Kd.S_slice hS
      subst ev
      have a1 := X3.out.cell 0 _ rfl
      have a2 := X3.out.cell 1 _ rfl
      go_wp2_with ((with_reducible refine gate_store (p := 2) rfl ?_); refine box_store rfl 42 _ _ rfl rfl g2 _ rfl rfl X2.out (by kernel_rfl) rfl (by simp [Value.oneCell']) ?_; intro w1 hx hkk hbb; have X4 := Lib.hid hx; have SK := Lib.hid (Kd.S_keep (Kd.S_types hS X2.out (by decide)) hkk (fun _ h => h.2)); have B4 := Lib.hid (B.out.trans (hbb _ GE2.out)); clear hx hkk hbb)
      refine bodyPost_ret (v := .agg #[.slice A l.length c, .slice Av (made l).length cv]) ?hres rfl ?_
      case hres => exact results_cell_row rfl _ _ g2 42 _ (0, 0) _ rfl X4.out Try.underlying42 rfl (by kernel_rfl)
      exact ⟨_, rfl, Kd.S_mono SK.out (fun _ _ => trivial), B4.out⟩
end Go.Proofs.Yteepckjegpnffaa.Q
