/- parity: the program's grid of the unit cells with an odd number of vertical edges to their left. -/
import Derived.Test.YtjpfhnpdbjefkaaPx0
import Derived.Test.YtjpfhnpdbjefkaaHand
import Derived.Lib.Hide
import Derived.BigRegion
set_option linter.unusedVariables false
set_option linter.unusedSimpArgs false
namespace Go.Proofs.Ytjpfhnpdbjefkaa.H
open Go.RowKit Go.Proofs.Ytjpfhnpdbjefkaa.P Go.Proofs.YtjpfhnpdbjefkaaW.PrintWords Go.Proofs.YtjpfhnpdbjefkaaW.PrintLast  Go.Proofs.YtjpfhnpdbjefkaaW.PrintMore
attribute [local go_sem] max2_int min2_int max_two min_two
def Ch (x : Int) : Prop := -40 ≤ x ∧ x ≤ 40
def EOk (e : S54) : Prop := Ch e.f0 ∧ Ch e.f1 ∧ Ch e.f2 ∧ Ch e.f3
/-- The unit cell i is in the column x, in a row from the lesser of a and b to below y. -/
def hitTo (x a b y : Int) (i : Nat) : Bool := decide (x + 40 = (i % 80 : Nat) ∧ x < 40 ∧ min a b + 40 ≤ (i / 80 : Nat) ∧ ((i / 80 : Nat) : Int) < y + 40)
def hit (e : S54) (i : Nat) : Bool := hitTo e.f0 e.f1 e.f3 (max e.f1 e.f3) i
def flips (es : List S54) (i : Nat) : Bool := es.foldl (fun b e => b != hit e i) false
theorem rdE_get (l : List S54) (i : Nat) (h : i < l.length) : rd_T54 l i = l[i] := by
  simp [rd_T54, List.getD_eq_getElem?_getD, h]
/-- The edge's variable. -/
def EAt (w : World) (b : Nat) (x0 y0 x1 y1 : Int) : Prop := w.heap[b]? = some (.cells #[.int .i64 x0, .int .i64 y0, .int .i64 x1, .int .i64 y1] 54 (0, 0))
section
variable {w w' : World} {b : Nat} {x0 y0 x1 y1 yy : Int} {g : Nat → Bool} {be : Nat}
theorem EAt.cells (h : EAt w b x0 y0 x1 y1) : w.cell? ⟨b, 0, none⟩ = some (.int .i64 x0) ∧ w.cell? ⟨b, 1, none⟩ = some (.int .i64 y0) ∧ w.cell? ⟨b, 3, none⟩ = some (.int .i64 y1) := by
  unfold EAt at h
  simp [World.cell?, h]
theorem EAt.far (h : EAt w b x0 y0 x1 y1) {p : Addr} (hp : p.block ≠ b) (v : Value) : EAt (w.setCell p v) b x0 y0 x1 y1 := by
  unfold EAt at *
  rw [Below.heap_setCell w p v b (fun e => hp e.symm)]
  exact h
def R1 (w : World) (l0 : List S54) (i : Value) (wr : World) : Prop := ∃ k : Nat, k ≤ l0.length ∧ i = .int .i64 k ∧ Below w.heap.size w wr ∧ Grid wr w.heap.size (flips (l0.take k))
def R2 (w : World) (be : Nat) (x0 y0 x1 y1 : Int) (g : Nat → Bool) (y : Value) (w' : World) : Prop :=
  ∃ yy : Int, min y0 y1 ≤ yy ∧ yy ≤ max y0 y1 ∧ y = .int .i64 yy ∧ Below w.heap.size w w' ∧ Grid w' w.heap.size (fun i => g i != hitTo x0 y0 y1 yy i) ∧ EAt w' be x0 y0 x1 y1
theorem R2.start {y : Int} (hy : y = min y0 y1) (hb : Below w.heap.size w w') (hg : Grid w' w.heap.size g) (he : EAt w' be x0 y0 x1 y1) : R2 w be x0 y0 x1 y1 g (.int .i64 y) w' := by
  subst hy
  refine ⟨_, Int.le_refl _, by omega, rfl, hb, hg.congr fun i _ => ?_, he⟩
  have : hitTo x0 y0 y1 (min y0 y1) i = false := by unfold hitTo; rw [decide_eq_false_iff_not]; omega
  simp [this]
theorem hitTo_step (i : Nat) (h0 : min y0 y1 ≤ yy) (hl : -40 ≤ yy) (hx0 : -40 ≤ x0) : hitTo x0 y0 y1 (yy + 1) i = if x0 < 40 ∧ i = (yy + 40).toNat * 80 + (x0 + 40).toNat then true else hitTo x0 y0 y1 yy i := by
  unfold hitTo
  split
  · rename_i h
    obtain ⟨h1, h2⟩ := h
    have e1 : i % 80 = (x0 + 40).toNat := by omega
    have e2 : i / 80 = (yy + 40).toNat := by omega
    rw [decide_eq_true_eq, e1, e2]
    omega
  · rename_i h
    rw [decide_eq_decide]
    constructor
    · rintro ⟨a, b, c, d⟩
      refine ⟨a, b, c, ?_⟩
      rcases Int.lt_or_le ((i / 80 : Nat) : Int) (yy + 40) with h3 | h3
      · exact h3
      · exact absurd ⟨b, by omega⟩ h
    · rintro ⟨a, b, c, d⟩
      exact ⟨a, b, c, by omega⟩
theorem hitTo_at (hl : -40 ≤ yy) (hx : -40 ≤ x0) (hx2 : x0 < 40) : hitTo x0 y0 y1 yy ((yy + 40).toNat * 80 + (x0 + 40).toNat) = false := by
  unfold hitTo
  rw [decide_eq_false_iff_not]
  omega
theorem R2.skip (h0 : min y0 y1 ≤ yy) (h1 : yy < max y0 y1) (hl : -40 ≤ yy) (hx : 40 ≤ x0) (hb : Below w.heap.size w w') (hg : Grid w' w.heap.size (fun i => g i != hitTo x0 y0 y1 yy i)) (he : EAt w' be x0 y0 x1 y1) :
    R2 w be x0 y0 x1 y1 g (.int .i64 (yy + 1)) w' := by
  refine ⟨_, by omega, by omega, rfl, hb, hg.congr fun i _ => ?_, he⟩
  rw [hitTo_step i h0 (by omega) (by omega), if_neg (by omega)]
theorem R2.put (h0 : min y0 y1 ≤ yy) (h1 : yy < max y0 y1) (hl : -40 ≤ yy) (hh : max y0 y1 ≤ 40) (hx0 : -40 ≤ x0) (hx : x0 < 40) (hb : Below w.heap.size w w') (hbe : be ≠ w.heap.size) (hg : Grid w' w.heap.size (fun i => g i != hitTo x0 y0 y1 yy i)) (he : EAt w' be x0 y0 x1 y1) :
    R2 w be x0 y0 x1 y1 g (.int .i64 (yy + 1)) (w'.setCell ⟨w.heap.size, (yy + 40).toNat * 80 + (x0 + 40).toNat, none⟩ (.bool (!(g ((yy + 40).toNat * 80 + (x0 + 40).toNat))))) := by
  refine ⟨_, by omega, by omega, rfl, hb.setCell (Nat.le_refl _) _, hg.set (by omega) fun i _ => ?_, he.far (fun x => hbe x.symm) _⟩
  rw [hitTo_step i h0 (by omega) (by omega)]
  by_cases hi : i = (yy + 40).toNat * 80 + (x0 + 40).toNat
  · rw [if_pos ⟨hx, hi⟩, if_pos hi, hi]; simp
  · rw [if_neg (fun x => hi x.2), if_neg hi]
theorem R2.drew {y : Value} (h : R2 w be x0 y0 x1 y1 g y w') : R2 w be x0 y0 x1 y1 g y w'.drew := by
  obtain ⟨yy, h1, h2, h3, h4, h5, h6⟩ := h
  exact ⟨yy, h1, h2, h3, h4.drew, h5, h6⟩
theorem R1.step {l0 : List S54} {k : Nat} (hk : k < l0.length) (he : l0[k] = ⟨x0, y0, x1, y1⟩) (hg0 : flips (l0.take k) = g) (h1 : max y0 y1 = yy) (hb : Below w.heap.size w w') (hg : Grid w' w.heap.size (fun i => g i != hitTo x0 y0 y1 yy i)) :
    R1 w l0 (.int .i64 (↑k + 1)) w' := by
  subst h1
  refine ⟨k + 1, by omega, rfl, hb, hg.congr fun i _ => ?_⟩
  rw [List.take_succ_eq_append_getElem hk, he, ← hg0]
  simp [flips, List.foldl_append, hit]
end
/-- The odd count of g's cells up to i in i's row. -/
def px (g : Nat → Bool) (i : Nat) : Bool := (List.range (i % 80 + 1)).foldl (fun b j => b != g (i / 80 * 80 + j)) false
theorem px_first (g : Nat → Bool) (r : Nat) : px g (r * 80) = g (r * 80) := by
  unfold px
  rw [show r * 80 % 80 = 0 from by omega, show r * 80 / 80 = r from by omega]
  simp
theorem px_next (g : Nat → Bool) (r x : Nat) (h : x + 1 < 80) : px g (r * 80 + (x + 1)) = (px g (r * 80 + x) != g (r * 80 + (x + 1))) := by
  unfold px
  rw [show (r * 80 + (x + 1)) % 80 = x + 1 from by omega, show (r * 80 + (x + 1)) / 80 = r from by omega, show (r * 80 + x) % 80 = x from by omega, show (r * 80 + x) / 80 = r from by omega, List.range_succ, List.foldl_append]
  simp
def rowsTo (g : Nat → Bool) (k x : Nat) (i : Nat) : Bool := if i / 80 < k ∨ (i / 80 = k ∧ i % 80 < x) then px g i else g i
section
variable {w w' : World} {g : Nat → Bool}
def R3 (w : World) (g : Nat → Bool) (i : Value) (w' : World) : Prop := ∃ k : Nat, k ≤ 80 ∧ i = .int .i64 k ∧ Below w.heap.size w w' ∧ Grid w' w.heap.size (rowsTo g k 1)
def R4 (w : World) (g : Nat → Bool) (k : Nat) (i : Value) (w' : World) : Prop := ∃ x : Nat, x ≤ 79 ∧ i = .int .i64 (x + 1) ∧ Below w.heap.size w w' ∧ Grid w' w.heap.size (rowsTo g k (x + 1))
theorem R3.start (hb : Below w.heap.size w w') (hg : Grid w' w.heap.size g) : R3 w g (.int .i64 0) w' := by
  refine ⟨0, by omega, rfl, hb, hg.congr fun i _ => ?_⟩
  unfold rowsTo
  split
  · have e : i = 0 := by omega
    subst e
    exact px_first g 0
  · rfl
theorem R4.start {k : Nat} (hb : Below w.heap.size w w') (hg : Grid w' w.heap.size (rowsTo g k 1)) : R4 w g k (.int .i64 1) w' := ⟨0, by omega, rfl, hb, hg⟩
theorem R4.step {k x : Nat} (hx : x < 79) (hk : k < 80) (hb : Below w.heap.size w w') (hg : Grid w' w.heap.size (rowsTo g k (x + 1))) :
    R4 w g k (.int .i64 ((x : Int) + 1 + 1)) (w'.setCell ⟨w.heap.size, k * 80 + (x + 1), none⟩ (.bool (px g (k * 80 + (x + 1))))).drew := by
  refine ⟨x + 1, by omega, by simp, (hb.setCell (Nat.le_refl _) _).drew, Grid.drew (hg.set (by omega) fun i _ => ?_)⟩
  unfold rowsTo
  by_cases hi : i = k * 80 + (x + 1)
  · rw [if_pos hi, if_pos (by omega), hi]
  · rw [if_neg hi]
    by_cases h2 : i / 80 < k ∨ i / 80 = k ∧ i % 80 < x + 1
    · rw [if_pos h2, if_pos (by omega)]
    · rw [if_neg h2, if_neg (by omega)]
theorem R4.reads {k x : Nat} (hx : x < 79) : rowsTo g k (x + 1) (k * 80 + x) = px g (k * 80 + x) ∧ rowsTo g k (x + 1) (k * 80 + (x + 1)) = g (k * 80 + (x + 1)) := by
  unfold rowsTo
  rw [if_pos (by omega), if_neg (by omega)]
  exact ⟨rfl, rfl⟩
theorem R3.step {k x : Nat} (hx : 79 ≤ x) (hk : k < 80) (hb : Below w.heap.size w w') (hg : Grid w' w.heap.size (rowsTo g k (x + 1))) : R3 w g (.int .i64 (↑k + 1)) w' := by
  refine ⟨k + 1, by omega, rfl, hb, hg.congr fun i hi => ?_⟩
  unfold rowsTo
  by_cases h1 : i / 80 < k ∨ i / 80 = k ∧ i % 80 < x + 1
  · rw [if_pos h1, if_pos (by omega)]
  · rw [if_neg h1]
    by_cases h2 : i / 80 < k + 1 ∨ i / 80 = k + 1 ∧ i % 80 < 1
    · rw [if_pos h2]
      have e : i = (k + 1) * 80 := by omega
      rw [e, px_first]
    · rw [if_neg h2]
end
/-- The answer is a pointer to a new grid. -/
def NewGrid (w : World) (g : Nat → Bool) (e : Ending) (w' : World) : Prop := ∃ b, e = .returned (.pointer (some ⟨b, 0, none⟩)) ∧ w.heap.size ≤ b ∧ Below w.heap.size w w' ∧ Grid w' b g
theorem NewGrid.last {w w' : World} {g : Nat → Bool} {k : Nat} (hk : 80 ≤ k) (hb : Below w.heap.size w w') (hg : Grid w' w.heap.size (rowsTo g k 1)) : NewGrid w (px g) (.returned (.pointer (some ⟨w.heap.size, 0, none⟩))) w' := by
  refine ⟨_, rfl, Nat.le_refl _, hb, hg.congr fun i hi => ?_⟩
  unfold rowsTo
  rw [if_pos (by omega)]
set_option maxHeartbeats 400000 in
theorem parity_calls (A0 : Option Addr) (c0 : Nat) (l0 : List S54) (w : World) (hr0 : Kd.C k54 w A0 l0.length l0) (hc0 : l0.length ≤ c0) (hle : l0.length ≤ 1048576) (hok : ∀ e ∈ l0, EOk e) :
    Calls Try.prog 42 #[.slice A0 l0.length c0] w (NewGrid w (px (flips l0))) := by
  have HR := Lib.hid hr0
  clear hr0
  have HOK := Lib.hid hok
  clear hok
  go_enter Try.func42, Try.ntmps42
  go_wp2_with (first | ((with_reducible refine gate_dst (N := 9) rfl ?_); refine wpList_build_nil rfl 65 rfl gridZ built_grid ?_) | ((with_reducible refine gate_dst (N := 10) rfl ?_); refine box_event rfl (N := 10) rfl (cs := gridZ) (t := 65) ?hr ?_; (case hr => first | (go_simp; done) | (go_simp; rfl)); intro gb hg w1 hbox hb))
  subst hg
  go_loopw [13] (fun i wr => R1 w l0 i wr) (fun i _ => l0.length - (intOf i).toNat)
  case atStart => exact ⟨0, by omega, rfl, hb, (Grid.zero hbox).congr (fun _ _ => rfl)⟩
  case round =>
    clear hbox hb
    obtain ⟨k, hk, rfl, hbel, hgrid⟩ := hrel
    obtain ⟨wo, rfl⟩ : ∃ wo : World, wo = wr := ⟨_, rfl⟩
    by_cases hlt : k < l0.length
    · obtain ⟨ad, rfl, h0, h1, h2, h3⟩ := at_T54 (Kd.C_below HR.out hbel) (k : Int) (by omega) (by omega)
      rw [rdE_get l0 k hlt, Int.toNat_natCast] at h0 h1 h2 h3
      have heok := HOK.out _ (List.getElem_mem hlt)
      generalize he : l0[k] = e at *
      obtain ⟨x0, y0, x1, y1⟩ := e
      have HE := Lib.hid he
      clear he
      obtain ⟨⟨o1, o2⟩, ⟨o3, o4⟩, ⟨o5, o6⟩, ⟨o7, o8⟩⟩ := heok
      dsimp only at h0 h1 h2 h3 o1 o2 o3 o4 o5 o6 o7 o8
      have hE : EAt (wo.alloc (.cells #[.int .i64 x0, .int .i64 y0, .int .i64 x1, .int .i64 y1] 54 (0, 0))) wo.heap.size x0 y0 x1 y1 := blk_new wo _
      have hgl := hgrid.lt
      have HG := Lib.hid (hgrid.alloc (.cells #[.int .i64 x0, .int .i64 y0, .int .i64 x1, .int .i64 y1] 54 (0, 0)))
      have HBE := Lib.hid (Below.alloc hbel (hbel.size) (.cells #[.int .i64 x0, .int .i64 y0, .int .i64 x1, .int .i64 y1] 54 (0, 0)))
      have HEA := Lib.hid hE
      clear hE hgrid hbel
      generalize hG : flips (l0.take k) = g at *
      have HGG := Lib.hid hG
      clear hG
      rcases (by omega : y0 < y1 ∨ y1 < y0 ∨ y0 = y1) with hmm | hmm | hmm
      rotate_right
      · subst hmm
        go_wp2_with fail
        go_loopw [6] (fun y w' => R2 w wo.heap.size x0 y0 x1 y0 g y w') (fun y _ => (max y0 y0 - intOf y).toNat)
        case atStart => exact R2.start (by omega) HBE.out HG.out HEA.out
        case round =>
          clear HBE HG HEA
          obtain ⟨yy, z1, z2, rfl, hb2, hg2, he2⟩ := hrel
          obtain ⟨q0, q1, q3⟩ := he2.cells
          have HB2 := Lib.hid hb2
          have HG2 := Lib.hid hg2
          clear hb2 hg2 he2
          go_wp2_with fail
          exact ⟨R1.step hlt HE.out HGG.out (by omega) HB2.out HG2.out, by simp [intOf]; omega⟩
      all_goals
        go_wp2_with fail
        go_loopw [6] (fun y w' => R2 w wo.heap.size x0 y0 x1 y1 g y w') (fun y _ => (max y0 y1 - intOf y).toNat)
        case atStart => exact R2.start (by omega) HBE.out HG.out HEA.out
        case round =>
          clear HBE HG HEA
          obtain ⟨yy, z1, z2, rfl, hb2, hg2, he2⟩ := hrel
          obtain ⟨q0, q1, q3⟩ := he2.cells
          have HB2 := Lib.hid hb2
          have HG2 := Lib.hid hg2
          have HE2 := Lib.hid he2
          clear hb2 hg2 he2
          by_cases hx : x0 < 40
          · by_cases hy : yy < max y0 y1
            · have hcell := HG2.out.cell ((yy + 40).toNat * 80 + (x0 + 40).toNat) (by omega)
              have hfz := HG2.out.frozen ((yy + 40).toNat * 80 + (x0 + 40).toNat)
              rw [hitTo_at (by omega) (by omega) hx, Bool.bne_false] at hcell
              go_wp2_with fail
              go_region
              all_goals
                go_wp2_with fail
                exact ⟨(R2.put z1 hy (by omega) (by omega) (by omega) hx HB2.out (by omega) HG2.out HE2.out).drew, by simp [intOf]; omega⟩
            · go_wp2_with fail
              exact ⟨R1.step hlt HE.out HGG.out (by omega) HB2.out HG2.out, by simp [intOf]; omega⟩
          · by_cases hy : yy < max y0 y1
            · go_wp2_with fail
              exact ⟨R2.skip z1 hy (by omega) (by omega) HB2.out HG2.out HE2.out, by simp [intOf]; omega⟩
            · go_wp2_with fail
              exact ⟨R1.step hlt HE.out HGG.out (by omega) HB2.out HG2.out, by simp [intOf]; omega⟩
    · have hkk : k = l0.length := by omega
      subst hkk
      rw [List.take_length] at hgrid
      generalize flips l0 = g at *
      have HB := Lib.hid hbel
      have HG := Lib.hid hgrid
      clear hbel hgrid
      go_wp2_with fail
      go_loopw [55] (fun i wr => R3 w g i wr) (fun i _ => 80 - (intOf i).toNat)
      case atStart => exact R3.start HB.out HG.out
      case round =>
        clear HB HG
        obtain ⟨k, hk, rfl, hb1, hg1⟩ := hrel
        obtain ⟨w2, rfl⟩ : ∃ w2 : World, w2 = wr := ⟨_, rfl⟩
        have HB := Lib.hid hb1
        have HG := Lib.hid hg1
        clear hb1 hg1
        by_cases hk2 : k < 80
        · go_wp2_with fail
          go_loopw [8] (fun i wr => R4 w g k i wr) (fun i _ => 80 - (intOf i).toNat)
          case atStart => exact R4.start HB.out HG.out
          case round =>
            clear HB HG
            obtain ⟨x, hx, rfl, hb1, hg1⟩ := hrel
            have HB := Lib.hid hb1
            have HG := Lib.hid hg1
            clear hb1 hg1
            by_cases hx2 : x < 79
            · have hc1 := HG.out.cell (k * 80 + x) (by omega)
              have hc2 := HG.out.cell (k * 80 + (x + 1)) (by omega)
              have hfz := HG.out.frozen (k * 80 + (x + 1))
              rw [(R4.reads hx2).1] at hc1
              rw [(R4.reads hx2).2] at hc2
              go_wp2_with fail
              go_region
              all_goals
                go_wp2_with fail
                refine ⟨?_, by simp [intOf]; omega⟩
                have e := R4.step (g := g) hx2 hk2 HB.out HG.out
                rw [px_next g k x (by omega)] at e
                revert e
                generalize px g (k * 80 + x) = p
                generalize g (k * 80 + (x + 1)) = q
                intro e
                cases p <;> cases q <;> exact e
            · go_wp2_with fail
              exact ⟨R3.step (by omega) hk2 HB.out HG.out, by simp [intOf]; omega⟩
        · go_wp2_with fail
          go_ret
          exact NewGrid.last (by omega) HB.out HG.out
end Go.Proofs.Ytjpfhnpdbjefkaa.H
