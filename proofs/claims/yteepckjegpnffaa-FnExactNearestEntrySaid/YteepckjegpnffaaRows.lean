/-
  No cell of these rows narrows 'for every input' (looked for: loops, veiled, ifaces, maps, wideKeys, modest, calm, conditions, laid).
  DERIVED. THE GIVEN ROWS OF THIS SEAT. 10 by the template 'for every input the law returns true; each argument reads behind the call as it read before'; 0 by the template 'total and deterministic' (their statements: YteepckjegpnffaaTotals.lean).
  GIVEN WITH THE SEED: the statements are not yours to turn. If you find one false, say at which input.
  Laid BY PROGRAM, IN A SANDBOX (cutbox-rows.mjs): the forced cells as the released guide's own fill.sh prints them over the translation a51970c83be3494a… (all of the seat's roots in one cut). By AI agents, Wed Nov 11 2026. No macro, syntax, notation, axiom, sorry.
-/
import Derived.Test.YteepckjegpnffaaChecked
import GoSem.Claim
import GoSem.ClaimJoined
import GoSem.ClaimMapViews
import Derived.JoinedTies
import Derived.KernelRfl
namespace Go.Proofs.Yteepckjegpnffaa
/- THE CELL 'sum', in the pinned program and in every row, IS THE sha256 OF THE DUMP (.gsa) THAT YteepckjegpnffaaProg.lean LOADS. Nothing in Lean hashes anything: it is a label: what it is worth is what the hold of that sum in a sandbox is worth. -/
noncomputable def Try.pinned : Pinned := { name := "yteepckjegpnffaa", sum := "a51970c83be3494ade41b68eaee1331580d2300eb006d700e1f9c79f8084efdd", checked := Try.checked }
namespace Rows
def none {H : Type} : Left H := { results := [], args := [] }

/-- 'laws.FnTransforms': WHATEVER THE INPUT: true; the input reads as it did. -/
def fnTransformsSpec : ChangeSpec := { name := "fnTransforms", fn := fun _ => fun
  | [d] => { results := [.lit (.bool true)], args := [d] }
  | _ => none }
def fnTransformsRow : OpenClaim := { program := "yteepckjegpnffaa", sum := "a51970c83be3494ade41b68eaee1331580d2300eb006d700e1f9c79f8084efdd", func := "loop.example/g00890/laws.FnTransforms", spec := "fnTransforms", apart := false }
def FnTransformsSaid : Prop := fnTransformsRow.holds Try.pinned (OpenSpec.ofChange fnTransformsSpec)

/-- ITS FALSE NEIGHBOUR: 'it returns false'. Refute it at one input. -/
def fnTransformsWrong : ChangeSpec := { name := "fnTransforms", fn := fun _ => fun
  | [d] => { results := [.lit (.bool false)], args := [d] }
  | _ => none }
def FnTransformsWrongFalsely : Prop := fnTransformsRow.holds Try.pinned (OpenSpec.ofChange fnTransformsWrong)

/-- 'laws.FnExactEmptyIndex': WHATEVER THE INPUT: true; the input reads as it did. -/
def fnExactEmptyIndexSpec : ChangeSpec := { name := "fnExactEmptyIndex", fn := fun _ => fun
  | [] => { results := [.lit (.bool true)], args := [] }
  | _ => none }
def fnExactEmptyIndexRow : OpenClaim := { program := "yteepckjegpnffaa", sum := "a51970c83be3494ade41b68eaee1331580d2300eb006d700e1f9c79f8084efdd", func := "loop.example/g00890/laws.FnExactEmptyIndex", spec := "fnExactEmptyIndex", apart := false }
def FnExactEmptyIndexSaid : Prop := fnExactEmptyIndexRow.holds Try.pinned (OpenSpec.ofChange fnExactEmptyIndexSpec)

/-- ITS FALSE NEIGHBOUR: 'it returns false'. Refute it at one input. -/
def fnExactEmptyIndexWrong : ChangeSpec := { name := "fnExactEmptyIndex", fn := fun _ => fun
  | [] => { results := [.lit (.bool false)], args := [] }
  | _ => none }
def FnExactEmptyIndexWrongFalsely : Prop := fnExactEmptyIndexRow.holds Try.pinned (OpenSpec.ofChange fnExactEmptyIndexWrong)

/-- 'laws.FnExactMovePolygon': WHATEVER THE INPUT: true; the input reads as it did. -/
def fnExactMovePolygonSpec : ChangeSpec := { name := "fnExactMovePolygon", fn := fun _ => fun
  | [d1, d2] => { results := [.lit (.bool true)], args := [d1, d2] }
  | _ => none }
def fnExactMovePolygonRow : OpenClaim := { program := "yteepckjegpnffaa", sum := "a51970c83be3494ade41b68eaee1331580d2300eb006d700e1f9c79f8084efdd", func := "loop.example/g00890/laws.FnExactMovePolygon", spec := "fnExactMovePolygon", apart := false }
def FnExactMovePolygonSaid : Prop := fnExactMovePolygonRow.holds Try.pinned (OpenSpec.ofChange fnExactMovePolygonSpec)

/-- ITS FALSE NEIGHBOUR: 'it returns false'. Refute it at one input. -/
def fnExactMovePolygonWrong : ChangeSpec := { name := "fnExactMovePolygon", fn := fun _ => fun
  | [d1, d2] => { results := [.lit (.bool false)], args := [d1, d2] }
  | _ => none }
def FnExactMovePolygonWrongFalsely : Prop := fnExactMovePolygonRow.holds Try.pinned (OpenSpec.ofChange fnExactMovePolygonWrong)

/-- 'laws.FnNearest': WHATEVER THE INPUT: true; the input reads as it did. -/
def fnNearestSpec : ChangeSpec := { name := "fnNearest", fn := fun _ => fun
  | [d] => { results := [.lit (.bool true)], args := [d] }
  | _ => none }
def fnNearestRow : OpenClaim := { program := "yteepckjegpnffaa", sum := "a51970c83be3494ade41b68eaee1331580d2300eb006d700e1f9c79f8084efdd", func := "loop.example/g00890/laws.FnNearest", spec := "fnNearest", unfollowed := true, recurses := true, apart := false }
def FnNearestSaid : Prop := fnNearestRow.holds Try.pinned (OpenSpec.ofChange fnNearestSpec)

/-- ITS FALSE NEIGHBOUR: 'it returns false'. Refute it at one input. -/
def fnNearestWrong : ChangeSpec := { name := "fnNearest", fn := fun _ => fun
  | [d] => { results := [.lit (.bool false)], args := [d] }
  | _ => none }
def FnNearestWrongFalsely : Prop := fnNearestRow.holds Try.pinned (OpenSpec.ofChange fnNearestWrong)

/-- 'laws.FnExactIsValidIndex': WHATEVER THE INPUT: true; the input reads as it did. -/
def fnExactIsValidIndexSpec : ChangeSpec := { name := "fnExactIsValidIndex", fn := fun _ => fun
  | [d] => { results := [.lit (.bool true)], args := [d] }
  | _ => none }
def fnExactIsValidIndexRow : OpenClaim := { program := "yteepckjegpnffaa", sum := "a51970c83be3494ade41b68eaee1331580d2300eb006d700e1f9c79f8084efdd", func := "loop.example/g00890/laws.FnExactIsValidIndex", spec := "fnExactIsValidIndex", unfollowed := true, recurses := true, apart := false }
def FnExactIsValidIndexSaid : Prop := fnExactIsValidIndexRow.holds Try.pinned (OpenSpec.ofChange fnExactIsValidIndexSpec)

/-- ITS FALSE NEIGHBOUR: 'it returns false'. Refute it at one input. -/
def fnExactIsValidIndexWrong : ChangeSpec := { name := "fnExactIsValidIndex", fn := fun _ => fun
  | [d] => { results := [.lit (.bool false)], args := [d] }
  | _ => none }
def FnExactIsValidIndexWrongFalsely : Prop := fnExactIsValidIndexRow.holds Try.pinned (OpenSpec.ofChange fnExactIsValidIndexWrong)

/-- 'laws.FnExactNearestEntry': WHATEVER THE INPUT: true; the input reads as it did. -/
def fnExactNearestEntrySpec : ChangeSpec := { name := "fnExactNearestEntry", fn := fun _ => fun
  | [d1, d2] => { results := [.lit (.bool true)], args := [d1, d2] }
  | _ => none }
def fnExactNearestEntryRow : OpenClaim := { program := "yteepckjegpnffaa", sum := "a51970c83be3494ade41b68eaee1331580d2300eb006d700e1f9c79f8084efdd", func := "loop.example/g00890/laws.FnExactNearestEntry", spec := "fnExactNearestEntry", unfollowed := true, recurses := true, apart := false }
def FnExactNearestEntrySaid : Prop := fnExactNearestEntryRow.holds Try.pinned (OpenSpec.ofChange fnExactNearestEntrySpec)

/-- ITS FALSE NEIGHBOUR: 'it returns false'. Refute it at one input. -/
def fnExactNearestEntryWrong : ChangeSpec := { name := "fnExactNearestEntry", fn := fun _ => fun
  | [d1, d2] => { results := [.lit (.bool false)], args := [d1, d2] }
  | _ => none }
def FnExactNearestEntryWrongFalsely : Prop := fnExactNearestEntryRow.holds Try.pinned (OpenSpec.ofChange fnExactNearestEntryWrong)

/-- 'laws.FnIndexScan': WHATEVER THE INPUT: true; the input reads as it did. -/
def fnIndexScanSpec : ChangeSpec := { name := "fnIndexScan", fn := fun _ => fun
  | [d] => { results := [.lit (.bool true)], args := [d] }
  | _ => none }
def fnIndexScanRow : OpenClaim := { program := "yteepckjegpnffaa", sum := "a51970c83be3494ade41b68eaee1331580d2300eb006d700e1f9c79f8084efdd", func := "loop.example/g00890/laws.FnIndexScan", spec := "fnIndexScan", inPlace := ["slices.overlaps[loop.example/g00890/impl.SpatialEntry]"], unfollowed := true, recurses := true, apart := false }
def FnIndexScanSaid : Prop := fnIndexScanRow.holds Try.pinned (OpenSpec.ofChange fnIndexScanSpec)

/-- ITS FALSE NEIGHBOUR: 'it returns false'. Refute it at one input. -/
def fnIndexScanWrong : ChangeSpec := { name := "fnIndexScan", fn := fun _ => fun
  | [d] => { results := [.lit (.bool false)], args := [d] }
  | _ => none }
def FnIndexScanWrongFalsely : Prop := fnIndexScanRow.holds Try.pinned (OpenSpec.ofChange fnIndexScanWrong)

/-- 'laws.FnExactEntriesIn': WHATEVER THE INPUT: true; the input reads as it did. -/
def fnExactEntriesInSpec : ChangeSpec := { name := "fnExactEntriesIn", fn := fun _ => fun
  | [d1, d2] => { results := [.lit (.bool true)], args := [d1, d2] }
  | _ => none }
def fnExactEntriesInRow : OpenClaim := { program := "yteepckjegpnffaa", sum := "a51970c83be3494ade41b68eaee1331580d2300eb006d700e1f9c79f8084efdd", func := "loop.example/g00890/laws.FnExactEntriesIn", spec := "fnExactEntriesIn", unfollowed := true, recurses := true, apart := false }
def FnExactEntriesInSaid : Prop := fnExactEntriesInRow.holds Try.pinned (OpenSpec.ofChange fnExactEntriesInSpec)

/-- ITS FALSE NEIGHBOUR: 'it returns false'. Refute it at one input. -/
def fnExactEntriesInWrong : ChangeSpec := { name := "fnExactEntriesIn", fn := fun _ => fun
  | [d1, d2] => { results := [.lit (.bool false)], args := [d1, d2] }
  | _ => none }
def FnExactEntriesInWrongFalsely : Prop := fnExactEntriesInRow.holds Try.pinned (OpenSpec.ofChange fnExactEntriesInWrong)

/-- 'laws.FnIndexOrder': WHATEVER THE INPUT: true; the input reads as it did. -/
def fnIndexOrderSpec : ChangeSpec := { name := "fnIndexOrder", fn := fun _ => fun
  | [d] => { results := [.lit (.bool true)], args := [d] }
  | _ => none }
def fnIndexOrderRow : OpenClaim := { program := "yteepckjegpnffaa", sum := "a51970c83be3494ade41b68eaee1331580d2300eb006d700e1f9c79f8084efdd", func := "loop.example/g00890/laws.FnIndexOrder", spec := "fnIndexOrder", inPlace := ["slices.overlaps[loop.example/g00890/impl.SpatialEntry]"], unfollowed := true, recurses := true, apart := false }
def FnIndexOrderSaid : Prop := fnIndexOrderRow.holds Try.pinned (OpenSpec.ofChange fnIndexOrderSpec)

/-- ITS FALSE NEIGHBOUR: 'it returns false'. Refute it at one input. -/
def fnIndexOrderWrong : ChangeSpec := { name := "fnIndexOrder", fn := fun _ => fun
  | [d] => { results := [.lit (.bool false)], args := [d] }
  | _ => none }
def FnIndexOrderWrongFalsely : Prop := fnIndexOrderRow.holds Try.pinned (OpenSpec.ofChange fnIndexOrderWrong)

/-- 'laws.FnExactMoveEntry': WHATEVER THE INPUT: true; the input reads as it did. -/
def fnExactMoveEntrySpec : ChangeSpec := { name := "fnExactMoveEntry", fn := fun _ => fun
  | [d1, d2, d3] => { results := [.lit (.bool true)], args := [d1, d2, d3] }
  | _ => none }
def fnExactMoveEntryRow : OpenClaim := { program := "yteepckjegpnffaa", sum := "a51970c83be3494ade41b68eaee1331580d2300eb006d700e1f9c79f8084efdd", func := "loop.example/g00890/laws.FnExactMoveEntry", spec := "fnExactMoveEntry", unfollowed := true, recurses := true, apart := false }
def FnExactMoveEntrySaid : Prop := fnExactMoveEntryRow.holds Try.pinned (OpenSpec.ofChange fnExactMoveEntrySpec)

/-- ITS FALSE NEIGHBOUR: 'it returns false'. Refute it at one input. -/
def fnExactMoveEntryWrong : ChangeSpec := { name := "fnExactMoveEntry", fn := fun _ => fun
  | [d1, d2, d3] => { results := [.lit (.bool false)], args := [d1, d2, d3] }
  | _ => none }
def FnExactMoveEntryWrongFalsely : Prop := fnExactMoveEntryRow.holds Try.pinned (OpenSpec.ofChange fnExactMoveEntryWrong)

/- THE SECOND FORM. 'bulk': how many values and letters a reading holds, each counted each time it is reached (what is shared counts as often as it is met; a slice's spare places count too). A statement '..UptoSaid' is the law's where the arguments, and the package variables that the reading takes, are together of bulk at most 1048576: NARROWER than '..Said'. Prove '..Said' where nothing that the law and all that it calls make is longer than what came in: it says more and counts as full. Else prove '..UptoSaid'. A law counts once. -/
mutual
def uptoBulk {H : Type} : DataW H → Nat
  | .lit (.string bytes) => bytes.length + 1
  | .lit _ => 1
  | .nil => 1
  | .ptr d => uptoBulk d + 1
  | .slice elems spare => uptoBulkAll elems + uptoBulkAll spare + 1
  | .agg parts => uptoBulkAll parts + 1
  | .iface _ d => uptoBulk d + 1
  | .map entries => uptoBulkEntries entries + 1
  | .held _ => 1
def uptoBulkAll {H : Type} : List (DataW H) → Nat
  | [] => 0
  | d :: r => uptoBulk d + uptoBulkAll r
def uptoBulkEntries {H : Type} : List (Lit × DataW H) → Nat
  | [] => 0
  | x :: r => uptoBulkEntry x + uptoBulkEntries r
def uptoBulkEntry {H : Type} : Lit × DataW H → Nat
  | (.string bytes, d) => bytes.length + uptoBulk d + 1
  | (_, d) => uptoBulk d + 1
 end
def uptoSmall : (H : Type) → List (DataW H) → Bool := fun _ ds => decide (uptoBulkAll ds ≤ 1048576)
def OpenSpec.upto (s : _root_.Go.ChangeSpec) : _root_.Go.OpenSpec := { _root_.Go.OpenSpec.ofChange s with cond := some uptoSmall }

/-- 'laws.FnTransforms', WHERE WHAT IT READS IS OF BULK AT MOST 1048576: true; the input reads as it did. -/
def fnTransformsUptoRow : OpenClaim := { program := "yteepckjegpnffaa", sum := "a51970c83be3494ade41b68eaee1331580d2300eb006d700e1f9c79f8084efdd", func := "loop.example/g00890/laws.FnTransforms", spec := "fnTransforms", apart := false, narrowed := true }
def FnTransformsUptoSaid : Prop := fnTransformsUptoRow.holds Try.pinned (OpenSpec.upto fnTransformsSpec)

/-- 'laws.FnExactEmptyIndex', WHERE WHAT IT READS IS OF BULK AT MOST 1048576: true; the input reads as it did. -/
def fnExactEmptyIndexUptoRow : OpenClaim := { program := "yteepckjegpnffaa", sum := "a51970c83be3494ade41b68eaee1331580d2300eb006d700e1f9c79f8084efdd", func := "loop.example/g00890/laws.FnExactEmptyIndex", spec := "fnExactEmptyIndex", apart := false, narrowed := true }
def FnExactEmptyIndexUptoSaid : Prop := fnExactEmptyIndexUptoRow.holds Try.pinned (OpenSpec.upto fnExactEmptyIndexSpec)

/-- 'laws.FnExactMovePolygon', WHERE WHAT IT READS IS OF BULK AT MOST 1048576: true; the input reads as it did. -/
def fnExactMovePolygonUptoRow : OpenClaim := { program := "yteepckjegpnffaa", sum := "a51970c83be3494ade41b68eaee1331580d2300eb006d700e1f9c79f8084efdd", func := "loop.example/g00890/laws.FnExactMovePolygon", spec := "fnExactMovePolygon", apart := false, narrowed := true }
def FnExactMovePolygonUptoSaid : Prop := fnExactMovePolygonUptoRow.holds Try.pinned (OpenSpec.upto fnExactMovePolygonSpec)

/-- 'laws.FnNearest', WHERE WHAT IT READS IS OF BULK AT MOST 1048576: true; the input reads as it did. -/
def fnNearestUptoRow : OpenClaim := { program := "yteepckjegpnffaa", sum := "a51970c83be3494ade41b68eaee1331580d2300eb006d700e1f9c79f8084efdd", func := "loop.example/g00890/laws.FnNearest", spec := "fnNearest", unfollowed := true, recurses := true, apart := false, narrowed := true }
def FnNearestUptoSaid : Prop := fnNearestUptoRow.holds Try.pinned (OpenSpec.upto fnNearestSpec)

/-- 'laws.FnExactIsValidIndex', WHERE WHAT IT READS IS OF BULK AT MOST 1048576: true; the input reads as it did. -/
def fnExactIsValidIndexUptoRow : OpenClaim := { program := "yteepckjegpnffaa", sum := "a51970c83be3494ade41b68eaee1331580d2300eb006d700e1f9c79f8084efdd", func := "loop.example/g00890/laws.FnExactIsValidIndex", spec := "fnExactIsValidIndex", unfollowed := true, recurses := true, apart := false, narrowed := true }
def FnExactIsValidIndexUptoSaid : Prop := fnExactIsValidIndexUptoRow.holds Try.pinned (OpenSpec.upto fnExactIsValidIndexSpec)

/-- 'laws.FnExactNearestEntry', WHERE WHAT IT READS IS OF BULK AT MOST 1048576: true; the input reads as it did. -/
def fnExactNearestEntryUptoRow : OpenClaim := { program := "yteepckjegpnffaa", sum := "a51970c83be3494ade41b68eaee1331580d2300eb006d700e1f9c79f8084efdd", func := "loop.example/g00890/laws.FnExactNearestEntry", spec := "fnExactNearestEntry", unfollowed := true, recurses := true, apart := false, narrowed := true }
def FnExactNearestEntryUptoSaid : Prop := fnExactNearestEntryUptoRow.holds Try.pinned (OpenSpec.upto fnExactNearestEntrySpec)

/-- 'laws.FnIndexScan', WHERE WHAT IT READS IS OF BULK AT MOST 1048576: true; the input reads as it did. -/
def fnIndexScanUptoRow : OpenClaim := { program := "yteepckjegpnffaa", sum := "a51970c83be3494ade41b68eaee1331580d2300eb006d700e1f9c79f8084efdd", func := "loop.example/g00890/laws.FnIndexScan", spec := "fnIndexScan", inPlace := ["slices.overlaps[loop.example/g00890/impl.SpatialEntry]"], unfollowed := true, recurses := true, apart := false, narrowed := true }
def FnIndexScanUptoSaid : Prop := fnIndexScanUptoRow.holds Try.pinned (OpenSpec.upto fnIndexScanSpec)

/-- 'laws.FnExactEntriesIn', WHERE WHAT IT READS IS OF BULK AT MOST 1048576: true; the input reads as it did. -/
def fnExactEntriesInUptoRow : OpenClaim := { program := "yteepckjegpnffaa", sum := "a51970c83be3494ade41b68eaee1331580d2300eb006d700e1f9c79f8084efdd", func := "loop.example/g00890/laws.FnExactEntriesIn", spec := "fnExactEntriesIn", unfollowed := true, recurses := true, apart := false, narrowed := true }
def FnExactEntriesInUptoSaid : Prop := fnExactEntriesInUptoRow.holds Try.pinned (OpenSpec.upto fnExactEntriesInSpec)

/-- 'laws.FnIndexOrder', WHERE WHAT IT READS IS OF BULK AT MOST 1048576: true; the input reads as it did. -/
def fnIndexOrderUptoRow : OpenClaim := { program := "yteepckjegpnffaa", sum := "a51970c83be3494ade41b68eaee1331580d2300eb006d700e1f9c79f8084efdd", func := "loop.example/g00890/laws.FnIndexOrder", spec := "fnIndexOrder", inPlace := ["slices.overlaps[loop.example/g00890/impl.SpatialEntry]"], unfollowed := true, recurses := true, apart := false, narrowed := true }
def FnIndexOrderUptoSaid : Prop := fnIndexOrderUptoRow.holds Try.pinned (OpenSpec.upto fnIndexOrderSpec)

/-- 'laws.FnExactMoveEntry', WHERE WHAT IT READS IS OF BULK AT MOST 1048576: true; the input reads as it did. -/
def fnExactMoveEntryUptoRow : OpenClaim := { program := "yteepckjegpnffaa", sum := "a51970c83be3494ade41b68eaee1331580d2300eb006d700e1f9c79f8084efdd", func := "loop.example/g00890/laws.FnExactMoveEntry", spec := "fnExactMoveEntry", unfollowed := true, recurses := true, apart := false, narrowed := true }
def FnExactMoveEntryUptoSaid : Prop := fnExactMoveEntryUptoRow.holds Try.pinned (OpenSpec.upto fnExactMoveEntrySpec)

end Rows
end Go.Proofs.Yteepckjegpnffaa
