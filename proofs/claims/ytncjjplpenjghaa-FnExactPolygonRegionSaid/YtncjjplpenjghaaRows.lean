/-
  No cell of these rows narrows 'for every input' (looked for: loops, veiled, ifaces, maps, wideKeys, modest, calm, conditions, laid).
  DERIVED. THE GIVEN ROWS OF THIS SEAT. 12 by the template 'for every input the law returns true; each argument reads behind the call as it read before'; 0 by the template 'total and deterministic' (their statements: YtncjjplpenjghaaTotals.lean).
  GIVEN WITH THE SEED: the statements are not yours to turn. If you find one false, say at which input.
  Laid BY PROGRAM, IN A SANDBOX (cutbox-rows.mjs): the forced cells as the released guide's own fill.sh prints them over the translation 6aa0b09be22d0afc… (all of the seat's roots in one cut). By AI agents, Wed Nov 11 2026. No macro, syntax, notation, axiom, sorry.
-/
import Derived.Test.YtncjjplpenjghaaChecked
import GoSem.Claim
import GoSem.ClaimJoined
import GoSem.ClaimMapViews
import Derived.JoinedTies
import Derived.KernelRfl
namespace Go.Proofs.Ytncjjplpenjghaa
/- THE CELL 'sum', in the pinned program and in every row, IS THE sha256 OF THE DUMP (.gsa) THAT YtncjjplpenjghaaProg.lean LOADS. Nothing in Lean hashes anything: it is a label: what it is worth is what the hold of that sum in a sandbox is worth. -/
noncomputable def Try.pinned : Pinned := { name := "ytncjjplpenjghaa", sum := "6aa0b09be22d0afcedc072d1e2626ba4818f5b4c316afeadb95efd9ec8c25d70", checked := Try.checked }
namespace Rows
def none {H : Type} : Left H := { results := [], args := [] }

/-- 'laws.FnExactIsLayout': WHATEVER THE INPUT: true; the input reads as it did. -/
def fnExactIsLayoutSpec : ChangeSpec := { name := "fnExactIsLayout", fn := fun _ => fun
  | [d] => { results := [.lit (.bool true)], args := [d] }
  | _ => none }
def fnExactIsLayoutRow : OpenClaim := { program := "ytncjjplpenjghaa", sum := "6aa0b09be22d0afcedc072d1e2626ba4818f5b4c316afeadb95efd9ec8c25d70", func := "loop.example/g00890/laws.FnExactIsLayout", spec := "fnExactIsLayout", unfollowed := true, recurses := true, apart := false }
def FnExactIsLayoutSaid : Prop := fnExactIsLayoutRow.holds Try.pinned (OpenSpec.ofChange fnExactIsLayoutSpec)

/-- ITS FALSE NEIGHBOUR: 'it returns false'. Refute it at one input. -/
def fnExactIsLayoutWrong : ChangeSpec := { name := "fnExactIsLayout", fn := fun _ => fun
  | [d] => { results := [.lit (.bool false)], args := [d] }
  | _ => none }
def FnExactIsLayoutWrongFalsely : Prop := fnExactIsLayoutRow.holds Try.pinned (OpenSpec.ofChange fnExactIsLayoutWrong)

/-- 'laws.FnExactPolygonRegion': WHATEVER THE INPUT: true; the input reads as it did. -/
def fnExactPolygonRegionSpec : ChangeSpec := { name := "fnExactPolygonRegion", fn := fun _ => fun
  | [d] => { results := [.lit (.bool true)], args := [d] }
  | _ => none }
def fnExactPolygonRegionRow : OpenClaim := { program := "ytncjjplpenjghaa", sum := "6aa0b09be22d0afcedc072d1e2626ba4818f5b4c316afeadb95efd9ec8c25d70", func := "loop.example/g00890/laws.FnExactPolygonRegion", spec := "fnExactPolygonRegion", apart := false }
def FnExactPolygonRegionSaid : Prop := fnExactPolygonRegionRow.holds Try.pinned (OpenSpec.ofChange fnExactPolygonRegionSpec)

/-- ITS FALSE NEIGHBOUR: 'it returns false'. Refute it at one input. -/
def fnExactPolygonRegionWrong : ChangeSpec := { name := "fnExactPolygonRegion", fn := fun _ => fun
  | [d] => { results := [.lit (.bool false)], args := [d] }
  | _ => none }
def FnExactPolygonRegionWrongFalsely : Prop := fnExactPolygonRegionRow.holds Try.pinned (OpenSpec.ofChange fnExactPolygonRegionWrong)

/-- 'laws.FnExactComponentAt': WHATEVER THE INPUT: true; the input reads as it did. -/
def fnExactComponentAtSpec : ChangeSpec := { name := "fnExactComponentAt", fn := fun _ => fun
  | [d1, d2, d3] => { results := [.lit (.bool true)], args := [d1, d2, d3] }
  | _ => none }
def fnExactComponentAtRow : OpenClaim := { program := "ytncjjplpenjghaa", sum := "6aa0b09be22d0afcedc072d1e2626ba4818f5b4c316afeadb95efd9ec8c25d70", func := "loop.example/g00890/laws.FnExactComponentAt", spec := "fnExactComponentAt", unfollowed := true, recurses := true, apart := false }
def FnExactComponentAtSaid : Prop := fnExactComponentAtRow.holds Try.pinned (OpenSpec.ofChange fnExactComponentAtSpec)

/-- ITS FALSE NEIGHBOUR: 'it returns false'. Refute it at one input. -/
def fnExactComponentAtWrong : ChangeSpec := { name := "fnExactComponentAt", fn := fun _ => fun
  | [d1, d2, d3] => { results := [.lit (.bool false)], args := [d1, d2, d3] }
  | _ => none }
def FnExactComponentAtWrongFalsely : Prop := fnExactComponentAtRow.holds Try.pinned (OpenSpec.ofChange fnExactComponentAtWrong)

/-- 'laws.FnExactIsConnected': WHATEVER THE INPUT: true; the input reads as it did. -/
def fnExactIsConnectedSpec : ChangeSpec := { name := "fnExactIsConnected", fn := fun _ => fun
  | [d] => { results := [.lit (.bool true)], args := [d] }
  | _ => none }
def fnExactIsConnectedRow : OpenClaim := { program := "ytncjjplpenjghaa", sum := "6aa0b09be22d0afcedc072d1e2626ba4818f5b4c316afeadb95efd9ec8c25d70", func := "loop.example/g00890/laws.FnExactIsConnected", spec := "fnExactIsConnected", unfollowed := true, recurses := true, apart := false }
def FnExactIsConnectedSaid : Prop := fnExactIsConnectedRow.holds Try.pinned (OpenSpec.ofChange fnExactIsConnectedSpec)

/-- ITS FALSE NEIGHBOUR: 'it returns false'. Refute it at one input. -/
def fnExactIsConnectedWrong : ChangeSpec := { name := "fnExactIsConnected", fn := fun _ => fun
  | [d] => { results := [.lit (.bool false)], args := [d] }
  | _ => none }
def FnExactIsConnectedWrongFalsely : Prop := fnExactIsConnectedRow.holds Try.pinned (OpenSpec.ofChange fnExactIsConnectedWrong)

/-- 'laws.FnExactComponentCount': WHATEVER THE INPUT: true; the input reads as it did. -/
def fnExactComponentCountSpec : ChangeSpec := { name := "fnExactComponentCount", fn := fun _ => fun
  | [d] => { results := [.lit (.bool true)], args := [d] }
  | _ => none }
def fnExactComponentCountRow : OpenClaim := { program := "ytncjjplpenjghaa", sum := "6aa0b09be22d0afcedc072d1e2626ba4818f5b4c316afeadb95efd9ec8c25d70", func := "loop.example/g00890/laws.FnExactComponentCount", spec := "fnExactComponentCount", unfollowed := true, recurses := true, apart := false }
def FnExactComponentCountSaid : Prop := fnExactComponentCountRow.holds Try.pinned (OpenSpec.ofChange fnExactComponentCountSpec)

/-- ITS FALSE NEIGHBOUR: 'it returns false'. Refute it at one input. -/
def fnExactComponentCountWrong : ChangeSpec := { name := "fnExactComponentCount", fn := fun _ => fun
  | [d] => { results := [.lit (.bool false)], args := [d] }
  | _ => none }
def FnExactComponentCountWrongFalsely : Prop := fnExactComponentCountRow.holds Try.pinned (OpenSpec.ofChange fnExactComponentCountWrong)

/-- 'laws.FnExactComponents': WHATEVER THE INPUT: true; the input reads as it did. -/
def fnExactComponentsSpec : ChangeSpec := { name := "fnExactComponents", fn := fun _ => fun
  | [d] => { results := [.lit (.bool true)], args := [d] }
  | _ => none }
def fnExactComponentsRow : OpenClaim := { program := "ytncjjplpenjghaa", sum := "6aa0b09be22d0afcedc072d1e2626ba4818f5b4c316afeadb95efd9ec8c25d70", func := "loop.example/g00890/laws.FnExactComponents", spec := "fnExactComponents", unfollowed := true, recurses := true, apart := false }
def FnExactComponentsSaid : Prop := fnExactComponentsRow.holds Try.pinned (OpenSpec.ofChange fnExactComponentsSpec)

/-- ITS FALSE NEIGHBOUR: 'it returns false'. Refute it at one input. -/
def fnExactComponentsWrong : ChangeSpec := { name := "fnExactComponents", fn := fun _ => fun
  | [d] => { results := [.lit (.bool false)], args := [d] }
  | _ => none }
def FnExactComponentsWrongFalsely : Prop := fnExactComponentsRow.holds Try.pinned (OpenSpec.ofChange fnExactComponentsWrong)

/-- 'laws.FnExactLargestComponent': WHATEVER THE INPUT: true; the input reads as it did. -/
def fnExactLargestComponentSpec : ChangeSpec := { name := "fnExactLargestComponent", fn := fun _ => fun
  | [d] => { results := [.lit (.bool true)], args := [d] }
  | _ => none }
def fnExactLargestComponentRow : OpenClaim := { program := "ytncjjplpenjghaa", sum := "6aa0b09be22d0afcedc072d1e2626ba4818f5b4c316afeadb95efd9ec8c25d70", func := "loop.example/g00890/laws.FnExactLargestComponent", spec := "fnExactLargestComponent", unfollowed := true, recurses := true, apart := false }
def FnExactLargestComponentSaid : Prop := fnExactLargestComponentRow.holds Try.pinned (OpenSpec.ofChange fnExactLargestComponentSpec)

/-- ITS FALSE NEIGHBOUR: 'it returns false'. Refute it at one input. -/
def fnExactLargestComponentWrong : ChangeSpec := { name := "fnExactLargestComponent", fn := fun _ => fun
  | [d] => { results := [.lit (.bool false)], args := [d] }
  | _ => none }
def FnExactLargestComponentWrongFalsely : Prop := fnExactLargestComponentRow.holds Try.pinned (OpenSpec.ofChange fnExactLargestComponentWrong)

/-- 'laws.FnExactSelectSmall': WHATEVER THE INPUT: true; the input reads as it did. -/
def fnExactSelectSmallSpec : ChangeSpec := { name := "fnExactSelectSmall", fn := fun _ => fun
  | [d1, d2] => { results := [.lit (.bool true)], args := [d1, d2] }
  | _ => none }
def fnExactSelectSmallRow : OpenClaim := { program := "ytncjjplpenjghaa", sum := "6aa0b09be22d0afcedc072d1e2626ba4818f5b4c316afeadb95efd9ec8c25d70", func := "loop.example/g00890/laws.FnExactSelectSmall", spec := "fnExactSelectSmall", unfollowed := true, recurses := true, apart := false }
def FnExactSelectSmallSaid : Prop := fnExactSelectSmallRow.holds Try.pinned (OpenSpec.ofChange fnExactSelectSmallSpec)

/-- ITS FALSE NEIGHBOUR: 'it returns false'. Refute it at one input. -/
def fnExactSelectSmallWrong : ChangeSpec := { name := "fnExactSelectSmall", fn := fun _ => fun
  | [d1, d2] => { results := [.lit (.bool false)], args := [d1, d2] }
  | _ => none }
def FnExactSelectSmallWrongFalsely : Prop := fnExactSelectSmallRow.holds Try.pinned (OpenSpec.ofChange fnExactSelectSmallWrong)

/-- 'laws.FnExactSelectOverlapping': WHATEVER THE INPUT: true; the input reads as it did. -/
def fnExactSelectOverlappingSpec : ChangeSpec := { name := "fnExactSelectOverlapping", fn := fun _ => fun
  | [d1, d2] => { results := [.lit (.bool true)], args := [d1, d2] }
  | _ => none }
def fnExactSelectOverlappingRow : OpenClaim := { program := "ytncjjplpenjghaa", sum := "6aa0b09be22d0afcedc072d1e2626ba4818f5b4c316afeadb95efd9ec8c25d70", func := "loop.example/g00890/laws.FnExactSelectOverlapping", spec := "fnExactSelectOverlapping", unfollowed := true, recurses := true, apart := false }
def FnExactSelectOverlappingSaid : Prop := fnExactSelectOverlappingRow.holds Try.pinned (OpenSpec.ofChange fnExactSelectOverlappingSpec)

/-- ITS FALSE NEIGHBOUR: 'it returns false'. Refute it at one input. -/
def fnExactSelectOverlappingWrong : ChangeSpec := { name := "fnExactSelectOverlapping", fn := fun _ => fun
  | [d1, d2] => { results := [.lit (.bool false)], args := [d1, d2] }
  | _ => none }
def FnExactSelectOverlappingWrongFalsely : Prop := fnExactSelectOverlappingRow.holds Try.pinned (OpenSpec.ofChange fnExactSelectOverlappingWrong)

/-- 'laws.FnExactFillHoles': WHATEVER THE INPUT: true; the input reads as it did. -/
def fnExactFillHolesSpec : ChangeSpec := { name := "fnExactFillHoles", fn := fun _ => fun
  | [d] => { results := [.lit (.bool true)], args := [d] }
  | _ => none }
def fnExactFillHolesRow : OpenClaim := { program := "ytncjjplpenjghaa", sum := "6aa0b09be22d0afcedc072d1e2626ba4818f5b4c316afeadb95efd9ec8c25d70", func := "loop.example/g00890/laws.FnExactFillHoles", spec := "fnExactFillHoles", unfollowed := true, recurses := true, apart := false }
def FnExactFillHolesSaid : Prop := fnExactFillHolesRow.holds Try.pinned (OpenSpec.ofChange fnExactFillHolesSpec)

/-- ITS FALSE NEIGHBOUR: 'it returns false'. Refute it at one input. -/
def fnExactFillHolesWrong : ChangeSpec := { name := "fnExactFillHoles", fn := fun _ => fun
  | [d] => { results := [.lit (.bool false)], args := [d] }
  | _ => none }
def FnExactFillHolesWrongFalsely : Prop := fnExactFillHolesRow.holds Try.pinned (OpenSpec.ofChange fnExactFillHolesWrong)

/-- 'laws.FnExactHoles': WHATEVER THE INPUT: true; the input reads as it did. -/
def fnExactHolesSpec : ChangeSpec := { name := "fnExactHoles", fn := fun _ => fun
  | [d] => { results := [.lit (.bool true)], args := [d] }
  | _ => none }
def fnExactHolesRow : OpenClaim := { program := "ytncjjplpenjghaa", sum := "6aa0b09be22d0afcedc072d1e2626ba4818f5b4c316afeadb95efd9ec8c25d70", func := "loop.example/g00890/laws.FnExactHoles", spec := "fnExactHoles", unfollowed := true, recurses := true, apart := false }
def FnExactHolesSaid : Prop := fnExactHolesRow.holds Try.pinned (OpenSpec.ofChange fnExactHolesSpec)

/-- ITS FALSE NEIGHBOUR: 'it returns false'. Refute it at one input. -/
def fnExactHolesWrong : ChangeSpec := { name := "fnExactHoles", fn := fun _ => fun
  | [d] => { results := [.lit (.bool false)], args := [d] }
  | _ => none }
def FnExactHolesWrongFalsely : Prop := fnExactHolesRow.holds Try.pinned (OpenSpec.ofChange fnExactHolesWrong)

/-- 'laws.FnExactBoundaryEdges': WHATEVER THE INPUT: true; the input reads as it did. -/
def fnExactBoundaryEdgesSpec : ChangeSpec := { name := "fnExactBoundaryEdges", fn := fun _ => fun
  | [d] => { results := [.lit (.bool true)], args := [d] }
  | _ => none }
def fnExactBoundaryEdgesRow : OpenClaim := { program := "ytncjjplpenjghaa", sum := "6aa0b09be22d0afcedc072d1e2626ba4818f5b4c316afeadb95efd9ec8c25d70", func := "loop.example/g00890/laws.FnExactBoundaryEdges", spec := "fnExactBoundaryEdges", unfollowed := true, recurses := true, apart := false }
def FnExactBoundaryEdgesSaid : Prop := fnExactBoundaryEdgesRow.holds Try.pinned (OpenSpec.ofChange fnExactBoundaryEdgesSpec)

/-- ITS FALSE NEIGHBOUR: 'it returns false'. Refute it at one input. -/
def fnExactBoundaryEdgesWrong : ChangeSpec := { name := "fnExactBoundaryEdges", fn := fun _ => fun
  | [d] => { results := [.lit (.bool false)], args := [d] }
  | _ => none }
def FnExactBoundaryEdgesWrongFalsely : Prop := fnExactBoundaryEdgesRow.holds Try.pinned (OpenSpec.ofChange fnExactBoundaryEdgesWrong)

/- THE SECOND FORM. 'bulk': how many values and letters a reading holds, each counted each time it is reached (what is shared counts as often as it is met; a slice's spare places count too). A statement '..UptoSaid' is the law's where the arguments, and the package variables that the reading takes, are together of bulk at most 1048576: NARROWER than '..Said'. Prove '..Said' where nothing that the law and all that it calls make is longer than what came in: it says more and counts as full. Else prove '..UptoSaid'. A law counts once. -/
mutual
def uptoBulk {H : Type} : DataW H → Nat
  | .lit (.string bytes) => bytes.length + 1
  | .lit _ => 1
  | .nil => 1
  | .ptr d => uptoBulk d + 1
  | .slice elems spare => uptoBulkAll elems + uptoBulkAll spare + 1
  | .agg parts => uptoBulkAll parts + 1
  | .iface _ d => uptoBulk d + 1
  | .map entries => uptoBulkEntries entries + 1
  | .held _ => 1
def uptoBulkAll {H : Type} : List (DataW H) → Nat
  | [] => 0
  | d :: r => uptoBulk d + uptoBulkAll r
def uptoBulkEntries {H : Type} : List (Lit × DataW H) → Nat
  | [] => 0
  | x :: r => uptoBulkEntry x + uptoBulkEntries r
def uptoBulkEntry {H : Type} : Lit × DataW H → Nat
  | (.string bytes, d) => bytes.length + uptoBulk d + 1
  | (_, d) => uptoBulk d + 1
 end
def uptoSmall : (H : Type) → List (DataW H) → Bool := fun _ ds => decide (uptoBulkAll ds ≤ 1048576)
def OpenSpec.upto (s : _root_.Go.ChangeSpec) : _root_.Go.OpenSpec := { _root_.Go.OpenSpec.ofChange s with cond := some uptoSmall }

/-- 'laws.FnExactIsLayout', WHERE WHAT IT READS IS OF BULK AT MOST 1048576: true; the input reads as it did. -/
def fnExactIsLayoutUptoRow : OpenClaim := { program := "ytncjjplpenjghaa", sum := "6aa0b09be22d0afcedc072d1e2626ba4818f5b4c316afeadb95efd9ec8c25d70", func := "loop.example/g00890/laws.FnExactIsLayout", spec := "fnExactIsLayout", unfollowed := true, recurses := true, apart := false, narrowed := true }
def FnExactIsLayoutUptoSaid : Prop := fnExactIsLayoutUptoRow.holds Try.pinned (OpenSpec.upto fnExactIsLayoutSpec)

/-- 'laws.FnExactPolygonRegion', WHERE WHAT IT READS IS OF BULK AT MOST 1048576: true; the input reads as it did. -/
def fnExactPolygonRegionUptoRow : OpenClaim := { program := "ytncjjplpenjghaa", sum := "6aa0b09be22d0afcedc072d1e2626ba4818f5b4c316afeadb95efd9ec8c25d70", func := "loop.example/g00890/laws.FnExactPolygonRegion", spec := "fnExactPolygonRegion", apart := false, narrowed := true }
def FnExactPolygonRegionUptoSaid : Prop := fnExactPolygonRegionUptoRow.holds Try.pinned (OpenSpec.upto fnExactPolygonRegionSpec)

/-- 'laws.FnExactComponentAt', WHERE WHAT IT READS IS OF BULK AT MOST 1048576: true; the input reads as it did. -/
def fnExactComponentAtUptoRow : OpenClaim := { program := "ytncjjplpenjghaa", sum := "6aa0b09be22d0afcedc072d1e2626ba4818f5b4c316afeadb95efd9ec8c25d70", func := "loop.example/g00890/laws.FnExactComponentAt", spec := "fnExactComponentAt", unfollowed := true, recurses := true, apart := false, narrowed := true }
def FnExactComponentAtUptoSaid : Prop := fnExactComponentAtUptoRow.holds Try.pinned (OpenSpec.upto fnExactComponentAtSpec)

/-- 'laws.FnExactIsConnected', WHERE WHAT IT READS IS OF BULK AT MOST 1048576: true; the input reads as it did. -/
def fnExactIsConnectedUptoRow : OpenClaim := { program := "ytncjjplpenjghaa", sum := "6aa0b09be22d0afcedc072d1e2626ba4818f5b4c316afeadb95efd9ec8c25d70", func := "loop.example/g00890/laws.FnExactIsConnected", spec := "fnExactIsConnected", unfollowed := true, recurses := true, apart := false, narrowed := true }
def FnExactIsConnectedUptoSaid : Prop := fnExactIsConnectedUptoRow.holds Try.pinned (OpenSpec.upto fnExactIsConnectedSpec)

/-- 'laws.FnExactComponentCount', WHERE WHAT IT READS IS OF BULK AT MOST 1048576: true; the input reads as it did. -/
def fnExactComponentCountUptoRow : OpenClaim := { program := "ytncjjplpenjghaa", sum := "6aa0b09be22d0afcedc072d1e2626ba4818f5b4c316afeadb95efd9ec8c25d70", func := "loop.example/g00890/laws.FnExactComponentCount", spec := "fnExactComponentCount", unfollowed := true, recurses := true, apart := false, narrowed := true }
def FnExactComponentCountUptoSaid : Prop := fnExactComponentCountUptoRow.holds Try.pinned (OpenSpec.upto fnExactComponentCountSpec)

/-- 'laws.FnExactComponents', WHERE WHAT IT READS IS OF BULK AT MOST 1048576: true; the input reads as it did. -/
def fnExactComponentsUptoRow : OpenClaim := { program := "ytncjjplpenjghaa", sum := "6aa0b09be22d0afcedc072d1e2626ba4818f5b4c316afeadb95efd9ec8c25d70", func := "loop.example/g00890/laws.FnExactComponents", spec := "fnExactComponents", unfollowed := true, recurses := true, apart := false, narrowed := true }
def FnExactComponentsUptoSaid : Prop := fnExactComponentsUptoRow.holds Try.pinned (OpenSpec.upto fnExactComponentsSpec)

/-- 'laws.FnExactLargestComponent', WHERE WHAT IT READS IS OF BULK AT MOST 1048576: true; the input reads as it did. -/
def fnExactLargestComponentUptoRow : OpenClaim := { program := "ytncjjplpenjghaa", sum := "6aa0b09be22d0afcedc072d1e2626ba4818f5b4c316afeadb95efd9ec8c25d70", func := "loop.example/g00890/laws.FnExactLargestComponent", spec := "fnExactLargestComponent", unfollowed := true, recurses := true, apart := false, narrowed := true }
def FnExactLargestComponentUptoSaid : Prop := fnExactLargestComponentUptoRow.holds Try.pinned (OpenSpec.upto fnExactLargestComponentSpec)

/-- 'laws.FnExactSelectSmall', WHERE WHAT IT READS IS OF BULK AT MOST 1048576: true; the input reads as it did. -/
def fnExactSelectSmallUptoRow : OpenClaim := { program := "ytncjjplpenjghaa", sum := "6aa0b09be22d0afcedc072d1e2626ba4818f5b4c316afeadb95efd9ec8c25d70", func := "loop.example/g00890/laws.FnExactSelectSmall", spec := "fnExactSelectSmall", unfollowed := true, recurses := true, apart := false, narrowed := true }
def FnExactSelectSmallUptoSaid : Prop := fnExactSelectSmallUptoRow.holds Try.pinned (OpenSpec.upto fnExactSelectSmallSpec)

/-- 'laws.FnExactSelectOverlapping', WHERE WHAT IT READS IS OF BULK AT MOST 1048576: true; the input reads as it did. -/
def fnExactSelectOverlappingUptoRow : OpenClaim := { program := "ytncjjplpenjghaa", sum := "6aa0b09be22d0afcedc072d1e2626ba4818f5b4c316afeadb95efd9ec8c25d70", func := "loop.example/g00890/laws.FnExactSelectOverlapping", spec := "fnExactSelectOverlapping", unfollowed := true, recurses := true, apart := false, narrowed := true }
def FnExactSelectOverlappingUptoSaid : Prop := fnExactSelectOverlappingUptoRow.holds Try.pinned (OpenSpec.upto fnExactSelectOverlappingSpec)

/-- 'laws.FnExactFillHoles', WHERE WHAT IT READS IS OF BULK AT MOST 1048576: true; the input reads as it did. -/
def fnExactFillHolesUptoRow : OpenClaim := { program := "ytncjjplpenjghaa", sum := "6aa0b09be22d0afcedc072d1e2626ba4818f5b4c316afeadb95efd9ec8c25d70", func := "loop.example/g00890/laws.FnExactFillHoles", spec := "fnExactFillHoles", unfollowed := true, recurses := true, apart := false, narrowed := true }
def FnExactFillHolesUptoSaid : Prop := fnExactFillHolesUptoRow.holds Try.pinned (OpenSpec.upto fnExactFillHolesSpec)

/-- 'laws.FnExactHoles', WHERE WHAT IT READS IS OF BULK AT MOST 1048576: true; the input reads as it did. -/
def fnExactHolesUptoRow : OpenClaim := { program := "ytncjjplpenjghaa", sum := "6aa0b09be22d0afcedc072d1e2626ba4818f5b4c316afeadb95efd9ec8c25d70", func := "loop.example/g00890/laws.FnExactHoles", spec := "fnExactHoles", unfollowed := true, recurses := true, apart := false, narrowed := true }
def FnExactHolesUptoSaid : Prop := fnExactHolesUptoRow.holds Try.pinned (OpenSpec.upto fnExactHolesSpec)

/-- 'laws.FnExactBoundaryEdges', WHERE WHAT IT READS IS OF BULK AT MOST 1048576: true; the input reads as it did. -/
def fnExactBoundaryEdgesUptoRow : OpenClaim := { program := "ytncjjplpenjghaa", sum := "6aa0b09be22d0afcedc072d1e2626ba4818f5b4c316afeadb95efd9ec8c25d70", func := "loop.example/g00890/laws.FnExactBoundaryEdges", spec := "fnExactBoundaryEdges", unfollowed := true, recurses := true, apart := false, narrowed := true }
def FnExactBoundaryEdgesUptoSaid : Prop := fnExactBoundaryEdgesUptoRow.holds Try.pinned (OpenSpec.upto fnExactBoundaryEdgesSpec)

end Rows
end Go.Proofs.Ytncjjplpenjghaa
