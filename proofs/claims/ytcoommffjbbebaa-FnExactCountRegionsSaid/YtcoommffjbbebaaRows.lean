/-
  No cell of these rows narrows 'for every input' (looked for: loops, veiled, ifaces, maps, wideKeys, modest, calm, conditions, laid).
  DERIVED. THE GIVEN ROWS OF THIS SEAT. 10 by the template 'for every input the law returns true; each argument reads behind the call as it read before'; 0 by the template 'total and deterministic' (their statements: YtcoommffjbbebaaTotals.lean).
  GIVEN WITH THE SEED: the statements are not yours to turn. If you find one false, say at which input.
  Laid BY PROGRAM, IN A SANDBOX (cutbox-rows.mjs): the forced cells as the released guide's own fill.sh prints them over the translation 554d00da4bb29b6a… (all of the seat's roots in one cut). By AI agents, Wed Nov 11 2026. No macro, syntax, notation, axiom, sorry.
-/
import Derived.Test.YtcoommffjbbebaaChecked
import GoSem.Claim
import GoSem.ClaimJoined
import GoSem.ClaimMapViews
import Derived.JoinedTies
import Derived.KernelRfl
namespace Go.Proofs.Ytcoommffjbbebaa
/- THE CELL 'sum', in the pinned program and in every row, IS THE sha256 OF THE DUMP (.gsa) THAT YtcoommffjbbebaaProg.lean LOADS. Nothing in Lean hashes anything: it is a label: what it is worth is what the hold of that sum in a sandbox is worth. -/
noncomputable def Try.pinned : Pinned := { name := "ytcoommffjbbebaa", sum := "554d00da4bb29b6aaa9849a15c55a6d4c640053a52a46f9a23aa2b88fcce487c", checked := Try.checked }
namespace Rows
def none {H : Type} : Left H := { results := [], args := [] }

/-- 'laws.FnExactPlacePoints': WHATEVER THE INPUT: true; the input reads as it did. -/
def fnExactPlacePointsSpec : ChangeSpec := { name := "fnExactPlacePoints", fn := fun _ => fun
  | [d1, d2] => { results := [.lit (.bool true)], args := [d1, d2] }
  | _ => none }
def fnExactPlacePointsRow : OpenClaim := { program := "ytcoommffjbbebaa", sum := "554d00da4bb29b6aaa9849a15c55a6d4c640053a52a46f9a23aa2b88fcce487c", func := "loop.example/g03104/laws.FnExactPlacePoints", spec := "fnExactPlacePoints", unfollowed := true, recurses := true, plainKeys := false, apart := false }
def FnExactPlacePointsSaid : Prop := fnExactPlacePointsRow.holds Try.pinned (OpenSpec.ofChange fnExactPlacePointsSpec)

/-- ITS FALSE NEIGHBOUR: 'it returns false'. Refute it at one input. -/
def fnExactPlacePointsWrong : ChangeSpec := { name := "fnExactPlacePoints", fn := fun _ => fun
  | [d1, d2] => { results := [.lit (.bool false)], args := [d1, d2] }
  | _ => none }
def FnExactPlacePointsWrongFalsely : Prop := fnExactPlacePointsRow.holds Try.pinned (OpenSpec.ofChange fnExactPlacePointsWrong)

/-- 'laws.FnExactLeastGrid': WHATEVER THE INPUT: true; the input reads as it did. -/
def fnExactLeastGridSpec : ChangeSpec := { name := "fnExactLeastGrid", fn := fun _ => fun
  | [d] => { results := [.lit (.bool true)], args := [d] }
  | _ => none }
def fnExactLeastGridRow : OpenClaim := { program := "ytcoommffjbbebaa", sum := "554d00da4bb29b6aaa9849a15c55a6d4c640053a52a46f9a23aa2b88fcce487c", func := "loop.example/g03104/laws.FnExactLeastGrid", spec := "fnExactLeastGrid", unfollowed := true, recurses := true, plainKeys := false, apart := false }
def FnExactLeastGridSaid : Prop := fnExactLeastGridRow.holds Try.pinned (OpenSpec.ofChange fnExactLeastGridSpec)

/-- ITS FALSE NEIGHBOUR: 'it returns false'. Refute it at one input. -/
def fnExactLeastGridWrong : ChangeSpec := { name := "fnExactLeastGrid", fn := fun _ => fun
  | [d] => { results := [.lit (.bool false)], args := [d] }
  | _ => none }
def FnExactLeastGridWrongFalsely : Prop := fnExactLeastGridRow.holds Try.pinned (OpenSpec.ofChange fnExactLeastGridWrong)

/-- 'laws.FnExactCountWays': WHATEVER THE INPUT: true; the input reads as it did. -/
def fnExactCountWaysSpec : ChangeSpec := { name := "fnExactCountWays", fn := fun _ => fun
  | [d1, d2] => { results := [.lit (.bool true)], args := [d1, d2] }
  | _ => none }
def fnExactCountWaysRow : OpenClaim := { program := "ytcoommffjbbebaa", sum := "554d00da4bb29b6aaa9849a15c55a6d4c640053a52a46f9a23aa2b88fcce487c", func := "loop.example/g03104/laws.FnExactCountWays", spec := "fnExactCountWays", unfollowed := true, recurses := true, plainKeys := false, apart := false }
def FnExactCountWaysSaid : Prop := fnExactCountWaysRow.holds Try.pinned (OpenSpec.ofChange fnExactCountWaysSpec)

/-- ITS FALSE NEIGHBOUR: 'it returns false'. Refute it at one input. -/
def fnExactCountWaysWrong : ChangeSpec := { name := "fnExactCountWays", fn := fun _ => fun
  | [d1, d2] => { results := [.lit (.bool false)], args := [d1, d2] }
  | _ => none }
def FnExactCountWaysWrongFalsely : Prop := fnExactCountWaysRow.holds Try.pinned (OpenSpec.ofChange fnExactCountWaysWrong)

/-- 'laws.FnExactDropWire': WHATEVER THE INPUT: true; the input reads as it did. -/
def fnExactDropWireSpec : ChangeSpec := { name := "fnExactDropWire", fn := fun _ => fun
  | [d1, d2, d3] => { results := [.lit (.bool true)], args := [d1, d2, d3] }
  | _ => none }
def fnExactDropWireRow : OpenClaim := { program := "ytcoommffjbbebaa", sum := "554d00da4bb29b6aaa9849a15c55a6d4c640053a52a46f9a23aa2b88fcce487c", func := "loop.example/g03104/laws.FnExactDropWire", spec := "fnExactDropWire", unfollowed := true, recurses := true, plainKeys := false, apart := false }
def FnExactDropWireSaid : Prop := fnExactDropWireRow.holds Try.pinned (OpenSpec.ofChange fnExactDropWireSpec)

/-- ITS FALSE NEIGHBOUR: 'it returns false'. Refute it at one input. -/
def fnExactDropWireWrong : ChangeSpec := { name := "fnExactDropWire", fn := fun _ => fun
  | [d1, d2, d3] => { results := [.lit (.bool false)], args := [d1, d2, d3] }
  | _ => none }
def FnExactDropWireWrongFalsely : Prop := fnExactDropWireRow.holds Try.pinned (OpenSpec.ofChange fnExactDropWireWrong)

/-- 'laws.FnExactMutationPath': WHATEVER THE INPUT: true; the input reads as it did. -/
def fnExactMutationPathSpec : ChangeSpec := { name := "fnExactMutationPath", fn := fun _ => fun
  | [d1, d2] => { results := [.lit (.bool true)], args := [d1, d2] }
  | _ => none }
def fnExactMutationPathRow : OpenClaim := { program := "ytcoommffjbbebaa", sum := "554d00da4bb29b6aaa9849a15c55a6d4c640053a52a46f9a23aa2b88fcce487c", func := "loop.example/g03104/laws.FnExactMutationPath", spec := "fnExactMutationPath", unfollowed := true, recurses := true, plainKeys := false, apart := false }
def FnExactMutationPathSaid : Prop := fnExactMutationPathRow.holds Try.pinned (OpenSpec.ofChange fnExactMutationPathSpec)

/-- ITS FALSE NEIGHBOUR: 'it returns false'. Refute it at one input. -/
def fnExactMutationPathWrong : ChangeSpec := { name := "fnExactMutationPath", fn := fun _ => fun
  | [d1, d2] => { results := [.lit (.bool false)], args := [d1, d2] }
  | _ => none }
def FnExactMutationPathWrongFalsely : Prop := fnExactMutationPathRow.holds Try.pinned (OpenSpec.ofChange fnExactMutationPathWrong)

/-- 'laws.FnExactMeetingRow': WHATEVER THE INPUT: true; the input reads as it did. -/
def fnExactMeetingRowSpec : ChangeSpec := { name := "fnExactMeetingRow", fn := fun _ => fun
  | [d] => { results := [.lit (.bool true)], args := [d] }
  | _ => none }
def fnExactMeetingRowRow : OpenClaim := { program := "ytcoommffjbbebaa", sum := "554d00da4bb29b6aaa9849a15c55a6d4c640053a52a46f9a23aa2b88fcce487c", func := "loop.example/g03104/laws.FnExactMeetingRow", spec := "fnExactMeetingRow", unfollowed := true, recurses := true, plainKeys := false, apart := false }
def FnExactMeetingRowSaid : Prop := fnExactMeetingRowRow.holds Try.pinned (OpenSpec.ofChange fnExactMeetingRowSpec)

/-- ITS FALSE NEIGHBOUR: 'it returns false'. Refute it at one input. -/
def fnExactMeetingRowWrong : ChangeSpec := { name := "fnExactMeetingRow", fn := fun _ => fun
  | [d] => { results := [.lit (.bool false)], args := [d] }
  | _ => none }
def FnExactMeetingRowWrongFalsely : Prop := fnExactMeetingRowRow.holds Try.pinned (OpenSpec.ofChange fnExactMeetingRowWrong)

/-- 'laws.FnExactCountRegions': WHATEVER THE INPUT: true; the input reads as it did. -/
def fnExactCountRegionsSpec : ChangeSpec := { name := "fnExactCountRegions", fn := fun _ => fun
  | [d] => { results := [.lit (.bool true)], args := [d] }
  | _ => none }
def fnExactCountRegionsRow : OpenClaim := { program := "ytcoommffjbbebaa", sum := "554d00da4bb29b6aaa9849a15c55a6d4c640053a52a46f9a23aa2b88fcce487c", func := "loop.example/g03104/laws.FnExactCountRegions", spec := "fnExactCountRegions", unfollowed := true, recurses := true, plainKeys := false, apart := false }
def FnExactCountRegionsSaid : Prop := fnExactCountRegionsRow.holds Try.pinned (OpenSpec.ofChange fnExactCountRegionsSpec)

/-- ITS FALSE NEIGHBOUR: 'it returns false'. Refute it at one input. -/
def fnExactCountRegionsWrong : ChangeSpec := { name := "fnExactCountRegions", fn := fun _ => fun
  | [d] => { results := [.lit (.bool false)], args := [d] }
  | _ => none }
def FnExactCountRegionsWrongFalsely : Prop := fnExactCountRegionsRow.holds Try.pinned (OpenSpec.ofChange fnExactCountRegionsWrong)

/-- 'laws.FnExactTypesOf': WHATEVER THE INPUT: true; the input reads as it did. -/
def fnExactTypesOfSpec : ChangeSpec := { name := "fnExactTypesOf", fn := fun _ => fun
  | [d] => { results := [.lit (.bool true)], args := [d] }
  | _ => none }
def fnExactTypesOfRow : OpenClaim := { program := "ytcoommffjbbebaa", sum := "554d00da4bb29b6aaa9849a15c55a6d4c640053a52a46f9a23aa2b88fcce487c", func := "loop.example/g03104/laws.FnExactTypesOf", spec := "fnExactTypesOf", recurses := true, plainKeys := false, apart := false }
def FnExactTypesOfSaid : Prop := fnExactTypesOfRow.holds Try.pinned (OpenSpec.ofChange fnExactTypesOfSpec)

/-- ITS FALSE NEIGHBOUR: 'it returns false'. Refute it at one input. -/
def fnExactTypesOfWrong : ChangeSpec := { name := "fnExactTypesOf", fn := fun _ => fun
  | [d] => { results := [.lit (.bool false)], args := [d] }
  | _ => none }
def FnExactTypesOfWrongFalsely : Prop := fnExactTypesOfRow.holds Try.pinned (OpenSpec.ofChange fnExactTypesOfWrong)

/-- 'laws.FnExactTypeOf': WHATEVER THE INPUT: true; the input reads as it did. -/
def fnExactTypeOfSpec : ChangeSpec := { name := "fnExactTypeOf", fn := fun _ => fun
  | [d] => { results := [.lit (.bool true)], args := [d] }
  | _ => none }
def fnExactTypeOfRow : OpenClaim := { program := "ytcoommffjbbebaa", sum := "554d00da4bb29b6aaa9849a15c55a6d4c640053a52a46f9a23aa2b88fcce487c", func := "loop.example/g03104/laws.FnExactTypeOf", spec := "fnExactTypeOf", recurses := true, plainKeys := false, apart := false }
def FnExactTypeOfSaid : Prop := fnExactTypeOfRow.holds Try.pinned (OpenSpec.ofChange fnExactTypeOfSpec)

/-- ITS FALSE NEIGHBOUR: 'it returns false'. Refute it at one input. -/
def fnExactTypeOfWrong : ChangeSpec := { name := "fnExactTypeOf", fn := fun _ => fun
  | [d] => { results := [.lit (.bool false)], args := [d] }
  | _ => none }
def FnExactTypeOfWrongFalsely : Prop := fnExactTypeOfRow.holds Try.pinned (OpenSpec.ofChange fnExactTypeOfWrong)

/-- 'laws.FnExactExtendWiring': WHATEVER THE INPUT: true; the input reads as it did. -/
def fnExactExtendWiringSpec : ChangeSpec := { name := "fnExactExtendWiring", fn := fun _ => fun
  | [d1, d2] => { results := [.lit (.bool true)], args := [d1, d2] }
  | _ => none }
def fnExactExtendWiringRow : OpenClaim := { program := "ytcoommffjbbebaa", sum := "554d00da4bb29b6aaa9849a15c55a6d4c640053a52a46f9a23aa2b88fcce487c", func := "loop.example/g03104/laws.FnExactExtendWiring", spec := "fnExactExtendWiring", unfollowed := true, recurses := true, plainKeys := false, apart := false }
def FnExactExtendWiringSaid : Prop := fnExactExtendWiringRow.holds Try.pinned (OpenSpec.ofChange fnExactExtendWiringSpec)

/-- ITS FALSE NEIGHBOUR: 'it returns false'. Refute it at one input. -/
def fnExactExtendWiringWrong : ChangeSpec := { name := "fnExactExtendWiring", fn := fun _ => fun
  | [d1, d2] => { results := [.lit (.bool false)], args := [d1, d2] }
  | _ => none }
def FnExactExtendWiringWrongFalsely : Prop := fnExactExtendWiringRow.holds Try.pinned (OpenSpec.ofChange fnExactExtendWiringWrong)

/- THE SECOND FORM. 'bulk': how many values and letters a reading holds, each counted each time it is reached (what is shared counts as often as it is met; a slice's spare places count too). A statement '..UptoSaid' is the law's where the arguments, and the package variables that the reading takes, are together of bulk at most 1048576: NARROWER than '..Said'. Prove '..Said' where nothing that the law and all that it calls make is longer than what came in: it says more and counts as full. Else prove '..UptoSaid'. A law counts once. -/
mutual
def uptoBulk {H : Type} : DataW H → Nat
  | .lit (.string bytes) => bytes.length + 1
  | .lit _ => 1
  | .nil => 1
  | .ptr d => uptoBulk d + 1
  | .slice elems spare => uptoBulkAll elems + uptoBulkAll spare + 1
  | .agg parts => uptoBulkAll parts + 1
  | .iface _ d => uptoBulk d + 1
  | .map entries => uptoBulkEntries entries + 1
  | .held _ => 1
def uptoBulkAll {H : Type} : List (DataW H) → Nat
  | [] => 0
  | d :: r => uptoBulk d + uptoBulkAll r
def uptoBulkEntries {H : Type} : List (Lit × DataW H) → Nat
  | [] => 0
  | x :: r => uptoBulkEntry x + uptoBulkEntries r
def uptoBulkEntry {H : Type} : Lit × DataW H → Nat
  | (.string bytes, d) => bytes.length + uptoBulk d + 1
  | (_, d) => uptoBulk d + 1
 end
def uptoSmall : (H : Type) → List (DataW H) → Bool := fun _ ds => decide (uptoBulkAll ds ≤ 1048576)
def OpenSpec.upto (s : _root_.Go.ChangeSpec) : _root_.Go.OpenSpec := { _root_.Go.OpenSpec.ofChange s with cond := some uptoSmall }

/-- 'laws.FnExactPlacePoints', WHERE WHAT IT READS IS OF BULK AT MOST 1048576: true; the input reads as it did. -/
def fnExactPlacePointsUptoRow : OpenClaim := { program := "ytcoommffjbbebaa", sum := "554d00da4bb29b6aaa9849a15c55a6d4c640053a52a46f9a23aa2b88fcce487c", func := "loop.example/g03104/laws.FnExactPlacePoints", spec := "fnExactPlacePoints", unfollowed := true, recurses := true, plainKeys := false, apart := false, narrowed := true }
def FnExactPlacePointsUptoSaid : Prop := fnExactPlacePointsUptoRow.holds Try.pinned (OpenSpec.upto fnExactPlacePointsSpec)

/-- 'laws.FnExactLeastGrid', WHERE WHAT IT READS IS OF BULK AT MOST 1048576: true; the input reads as it did. -/
def fnExactLeastGridUptoRow : OpenClaim := { program := "ytcoommffjbbebaa", sum := "554d00da4bb29b6aaa9849a15c55a6d4c640053a52a46f9a23aa2b88fcce487c", func := "loop.example/g03104/laws.FnExactLeastGrid", spec := "fnExactLeastGrid", unfollowed := true, recurses := true, plainKeys := false, apart := false, narrowed := true }
def FnExactLeastGridUptoSaid : Prop := fnExactLeastGridUptoRow.holds Try.pinned (OpenSpec.upto fnExactLeastGridSpec)

/-- 'laws.FnExactCountWays', WHERE WHAT IT READS IS OF BULK AT MOST 1048576: true; the input reads as it did. -/
def fnExactCountWaysUptoRow : OpenClaim := { program := "ytcoommffjbbebaa", sum := "554d00da4bb29b6aaa9849a15c55a6d4c640053a52a46f9a23aa2b88fcce487c", func := "loop.example/g03104/laws.FnExactCountWays", spec := "fnExactCountWays", unfollowed := true, recurses := true, plainKeys := false, apart := false, narrowed := true }
def FnExactCountWaysUptoSaid : Prop := fnExactCountWaysUptoRow.holds Try.pinned (OpenSpec.upto fnExactCountWaysSpec)

/-- 'laws.FnExactDropWire', WHERE WHAT IT READS IS OF BULK AT MOST 1048576: true; the input reads as it did. -/
def fnExactDropWireUptoRow : OpenClaim := { program := "ytcoommffjbbebaa", sum := "554d00da4bb29b6aaa9849a15c55a6d4c640053a52a46f9a23aa2b88fcce487c", func := "loop.example/g03104/laws.FnExactDropWire", spec := "fnExactDropWire", unfollowed := true, recurses := true, plainKeys := false, apart := false, narrowed := true }
def FnExactDropWireUptoSaid : Prop := fnExactDropWireUptoRow.holds Try.pinned (OpenSpec.upto fnExactDropWireSpec)

/-- 'laws.FnExactMutationPath', WHERE WHAT IT READS IS OF BULK AT MOST 1048576: true; the input reads as it did. -/
def fnExactMutationPathUptoRow : OpenClaim := { program := "ytcoommffjbbebaa", sum := "554d00da4bb29b6aaa9849a15c55a6d4c640053a52a46f9a23aa2b88fcce487c", func := "loop.example/g03104/laws.FnExactMutationPath", spec := "fnExactMutationPath", unfollowed := true, recurses := true, plainKeys := false, apart := false, narrowed := true }
def FnExactMutationPathUptoSaid : Prop := fnExactMutationPathUptoRow.holds Try.pinned (OpenSpec.upto fnExactMutationPathSpec)

/-- 'laws.FnExactMeetingRow', WHERE WHAT IT READS IS OF BULK AT MOST 1048576: true; the input reads as it did. -/
def fnExactMeetingRowUptoRow : OpenClaim := { program := "ytcoommffjbbebaa", sum := "554d00da4bb29b6aaa9849a15c55a6d4c640053a52a46f9a23aa2b88fcce487c", func := "loop.example/g03104/laws.FnExactMeetingRow", spec := "fnExactMeetingRow", unfollowed := true, recurses := true, plainKeys := false, apart := false, narrowed := true }
def FnExactMeetingRowUptoSaid : Prop := fnExactMeetingRowUptoRow.holds Try.pinned (OpenSpec.upto fnExactMeetingRowSpec)

/-- 'laws.FnExactCountRegions', WHERE WHAT IT READS IS OF BULK AT MOST 1048576: true; the input reads as it did. -/
def fnExactCountRegionsUptoRow : OpenClaim := { program := "ytcoommffjbbebaa", sum := "554d00da4bb29b6aaa9849a15c55a6d4c640053a52a46f9a23aa2b88fcce487c", func := "loop.example/g03104/laws.FnExactCountRegions", spec := "fnExactCountRegions", unfollowed := true, recurses := true, plainKeys := false, apart := false, narrowed := true }
def FnExactCountRegionsUptoSaid : Prop := fnExactCountRegionsUptoRow.holds Try.pinned (OpenSpec.upto fnExactCountRegionsSpec)

/-- 'laws.FnExactTypesOf', WHERE WHAT IT READS IS OF BULK AT MOST 1048576: true; the input reads as it did. -/
def fnExactTypesOfUptoRow : OpenClaim := { program := "ytcoommffjbbebaa", sum := "554d00da4bb29b6aaa9849a15c55a6d4c640053a52a46f9a23aa2b88fcce487c", func := "loop.example/g03104/laws.FnExactTypesOf", spec := "fnExactTypesOf", recurses := true, plainKeys := false, apart := false, narrowed := true }
def FnExactTypesOfUptoSaid : Prop := fnExactTypesOfUptoRow.holds Try.pinned (OpenSpec.upto fnExactTypesOfSpec)

/-- 'laws.FnExactTypeOf', WHERE WHAT IT READS IS OF BULK AT MOST 1048576: true; the input reads as it did. -/
def fnExactTypeOfUptoRow : OpenClaim := { program := "ytcoommffjbbebaa", sum := "554d00da4bb29b6aaa9849a15c55a6d4c640053a52a46f9a23aa2b88fcce487c", func := "loop.example/g03104/laws.FnExactTypeOf", spec := "fnExactTypeOf", recurses := true, plainKeys := false, apart := false, narrowed := true }
def FnExactTypeOfUptoSaid : Prop := fnExactTypeOfUptoRow.holds Try.pinned (OpenSpec.upto fnExactTypeOfSpec)

/-- 'laws.FnExactExtendWiring', WHERE WHAT IT READS IS OF BULK AT MOST 1048576: true; the input reads as it did. -/
def fnExactExtendWiringUptoRow : OpenClaim := { program := "ytcoommffjbbebaa", sum := "554d00da4bb29b6aaa9849a15c55a6d4c640053a52a46f9a23aa2b88fcce487c", func := "loop.example/g03104/laws.FnExactExtendWiring", spec := "fnExactExtendWiring", unfollowed := true, recurses := true, plainKeys := false, apart := false, narrowed := true }
def FnExactExtendWiringUptoSaid : Prop := fnExactExtendWiringUptoRow.holds Try.pinned (OpenSpec.upto fnExactExtendWiringSpec)

end Rows
end Go.Proofs.Ytcoommffjbbebaa
