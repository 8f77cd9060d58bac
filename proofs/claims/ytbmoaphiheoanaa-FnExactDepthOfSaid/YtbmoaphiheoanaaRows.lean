/-
  No cell of these rows narrows 'for every input' (looked for: loops, veiled, ifaces, maps, wideKeys, modest, calm, conditions, laid).
  DERIVED. THE GIVEN ROWS OF THIS SEAT. 9 by the template 'for every input the law returns true; each argument reads behind the call as it read before'; 0 by the template 'total and deterministic' (their statements: YtbmoaphiheoanaaTotals.lean).
  GIVEN WITH THE SEED: the statements are not yours to turn. If you find one false, say at which input.
  Laid BY PROGRAM, IN A SANDBOX (cutbox-rows.mjs): the forced cells as the released guide's own fill.sh prints them over the translation b69e6547063f3420… (all of the seat's roots in one cut). By AI agents, Wed Nov 11 2026. No macro, syntax, notation, axiom, sorry.
-/
import Derived.Test.YtbmoaphiheoanaaChecked
import GoSem.Claim
import GoSem.ClaimJoined
import GoSem.ClaimMapViews
import Derived.JoinedTies
import Derived.KernelRfl
namespace Go.Proofs.Ytbmoaphiheoanaa
/- THE CELL 'sum', in the pinned program and in every row, IS THE sha256 OF THE DUMP (.gsa) THAT YtbmoaphiheoanaaProg.lean LOADS. Nothing in Lean hashes anything: it is a label: what it is worth is what the hold of that sum in a sandbox is worth. -/
noncomputable def Try.pinned : Pinned := { name := "ytbmoaphiheoanaa", sum := "b69e6547063f34209c08629ef2c01f8ac644958ffbc93df680316d2eb58d3f60", checked := Try.checked }
namespace Rows
def none {H : Type} : Left H := { results := [], args := [] }

/-- 'laws.FnExactIsMutation': WHATEVER THE INPUT: true; the input reads as it did. -/
def fnExactIsMutationSpec : ChangeSpec := { name := "fnExactIsMutation", fn := fun _ => fun
  | [d1, d2, d3, d4] => { results := [.lit (.bool true)], args := [d1, d2, d3, d4] }
  | _ => none }
def fnExactIsMutationRow : OpenClaim := { program := "ytbmoaphiheoanaa", sum := "b69e6547063f34209c08629ef2c01f8ac644958ffbc93df680316d2eb58d3f60", func := "loop.example/g03104/laws.FnExactIsMutation", spec := "fnExactIsMutation", apart := false }
def FnExactIsMutationSaid : Prop := fnExactIsMutationRow.holds Try.pinned (OpenSpec.ofChange fnExactIsMutationSpec)

/-- ITS FALSE NEIGHBOUR: 'it returns false'. Refute it at one input. -/
def fnExactIsMutationWrong : ChangeSpec := { name := "fnExactIsMutation", fn := fun _ => fun
  | [d1, d2, d3, d4] => { results := [.lit (.bool false)], args := [d1, d2, d3, d4] }
  | _ => none }
def FnExactIsMutationWrongFalsely : Prop := fnExactIsMutationRow.holds Try.pinned (OpenSpec.ofChange fnExactIsMutationWrong)

/-- 'laws.FnExactCountOpposite': WHATEVER THE INPUT: true; the input reads as it did. -/
def fnExactCountOppositeSpec : ChangeSpec := { name := "fnExactCountOpposite", fn := fun _ => fun
  | [d] => { results := [.lit (.bool true)], args := [d] }
  | _ => none }
def fnExactCountOppositeRow : OpenClaim := { program := "ytbmoaphiheoanaa", sum := "b69e6547063f34209c08629ef2c01f8ac644958ffbc93df680316d2eb58d3f60", func := "loop.example/g03104/laws.FnExactCountOpposite", spec := "fnExactCountOpposite", apart := false }
def FnExactCountOppositeSaid : Prop := fnExactCountOppositeRow.holds Try.pinned (OpenSpec.ofChange fnExactCountOppositeSpec)

/-- ITS FALSE NEIGHBOUR: 'it returns false'. Refute it at one input. -/
def fnExactCountOppositeWrong : ChangeSpec := { name := "fnExactCountOpposite", fn := fun _ => fun
  | [d] => { results := [.lit (.bool false)], args := [d] }
  | _ => none }
def FnExactCountOppositeWrongFalsely : Prop := fnExactCountOppositeRow.holds Try.pinned (OpenSpec.ofChange fnExactCountOppositeWrong)

/-- 'laws.FnExactChangedBy': WHATEVER THE INPUT: true; the input reads as it did. -/
def fnExactChangedBySpec : ChangeSpec := { name := "fnExactChangedBy", fn := fun _ => fun
  | [d1, d2, d3] => { results := [.lit (.bool true)], args := [d1, d2, d3] }
  | _ => none }
def fnExactChangedByRow : OpenClaim := { program := "ytbmoaphiheoanaa", sum := "b69e6547063f34209c08629ef2c01f8ac644958ffbc93df680316d2eb58d3f60", func := "loop.example/g03104/laws.FnExactChangedBy", spec := "fnExactChangedBy", unfollowed := true, recurses := true, apart := false }
def FnExactChangedBySaid : Prop := fnExactChangedByRow.holds Try.pinned (OpenSpec.ofChange fnExactChangedBySpec)

/-- ITS FALSE NEIGHBOUR: 'it returns false'. Refute it at one input. -/
def fnExactChangedByWrong : ChangeSpec := { name := "fnExactChangedBy", fn := fun _ => fun
  | [d1, d2, d3] => { results := [.lit (.bool false)], args := [d1, d2, d3] }
  | _ => none }
def FnExactChangedByWrongFalsely : Prop := fnExactChangedByRow.holds Try.pinned (OpenSpec.ofChange fnExactChangedByWrong)

/-- 'laws.FnExactSymmetriesOf': WHATEVER THE INPUT: true; the input reads as it did. -/
def fnExactSymmetriesOfSpec : ChangeSpec := { name := "fnExactSymmetriesOf", fn := fun _ => fun
  | [d] => { results := [.lit (.bool true)], args := [d] }
  | _ => none }
def fnExactSymmetriesOfRow : OpenClaim := { program := "ytbmoaphiheoanaa", sum := "b69e6547063f34209c08629ef2c01f8ac644958ffbc93df680316d2eb58d3f60", func := "loop.example/g03104/laws.FnExactSymmetriesOf", spec := "fnExactSymmetriesOf", apart := false }
def FnExactSymmetriesOfSaid : Prop := fnExactSymmetriesOfRow.holds Try.pinned (OpenSpec.ofChange fnExactSymmetriesOfSpec)

/-- ITS FALSE NEIGHBOUR: 'it returns false'. Refute it at one input. -/
def fnExactSymmetriesOfWrong : ChangeSpec := { name := "fnExactSymmetriesOf", fn := fun _ => fun
  | [d] => { results := [.lit (.bool false)], args := [d] }
  | _ => none }
def FnExactSymmetriesOfWrongFalsely : Prop := fnExactSymmetriesOfRow.holds Try.pinned (OpenSpec.ofChange fnExactSymmetriesOfWrong)

/-- 'laws.FnExactLeastSigns': WHATEVER THE INPUT: true; the input reads as it did. -/
def fnExactLeastSignsSpec : ChangeSpec := { name := "fnExactLeastSigns", fn := fun _ => fun
  | [d] => { results := [.lit (.bool true)], args := [d] }
  | _ => none }
def fnExactLeastSignsRow : OpenClaim := { program := "ytbmoaphiheoanaa", sum := "b69e6547063f34209c08629ef2c01f8ac644958ffbc93df680316d2eb58d3f60", func := "loop.example/g03104/laws.FnExactLeastSigns", spec := "fnExactLeastSigns", apart := false }
def FnExactLeastSignsSaid : Prop := fnExactLeastSignsRow.holds Try.pinned (OpenSpec.ofChange fnExactLeastSignsSpec)

/-- ITS FALSE NEIGHBOUR: 'it returns false'. Refute it at one input. -/
def fnExactLeastSignsWrong : ChangeSpec := { name := "fnExactLeastSigns", fn := fun _ => fun
  | [d] => { results := [.lit (.bool false)], args := [d] }
  | _ => none }
def FnExactLeastSignsWrongFalsely : Prop := fnExactLeastSignsRow.holds Try.pinned (OpenSpec.ofChange fnExactLeastSignsWrong)

/-- 'laws.FnExactStarEdges': WHATEVER THE INPUT: true; the input reads as it did. -/
def fnExactStarEdgesSpec : ChangeSpec := { name := "fnExactStarEdges", fn := fun _ => fun
  | [d1, d2] => { results := [.lit (.bool true)], args := [d1, d2] }
  | _ => none }
def fnExactStarEdgesRow : OpenClaim := { program := "ytbmoaphiheoanaa", sum := "b69e6547063f34209c08629ef2c01f8ac644958ffbc93df680316d2eb58d3f60", func := "loop.example/g03104/laws.FnExactStarEdges", spec := "fnExactStarEdges", apart := false }
def FnExactStarEdgesSaid : Prop := fnExactStarEdgesRow.holds Try.pinned (OpenSpec.ofChange fnExactStarEdgesSpec)

/-- ITS FALSE NEIGHBOUR: 'it returns false'. Refute it at one input. -/
def fnExactStarEdgesWrong : ChangeSpec := { name := "fnExactStarEdges", fn := fun _ => fun
  | [d1, d2] => { results := [.lit (.bool false)], args := [d1, d2] }
  | _ => none }
def FnExactStarEdgesWrongFalsely : Prop := fnExactStarEdgesRow.holds Try.pinned (OpenSpec.ofChange fnExactStarEdgesWrong)

/-- 'laws.FnExactAreAlike': WHATEVER THE INPUT: true; the input reads as it did. -/
def fnExactAreAlikeSpec : ChangeSpec := { name := "fnExactAreAlike", fn := fun _ => fun
  | [d1, d2] => { results := [.lit (.bool true)], args := [d1, d2] }
  | _ => none }
def fnExactAreAlikeRow : OpenClaim := { program := "ytbmoaphiheoanaa", sum := "b69e6547063f34209c08629ef2c01f8ac644958ffbc93df680316d2eb58d3f60", func := "loop.example/g03104/laws.FnExactAreAlike", spec := "fnExactAreAlike", apart := false }
def FnExactAreAlikeSaid : Prop := fnExactAreAlikeRow.holds Try.pinned (OpenSpec.ofChange fnExactAreAlikeSpec)

/-- ITS FALSE NEIGHBOUR: 'it returns false'. Refute it at one input. -/
def fnExactAreAlikeWrong : ChangeSpec := { name := "fnExactAreAlike", fn := fun _ => fun
  | [d1, d2] => { results := [.lit (.bool false)], args := [d1, d2] }
  | _ => none }
def FnExactAreAlikeWrongFalsely : Prop := fnExactAreAlikeRow.holds Try.pinned (OpenSpec.ofChange fnExactAreAlikeWrong)

/-- 'laws.FnExactDepthOf': WHATEVER THE INPUT: true; the input reads as it did. -/
def fnExactDepthOfSpec : ChangeSpec := { name := "fnExactDepthOf", fn := fun _ => fun
  | [d1, d2] => { results := [.lit (.bool true)], args := [d1, d2] }
  | _ => none }
def fnExactDepthOfRow : OpenClaim := { program := "ytbmoaphiheoanaa", sum := "b69e6547063f34209c08629ef2c01f8ac644958ffbc93df680316d2eb58d3f60", func := "loop.example/g03104/laws.FnExactDepthOf", spec := "fnExactDepthOf", apart := false }
def FnExactDepthOfSaid : Prop := fnExactDepthOfRow.holds Try.pinned (OpenSpec.ofChange fnExactDepthOfSpec)

/-- ITS FALSE NEIGHBOUR: 'it returns false'. Refute it at one input. -/
def fnExactDepthOfWrong : ChangeSpec := { name := "fnExactDepthOf", fn := fun _ => fun
  | [d1, d2] => { results := [.lit (.bool false)], args := [d1, d2] }
  | _ => none }
def FnExactDepthOfWrongFalsely : Prop := fnExactDepthOfRow.holds Try.pinned (OpenSpec.ofChange fnExactDepthOfWrong)

/-- 'laws.FnExactMutationsOf': WHATEVER THE INPUT: true; the input reads as it did. -/
def fnExactMutationsOfSpec : ChangeSpec := { name := "fnExactMutationsOf", fn := fun _ => fun
  | [d] => { results := [.lit (.bool true)], args := [d] }
  | _ => none }
def fnExactMutationsOfRow : OpenClaim := { program := "ytbmoaphiheoanaa", sum := "b69e6547063f34209c08629ef2c01f8ac644958ffbc93df680316d2eb58d3f60", func := "loop.example/g03104/laws.FnExactMutationsOf", spec := "fnExactMutationsOf", unfollowed := true, recurses := true, apart := false }
def FnExactMutationsOfSaid : Prop := fnExactMutationsOfRow.holds Try.pinned (OpenSpec.ofChange fnExactMutationsOfSpec)

/-- ITS FALSE NEIGHBOUR: 'it returns false'. Refute it at one input. -/
def fnExactMutationsOfWrong : ChangeSpec := { name := "fnExactMutationsOf", fn := fun _ => fun
  | [d] => { results := [.lit (.bool false)], args := [d] }
  | _ => none }
def FnExactMutationsOfWrongFalsely : Prop := fnExactMutationsOfRow.holds Try.pinned (OpenSpec.ofChange fnExactMutationsOfWrong)

/- THE SECOND FORM. 'bulk': how many values and letters a reading holds, each counted each time it is reached (what is shared counts as often as it is met; a slice's spare places count too). A statement '..UptoSaid' is the law's where the arguments, and the package variables that the reading takes, are together of bulk at most 1048576: NARROWER than '..Said'. Prove '..Said' where nothing that the law and all that it calls make is longer than what came in: it says more and counts as full. Else prove '..UptoSaid'. A law counts once. -/
mutual
def uptoBulk {H : Type} : DataW H → Nat
  | .lit (.string bytes) => bytes.length + 1
  | .lit _ => 1
  | .nil => 1
  | .ptr d => uptoBulk d + 1
  | .slice elems spare => uptoBulkAll elems + uptoBulkAll spare + 1
  | .agg parts => uptoBulkAll parts + 1
  | .iface _ d => uptoBulk d + 1
  | .map entries => uptoBulkEntries entries + 1
  | .held _ => 1
def uptoBulkAll {H : Type} : List (DataW H) → Nat
  | [] => 0
  | d :: r => uptoBulk d + uptoBulkAll r
def uptoBulkEntries {H : Type} : List (Lit × DataW H) → Nat
  | [] => 0
  | x :: r => uptoBulkEntry x + uptoBulkEntries r
def uptoBulkEntry {H : Type} : Lit × DataW H → Nat
  | (.string bytes, d) => bytes.length + uptoBulk d + 1
  | (_, d) => uptoBulk d + 1
 end
def uptoSmall : (H : Type) → List (DataW H) → Bool := fun _ ds => decide (uptoBulkAll ds ≤ 1048576)
def OpenSpec.upto (s : _root_.Go.ChangeSpec) : _root_.Go.OpenSpec := { _root_.Go.OpenSpec.ofChange s with cond := some uptoSmall }

/-- 'laws.FnExactIsMutation', WHERE WHAT IT READS IS OF BULK AT MOST 1048576: true; the input reads as it did. -/
def fnExactIsMutationUptoRow : OpenClaim := { program := "ytbmoaphiheoanaa", sum := "b69e6547063f34209c08629ef2c01f8ac644958ffbc93df680316d2eb58d3f60", func := "loop.example/g03104/laws.FnExactIsMutation", spec := "fnExactIsMutation", apart := false, narrowed := true }
def FnExactIsMutationUptoSaid : Prop := fnExactIsMutationUptoRow.holds Try.pinned (OpenSpec.upto fnExactIsMutationSpec)

/-- 'laws.FnExactCountOpposite', WHERE WHAT IT READS IS OF BULK AT MOST 1048576: true; the input reads as it did. -/
def fnExactCountOppositeUptoRow : OpenClaim := { program := "ytbmoaphiheoanaa", sum := "b69e6547063f34209c08629ef2c01f8ac644958ffbc93df680316d2eb58d3f60", func := "loop.example/g03104/laws.FnExactCountOpposite", spec := "fnExactCountOpposite", apart := false, narrowed := true }
def FnExactCountOppositeUptoSaid : Prop := fnExactCountOppositeUptoRow.holds Try.pinned (OpenSpec.upto fnExactCountOppositeSpec)

/-- 'laws.FnExactChangedBy', WHERE WHAT IT READS IS OF BULK AT MOST 1048576: true; the input reads as it did. -/
def fnExactChangedByUptoRow : OpenClaim := { program := "ytbmoaphiheoanaa", sum := "b69e6547063f34209c08629ef2c01f8ac644958ffbc93df680316d2eb58d3f60", func := "loop.example/g03104/laws.FnExactChangedBy", spec := "fnExactChangedBy", unfollowed := true, recurses := true, apart := false, narrowed := true }
def FnExactChangedByUptoSaid : Prop := fnExactChangedByUptoRow.holds Try.pinned (OpenSpec.upto fnExactChangedBySpec)

/-- 'laws.FnExactSymmetriesOf', WHERE WHAT IT READS IS OF BULK AT MOST 1048576: true; the input reads as it did. -/
def fnExactSymmetriesOfUptoRow : OpenClaim := { program := "ytbmoaphiheoanaa", sum := "b69e6547063f34209c08629ef2c01f8ac644958ffbc93df680316d2eb58d3f60", func := "loop.example/g03104/laws.FnExactSymmetriesOf", spec := "fnExactSymmetriesOf", apart := false, narrowed := true }
def FnExactSymmetriesOfUptoSaid : Prop := fnExactSymmetriesOfUptoRow.holds Try.pinned (OpenSpec.upto fnExactSymmetriesOfSpec)

/-- 'laws.FnExactLeastSigns', WHERE WHAT IT READS IS OF BULK AT MOST 1048576: true; the input reads as it did. -/
def fnExactLeastSignsUptoRow : OpenClaim := { program := "ytbmoaphiheoanaa", sum := "b69e6547063f34209c08629ef2c01f8ac644958ffbc93df680316d2eb58d3f60", func := "loop.example/g03104/laws.FnExactLeastSigns", spec := "fnExactLeastSigns", apart := false, narrowed := true }
def FnExactLeastSignsUptoSaid : Prop := fnExactLeastSignsUptoRow.holds Try.pinned (OpenSpec.upto fnExactLeastSignsSpec)

/-- 'laws.FnExactStarEdges', WHERE WHAT IT READS IS OF BULK AT MOST 1048576: true; the input reads as it did. -/
def fnExactStarEdgesUptoRow : OpenClaim := { program := "ytbmoaphiheoanaa", sum := "b69e6547063f34209c08629ef2c01f8ac644958ffbc93df680316d2eb58d3f60", func := "loop.example/g03104/laws.FnExactStarEdges", spec := "fnExactStarEdges", apart := false, narrowed := true }
def FnExactStarEdgesUptoSaid : Prop := fnExactStarEdgesUptoRow.holds Try.pinned (OpenSpec.upto fnExactStarEdgesSpec)

/-- 'laws.FnExactAreAlike', WHERE WHAT IT READS IS OF BULK AT MOST 1048576: true; the input reads as it did. -/
def fnExactAreAlikeUptoRow : OpenClaim := { program := "ytbmoaphiheoanaa", sum := "b69e6547063f34209c08629ef2c01f8ac644958ffbc93df680316d2eb58d3f60", func := "loop.example/g03104/laws.FnExactAreAlike", spec := "fnExactAreAlike", apart := false, narrowed := true }
def FnExactAreAlikeUptoSaid : Prop := fnExactAreAlikeUptoRow.holds Try.pinned (OpenSpec.upto fnExactAreAlikeSpec)

/-- 'laws.FnExactDepthOf', WHERE WHAT IT READS IS OF BULK AT MOST 1048576: true; the input reads as it did. -/
def fnExactDepthOfUptoRow : OpenClaim := { program := "ytbmoaphiheoanaa", sum := "b69e6547063f34209c08629ef2c01f8ac644958ffbc93df680316d2eb58d3f60", func := "loop.example/g03104/laws.FnExactDepthOf", spec := "fnExactDepthOf", apart := false, narrowed := true }
def FnExactDepthOfUptoSaid : Prop := fnExactDepthOfUptoRow.holds Try.pinned (OpenSpec.upto fnExactDepthOfSpec)

/-- 'laws.FnExactMutationsOf', WHERE WHAT IT READS IS OF BULK AT MOST 1048576: true; the input reads as it did. -/
def fnExactMutationsOfUptoRow : OpenClaim := { program := "ytbmoaphiheoanaa", sum := "b69e6547063f34209c08629ef2c01f8ac644958ffbc93df680316d2eb58d3f60", func := "loop.example/g03104/laws.FnExactMutationsOf", spec := "fnExactMutationsOf", unfollowed := true, recurses := true, apart := false, narrowed := true }
def FnExactMutationsOfUptoSaid : Prop := fnExactMutationsOfUptoRow.holds Try.pinned (OpenSpec.upto fnExactMutationsOfSpec)

end Rows
end Go.Proofs.Ytbmoaphiheoanaa
