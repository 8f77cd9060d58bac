/-
  No cell of these rows narrows 'for every input' (looked for: loops, veiled, ifaces, maps, wideKeys, modest, calm, conditions, laid).
  DERIVED. THE GIVEN ROWS OF THIS SEAT. 8 by the template 'for every input the law returns true; each argument reads behind the call as it read before'; 0 by the template 'total and deterministic' (their statements: YtajogmlblknfdaaTotals.lean).
  GIVEN WITH THE SEED: the statements are not yours to turn. If you find one false, say at which input.
  Laid BY PROGRAM, IN A SANDBOX (cutbox-rows.mjs): the forced cells as the released guide's own fill.sh prints them over the translation 9213a123bae4e3fd… (all of the seat's roots in one cut). By AI agents, Wed Nov 11 2026. No macro, syntax, notation, axiom, sorry.
-/
import Derived.Test.YtajogmlblknfdaaChecked
import GoSem.Claim
import GoSem.ClaimJoined
import GoSem.ClaimMapViews
import Derived.JoinedTies
import Derived.KernelRfl
namespace Go.Proofs.Ytajogmlblknfdaa
/- THE CELL 'sum', in the pinned program and in every row, IS THE sha256 OF THE DUMP (.gsa) THAT YtajogmlblknfdaaProg.lean LOADS. Nothing in Lean hashes anything: it is a label: what it is worth is what the hold of that sum in a sandbox is worth. -/
noncomputable def Try.pinned : Pinned := { name := "ytajogmlblknfdaa", sum := "9213a123bae4e3fd3e85062861b68b73699917b21816b96405f34ac6d3dbb8b0", checked := Try.checked }
namespace Rows
def none {H : Type} : Left H := { results := [], args := [] }

/-- 'laws.FnExactChangedBy': WHATEVER THE INPUT: true; the input reads as it did. -/
def fnExactChangedBySpec : ChangeSpec := { name := "fnExactChangedBy", fn := fun _ => fun
  | [d1, d2, d3] => { results := [.lit (.bool true)], args := [d1, d2, d3] }
  | _ => none }
def fnExactChangedByRow : OpenClaim := { program := "ytajogmlblknfdaa", sum := "9213a123bae4e3fd3e85062861b68b73699917b21816b96405f34ac6d3dbb8b0", func := "loop.example/g03104/laws.FnExactChangedBy", spec := "fnExactChangedBy", unfollowed := true, recurses := true, apart := false }
def FnExactChangedBySaid : Prop := fnExactChangedByRow.holds Try.pinned (OpenSpec.ofChange fnExactChangedBySpec)

/-- ITS FALSE NEIGHBOUR: 'it returns false'. Refute it at one input. -/
def fnExactChangedByWrong : ChangeSpec := { name := "fnExactChangedBy", fn := fun _ => fun
  | [d1, d2, d3] => { results := [.lit (.bool false)], args := [d1, d2, d3] }
  | _ => none }
def FnExactChangedByWrongFalsely : Prop := fnExactChangedByRow.holds Try.pinned (OpenSpec.ofChange fnExactChangedByWrong)

/-- 'laws.FnExactMutationsOf': WHATEVER THE INPUT: true; the input reads as it did. -/
def fnExactMutationsOfSpec : ChangeSpec := { name := "fnExactMutationsOf", fn := fun _ => fun
  | [d] => { results := [.lit (.bool true)], args := [d] }
  | _ => none }
def fnExactMutationsOfRow : OpenClaim := { program := "ytajogmlblknfdaa", sum := "9213a123bae4e3fd3e85062861b68b73699917b21816b96405f34ac6d3dbb8b0", func := "loop.example/g03104/laws.FnExactMutationsOf", spec := "fnExactMutationsOf", unfollowed := true, recurses := true, apart := false }
def FnExactMutationsOfSaid : Prop := fnExactMutationsOfRow.holds Try.pinned (OpenSpec.ofChange fnExactMutationsOfSpec)

/-- ITS FALSE NEIGHBOUR: 'it returns false'. Refute it at one input. -/
def fnExactMutationsOfWrong : ChangeSpec := { name := "fnExactMutationsOf", fn := fun _ => fun
  | [d] => { results := [.lit (.bool false)], args := [d] }
  | _ => none }
def FnExactMutationsOfWrongFalsely : Prop := fnExactMutationsOfRow.holds Try.pinned (OpenSpec.ofChange fnExactMutationsOfWrong)

/-- 'laws.FnExactOrderMutations': WHATEVER THE INPUT: true; the input reads as it did. -/
def fnExactOrderMutationsSpec : ChangeSpec := { name := "fnExactOrderMutations", fn := fun _ => fun
  | [d] => { results := [.lit (.bool true)], args := [d] }
  | _ => none }
def fnExactOrderMutationsRow : OpenClaim := { program := "ytajogmlblknfdaa", sum := "9213a123bae4e3fd3e85062861b68b73699917b21816b96405f34ac6d3dbb8b0", func := "loop.example/g03104/laws.FnExactOrderMutations", spec := "fnExactOrderMutations", unfollowed := true, recurses := true, apart := false }
def FnExactOrderMutationsSaid : Prop := fnExactOrderMutationsRow.holds Try.pinned (OpenSpec.ofChange fnExactOrderMutationsSpec)

/-- ITS FALSE NEIGHBOUR: 'it returns false'. Refute it at one input. -/
def fnExactOrderMutationsWrong : ChangeSpec := { name := "fnExactOrderMutations", fn := fun _ => fun
  | [d] => { results := [.lit (.bool false)], args := [d] }
  | _ => none }
def FnExactOrderMutationsWrongFalsely : Prop := fnExactOrderMutationsRow.holds Try.pinned (OpenSpec.ofChange fnExactOrderMutationsWrong)

/-- 'laws.FnExactHalvingLines': WHATEVER THE INPUT: true; the input reads as it did. -/
def fnExactHalvingLinesSpec : ChangeSpec := { name := "fnExactHalvingLines", fn := fun _ => fun
  | [d1, d2, d3] => { results := [.lit (.bool true)], args := [d1, d2, d3] }
  | _ => none }
def fnExactHalvingLinesRow : OpenClaim := { program := "ytajogmlblknfdaa", sum := "9213a123bae4e3fd3e85062861b68b73699917b21816b96405f34ac6d3dbb8b0", func := "loop.example/g03104/laws.FnExactHalvingLines", spec := "fnExactHalvingLines", apart := false }
def FnExactHalvingLinesSaid : Prop := fnExactHalvingLinesRow.holds Try.pinned (OpenSpec.ofChange fnExactHalvingLinesSpec)

/-- ITS FALSE NEIGHBOUR: 'it returns false'. Refute it at one input. -/
def fnExactHalvingLinesWrong : ChangeSpec := { name := "fnExactHalvingLines", fn := fun _ => fun
  | [d1, d2, d3] => { results := [.lit (.bool false)], args := [d1, d2, d3] }
  | _ => none }
def FnExactHalvingLinesWrongFalsely : Prop := fnExactHalvingLinesRow.holds Try.pinned (OpenSpec.ofChange fnExactHalvingLinesWrong)

/-- 'laws.FnExactLeastGrid': WHATEVER THE INPUT: true; the input reads as it did. -/
def fnExactLeastGridSpec : ChangeSpec := { name := "fnExactLeastGrid", fn := fun _ => fun
  | [d] => { results := [.lit (.bool true)], args := [d] }
  | _ => none }
def fnExactLeastGridRow : OpenClaim := { program := "ytajogmlblknfdaa", sum := "9213a123bae4e3fd3e85062861b68b73699917b21816b96405f34ac6d3dbb8b0", func := "loop.example/g03104/laws.FnExactLeastGrid", spec := "fnExactLeastGrid", unfollowed := true, recurses := true, apart := false }
def FnExactLeastGridSaid : Prop := fnExactLeastGridRow.holds Try.pinned (OpenSpec.ofChange fnExactLeastGridSpec)

/-- ITS FALSE NEIGHBOUR: 'it returns false'. Refute it at one input. -/
def fnExactLeastGridWrong : ChangeSpec := { name := "fnExactLeastGrid", fn := fun _ => fun
  | [d] => { results := [.lit (.bool false)], args := [d] }
  | _ => none }
def FnExactLeastGridWrongFalsely : Prop := fnExactLeastGridRow.holds Try.pinned (OpenSpec.ofChange fnExactLeastGridWrong)

/-- 'laws.FnExactPlacePoints': WHATEVER THE INPUT: true; the input reads as it did. -/
def fnExactPlacePointsSpec : ChangeSpec := { name := "fnExactPlacePoints", fn := fun _ => fun
  | [d1, d2] => { results := [.lit (.bool true)], args := [d1, d2] }
  | _ => none }
def fnExactPlacePointsRow : OpenClaim := { program := "ytajogmlblknfdaa", sum := "9213a123bae4e3fd3e85062861b68b73699917b21816b96405f34ac6d3dbb8b0", func := "loop.example/g03104/laws.FnExactPlacePoints", spec := "fnExactPlacePoints", unfollowed := true, recurses := true, apart := false }
def FnExactPlacePointsSaid : Prop := fnExactPlacePointsRow.holds Try.pinned (OpenSpec.ofChange fnExactPlacePointsSpec)

/-- ITS FALSE NEIGHBOUR: 'it returns false'. Refute it at one input. -/
def fnExactPlacePointsWrong : ChangeSpec := { name := "fnExactPlacePoints", fn := fun _ => fun
  | [d1, d2] => { results := [.lit (.bool false)], args := [d1, d2] }
  | _ => none }
def FnExactPlacePointsWrongFalsely : Prop := fnExactPlacePointsRow.holds Try.pinned (OpenSpec.ofChange fnExactPlacePointsWrong)

/-- 'laws.FnExactBoxOf': WHATEVER THE INPUT: true; the input reads as it did. -/
def fnExactBoxOfSpec : ChangeSpec := { name := "fnExactBoxOf", fn := fun _ => fun
  | [d] => { results := [.lit (.bool true)], args := [d] }
  | _ => none }
def fnExactBoxOfRow : OpenClaim := { program := "ytajogmlblknfdaa", sum := "9213a123bae4e3fd3e85062861b68b73699917b21816b96405f34ac6d3dbb8b0", func := "loop.example/g03104/laws.FnExactBoxOf", spec := "fnExactBoxOf", unfollowed := true, recurses := true, apart := false }
def FnExactBoxOfSaid : Prop := fnExactBoxOfRow.holds Try.pinned (OpenSpec.ofChange fnExactBoxOfSpec)

/-- ITS FALSE NEIGHBOUR: 'it returns false'. Refute it at one input. -/
def fnExactBoxOfWrong : ChangeSpec := { name := "fnExactBoxOf", fn := fun _ => fun
  | [d] => { results := [.lit (.bool false)], args := [d] }
  | _ => none }
def FnExactBoxOfWrongFalsely : Prop := fnExactBoxOfRow.holds Try.pinned (OpenSpec.ofChange fnExactBoxOfWrong)

/-- 'laws.FnExactHullArea': WHATEVER THE INPUT: true; the input reads as it did. -/
def fnExactHullAreaSpec : ChangeSpec := { name := "fnExactHullArea", fn := fun _ => fun
  | [d] => { results := [.lit (.bool true)], args := [d] }
  | _ => none }
def fnExactHullAreaRow : OpenClaim := { program := "ytajogmlblknfdaa", sum := "9213a123bae4e3fd3e85062861b68b73699917b21816b96405f34ac6d3dbb8b0", func := "loop.example/g03104/laws.FnExactHullArea", spec := "fnExactHullArea", unfollowed := true, recurses := true, apart := false }
def FnExactHullAreaSaid : Prop := fnExactHullAreaRow.holds Try.pinned (OpenSpec.ofChange fnExactHullAreaSpec)

/-- ITS FALSE NEIGHBOUR: 'it returns false'. Refute it at one input. -/
def fnExactHullAreaWrong : ChangeSpec := { name := "fnExactHullArea", fn := fun _ => fun
  | [d] => { results := [.lit (.bool false)], args := [d] }
  | _ => none }
def FnExactHullAreaWrongFalsely : Prop := fnExactHullAreaRow.holds Try.pinned (OpenSpec.ofChange fnExactHullAreaWrong)

/- THE SECOND FORM. 'bulk': how many values and letters a reading holds, each counted each time it is reached (what is shared counts as often as it is met; a slice's spare places count too). A statement '..UptoSaid' is the law's where the arguments, and the package variables that the reading takes, are together of bulk at most 1048576: NARROWER than '..Said'. Prove '..Said' where nothing that the law and all that it calls make is longer than what came in: it says more and counts as full. Else prove '..UptoSaid'. A law counts once. -/
mutual
def uptoBulk {H : Type} : DataW H → Nat
  | .lit (.string bytes) => bytes.length + 1
  | .lit _ => 1
  | .nil => 1
  | .ptr d => uptoBulk d + 1
  | .slice elems spare => uptoBulkAll elems + uptoBulkAll spare + 1
  | .agg parts => uptoBulkAll parts + 1
  | .iface _ d => uptoBulk d + 1
  | .map entries => uptoBulkEntries entries + 1
  | .held _ => 1
def uptoBulkAll {H : Type} : List (DataW H) → Nat
  | [] => 0
  | d :: r => uptoBulk d + uptoBulkAll r
def uptoBulkEntries {H : Type} : List (Lit × DataW H) → Nat
  | [] => 0
  | x :: r => uptoBulkEntry x + uptoBulkEntries r
def uptoBulkEntry {H : Type} : Lit × DataW H → Nat
  | (.string bytes, d) => bytes.length + uptoBulk d + 1
  | (_, d) => uptoBulk d + 1
 end
def uptoSmall : (H : Type) → List (DataW H) → Bool := fun _ ds => decide (uptoBulkAll ds ≤ 1048576)
def OpenSpec.upto (s : _root_.Go.ChangeSpec) : _root_.Go.OpenSpec := { _root_.Go.OpenSpec.ofChange s with cond := some uptoSmall }

/-- 'laws.FnExactChangedBy', WHERE WHAT IT READS IS OF BULK AT MOST 1048576: true; the input reads as it did. -/
def fnExactChangedByUptoRow : OpenClaim := { program := "ytajogmlblknfdaa", sum := "9213a123bae4e3fd3e85062861b68b73699917b21816b96405f34ac6d3dbb8b0", func := "loop.example/g03104/laws.FnExactChangedBy", spec := "fnExactChangedBy", unfollowed := true, recurses := true, apart := false, narrowed := true }
def FnExactChangedByUptoSaid : Prop := fnExactChangedByUptoRow.holds Try.pinned (OpenSpec.upto fnExactChangedBySpec)

/-- 'laws.FnExactMutationsOf', WHERE WHAT IT READS IS OF BULK AT MOST 1048576: true; the input reads as it did. -/
def fnExactMutationsOfUptoRow : OpenClaim := { program := "ytajogmlblknfdaa", sum := "9213a123bae4e3fd3e85062861b68b73699917b21816b96405f34ac6d3dbb8b0", func := "loop.example/g03104/laws.FnExactMutationsOf", spec := "fnExactMutationsOf", unfollowed := true, recurses := true, apart := false, narrowed := true }
def FnExactMutationsOfUptoSaid : Prop := fnExactMutationsOfUptoRow.holds Try.pinned (OpenSpec.upto fnExactMutationsOfSpec)

/-- 'laws.FnExactOrderMutations', WHERE WHAT IT READS IS OF BULK AT MOST 1048576: true; the input reads as it did. -/
def fnExactOrderMutationsUptoRow : OpenClaim := { program := "ytajogmlblknfdaa", sum := "9213a123bae4e3fd3e85062861b68b73699917b21816b96405f34ac6d3dbb8b0", func := "loop.example/g03104/laws.FnExactOrderMutations", spec := "fnExactOrderMutations", unfollowed := true, recurses := true, apart := false, narrowed := true }
def FnExactOrderMutationsUptoSaid : Prop := fnExactOrderMutationsUptoRow.holds Try.pinned (OpenSpec.upto fnExactOrderMutationsSpec)

/-- 'laws.FnExactHalvingLines', WHERE WHAT IT READS IS OF BULK AT MOST 1048576: true; the input reads as it did. -/
def fnExactHalvingLinesUptoRow : OpenClaim := { program := "ytajogmlblknfdaa", sum := "9213a123bae4e3fd3e85062861b68b73699917b21816b96405f34ac6d3dbb8b0", func := "loop.example/g03104/laws.FnExactHalvingLines", spec := "fnExactHalvingLines", apart := false, narrowed := true }
def FnExactHalvingLinesUptoSaid : Prop := fnExactHalvingLinesUptoRow.holds Try.pinned (OpenSpec.upto fnExactHalvingLinesSpec)

/-- 'laws.FnExactLeastGrid', WHERE WHAT IT READS IS OF BULK AT MOST 1048576: true; the input reads as it did. -/
def fnExactLeastGridUptoRow : OpenClaim := { program := "ytajogmlblknfdaa", sum := "9213a123bae4e3fd3e85062861b68b73699917b21816b96405f34ac6d3dbb8b0", func := "loop.example/g03104/laws.FnExactLeastGrid", spec := "fnExactLeastGrid", unfollowed := true, recurses := true, apart := false, narrowed := true }
def FnExactLeastGridUptoSaid : Prop := fnExactLeastGridUptoRow.holds Try.pinned (OpenSpec.upto fnExactLeastGridSpec)

/-- 'laws.FnExactPlacePoints', WHERE WHAT IT READS IS OF BULK AT MOST 1048576: true; the input reads as it did. -/
def fnExactPlacePointsUptoRow : OpenClaim := { program := "ytajogmlblknfdaa", sum := "9213a123bae4e3fd3e85062861b68b73699917b21816b96405f34ac6d3dbb8b0", func := "loop.example/g03104/laws.FnExactPlacePoints", spec := "fnExactPlacePoints", unfollowed := true, recurses := true, apart := false, narrowed := true }
def FnExactPlacePointsUptoSaid : Prop := fnExactPlacePointsUptoRow.holds Try.pinned (OpenSpec.upto fnExactPlacePointsSpec)

/-- 'laws.FnExactBoxOf', WHERE WHAT IT READS IS OF BULK AT MOST 1048576: true; the input reads as it did. -/
def fnExactBoxOfUptoRow : OpenClaim := { program := "ytajogmlblknfdaa", sum := "9213a123bae4e3fd3e85062861b68b73699917b21816b96405f34ac6d3dbb8b0", func := "loop.example/g03104/laws.FnExactBoxOf", spec := "fnExactBoxOf", unfollowed := true, recurses := true, apart := false, narrowed := true }
def FnExactBoxOfUptoSaid : Prop := fnExactBoxOfUptoRow.holds Try.pinned (OpenSpec.upto fnExactBoxOfSpec)

/-- 'laws.FnExactHullArea', WHERE WHAT IT READS IS OF BULK AT MOST 1048576: true; the input reads as it did. -/
def fnExactHullAreaUptoRow : OpenClaim := { program := "ytajogmlblknfdaa", sum := "9213a123bae4e3fd3e85062861b68b73699917b21816b96405f34ac6d3dbb8b0", func := "loop.example/g03104/laws.FnExactHullArea", spec := "fnExactHullArea", unfollowed := true, recurses := true, apart := false, narrowed := true }
def FnExactHullAreaUptoSaid : Prop := fnExactHullAreaUptoRow.holds Try.pinned (OpenSpec.upto fnExactHullAreaSpec)

end Rows
end Go.Proofs.Ytajogmlblknfdaa
