/-
  No cell of these rows narrows 'for every input' (looked for: loops, veiled, ifaces, maps, wideKeys, modest, calm, conditions, laid).
  DERIVED. THE GIVEN ROWS OF THIS SEAT. 8 by the template 'for every input the law returns true; each argument reads behind the call as it read before'; 0 by the template 'total and deterministic' (their statements: YtoajlmlobaccdaaTotals.lean).
  GIVEN WITH THE SEED: the statements are not yours to turn. If you find one false, say at which input.
  Laid BY PROGRAM, IN A SANDBOX (cutbox-rows.mjs): the forced cells as the released guide's own fill.sh prints them over the translation b8a22b5a468a132f… (all of the seat's roots in one cut). By AI agents, Wed Nov 11 2026. No macro, syntax, notation, axiom, sorry.
-/
import Derived.Test.YtoajlmlobaccdaaChecked
import GoSem.Claim
import GoSem.ClaimJoined
import GoSem.ClaimMapViews
import Derived.JoinedTies
import Derived.KernelRfl
namespace Go.Proofs.Ytoajlmlobaccdaa
/- THE CELL 'sum', in the pinned program and in every row, IS THE sha256 OF THE DUMP (.gsa) THAT YtoajlmlobaccdaaProg.lean LOADS. Nothing in Lean hashes anything: it is a label: what it is worth is what the hold of that sum in a sandbox is worth. -/
noncomputable def Try.pinned : Pinned := { name := "ytoajlmlobaccdaa", sum := "b8a22b5a468a132f6472edda6d5c90ec46f98a80c449ba7f438f2344fd369353", checked := Try.checked }
namespace Rows
def none {H : Type} : Left H := { results := [], args := [] }

/-- 'laws.FnExactTypesOf': WHATEVER THE INPUT: true; the input reads as it did. -/
def fnExactTypesOfSpec : ChangeSpec := { name := "fnExactTypesOf", fn := fun _ => fun
  | [d] => { results := [.lit (.bool true)], args := [d] }
  | _ => none }
def fnExactTypesOfRow : OpenClaim := { program := "ytoajlmlobaccdaa", sum := "b8a22b5a468a132f6472edda6d5c90ec46f98a80c449ba7f438f2344fd369353", func := "loop.example/g03104/laws.FnExactTypesOf", spec := "fnExactTypesOf", recurses := true, plainKeys := false, apart := false }
def FnExactTypesOfSaid : Prop := fnExactTypesOfRow.holds Try.pinned (OpenSpec.ofChange fnExactTypesOfSpec)

/-- ITS FALSE NEIGHBOUR: 'it returns false'. Refute it at one input. -/
def fnExactTypesOfWrong : ChangeSpec := { name := "fnExactTypesOf", fn := fun _ => fun
  | [d] => { results := [.lit (.bool false)], args := [d] }
  | _ => none }
def FnExactTypesOfWrongFalsely : Prop := fnExactTypesOfRow.holds Try.pinned (OpenSpec.ofChange fnExactTypesOfWrong)

/-- 'laws.FnExactTypeOf': WHATEVER THE INPUT: true; the input reads as it did. -/
def fnExactTypeOfSpec : ChangeSpec := { name := "fnExactTypeOf", fn := fun _ => fun
  | [d] => { results := [.lit (.bool true)], args := [d] }
  | _ => none }
def fnExactTypeOfRow : OpenClaim := { program := "ytoajlmlobaccdaa", sum := "b8a22b5a468a132f6472edda6d5c90ec46f98a80c449ba7f438f2344fd369353", func := "loop.example/g03104/laws.FnExactTypeOf", spec := "fnExactTypeOf", recurses := true, plainKeys := false, apart := false }
def FnExactTypeOfSaid : Prop := fnExactTypeOfRow.holds Try.pinned (OpenSpec.ofChange fnExactTypeOfSpec)

/-- ITS FALSE NEIGHBOUR: 'it returns false'. Refute it at one input. -/
def fnExactTypeOfWrong : ChangeSpec := { name := "fnExactTypeOf", fn := fun _ => fun
  | [d] => { results := [.lit (.bool false)], args := [d] }
  | _ => none }
def FnExactTypeOfWrongFalsely : Prop := fnExactTypeOfRow.holds Try.pinned (OpenSpec.ofChange fnExactTypeOfWrong)

/-- 'laws.FnExactCountWays': WHATEVER THE INPUT: true; the input reads as it did. -/
def fnExactCountWaysSpec : ChangeSpec := { name := "fnExactCountWays", fn := fun _ => fun
  | [d1, d2] => { results := [.lit (.bool true)], args := [d1, d2] }
  | _ => none }
def fnExactCountWaysRow : OpenClaim := { program := "ytoajlmlobaccdaa", sum := "b8a22b5a468a132f6472edda6d5c90ec46f98a80c449ba7f438f2344fd369353", func := "loop.example/g03104/laws.FnExactCountWays", spec := "fnExactCountWays", unfollowed := true, recurses := true, plainKeys := false, apart := false }
def FnExactCountWaysSaid : Prop := fnExactCountWaysRow.holds Try.pinned (OpenSpec.ofChange fnExactCountWaysSpec)

/-- ITS FALSE NEIGHBOUR: 'it returns false'. Refute it at one input. -/
def fnExactCountWaysWrong : ChangeSpec := { name := "fnExactCountWays", fn := fun _ => fun
  | [d1, d2] => { results := [.lit (.bool false)], args := [d1, d2] }
  | _ => none }
def FnExactCountWaysWrongFalsely : Prop := fnExactCountWaysRow.holds Try.pinned (OpenSpec.ofChange fnExactCountWaysWrong)

/-- 'laws.FnExactExtendWiring': WHATEVER THE INPUT: true; the input reads as it did. -/
def fnExactExtendWiringSpec : ChangeSpec := { name := "fnExactExtendWiring", fn := fun _ => fun
  | [d1, d2] => { results := [.lit (.bool true)], args := [d1, d2] }
  | _ => none }
def fnExactExtendWiringRow : OpenClaim := { program := "ytoajlmlobaccdaa", sum := "b8a22b5a468a132f6472edda6d5c90ec46f98a80c449ba7f438f2344fd369353", func := "loop.example/g03104/laws.FnExactExtendWiring", spec := "fnExactExtendWiring", unfollowed := true, recurses := true, plainKeys := false, apart := false }
def FnExactExtendWiringSaid : Prop := fnExactExtendWiringRow.holds Try.pinned (OpenSpec.ofChange fnExactExtendWiringSpec)

/-- ITS FALSE NEIGHBOUR: 'it returns false'. Refute it at one input. -/
def fnExactExtendWiringWrong : ChangeSpec := { name := "fnExactExtendWiring", fn := fun _ => fun
  | [d1, d2] => { results := [.lit (.bool false)], args := [d1, d2] }
  | _ => none }
def FnExactExtendWiringWrongFalsely : Prop := fnExactExtendWiringRow.holds Try.pinned (OpenSpec.ofChange fnExactExtendWiringWrong)

/-- 'laws.FnExactMutationPath': WHATEVER THE INPUT: true; the input reads as it did. -/
def fnExactMutationPathSpec : ChangeSpec := { name := "fnExactMutationPath", fn := fun _ => fun
  | [d1, d2] => { results := [.lit (.bool true)], args := [d1, d2] }
  | _ => none }
def fnExactMutationPathRow : OpenClaim := { program := "ytoajlmlobaccdaa", sum := "b8a22b5a468a132f6472edda6d5c90ec46f98a80c449ba7f438f2344fd369353", func := "loop.example/g03104/laws.FnExactMutationPath", spec := "fnExactMutationPath", unfollowed := true, recurses := true, plainKeys := false, apart := false }
def FnExactMutationPathSaid : Prop := fnExactMutationPathRow.holds Try.pinned (OpenSpec.ofChange fnExactMutationPathSpec)

/-- ITS FALSE NEIGHBOUR: 'it returns false'. Refute it at one input. -/
def fnExactMutationPathWrong : ChangeSpec := { name := "fnExactMutationPath", fn := fun _ => fun
  | [d1, d2] => { results := [.lit (.bool false)], args := [d1, d2] }
  | _ => none }
def FnExactMutationPathWrongFalsely : Prop := fnExactMutationPathRow.holds Try.pinned (OpenSpec.ofChange fnExactMutationPathWrong)

/-- 'laws.FnPure': WHATEVER THE INPUT: true; the input reads as it did. -/
def fnPureSpec : ChangeSpec := { name := "fnPure", fn := fun _ => fun
  | [d] => { results := [.lit (.bool true)], args := [d] }
  | _ => none }
def fnPureRow : OpenClaim := { program := "ytoajlmlobaccdaa", sum := "b8a22b5a468a132f6472edda6d5c90ec46f98a80c449ba7f438f2344fd369353", func := "loop.example/g03104/laws.FnPure", spec := "fnPure", unfollowed := true, recurses := true, plainKeys := false, apart := false }
def FnPureSaid : Prop := fnPureRow.holds Try.pinned (OpenSpec.ofChange fnPureSpec)

/-- ITS FALSE NEIGHBOUR: 'it returns false'. Refute it at one input. -/
def fnPureWrong : ChangeSpec := { name := "fnPure", fn := fun _ => fun
  | [d] => { results := [.lit (.bool false)], args := [d] }
  | _ => none }
def FnPureWrongFalsely : Prop := fnPureRow.holds Try.pinned (OpenSpec.ofChange fnPureWrong)

/-- 'laws.FnMutations': WHATEVER THE INPUT: true; the input reads as it did. -/
def fnMutationsSpec : ChangeSpec := { name := "fnMutations", fn := fun _ => fun
  | [d] => { results := [.lit (.bool true)], args := [d] }
  | _ => none }
def fnMutationsRow : OpenClaim := { program := "ytoajlmlobaccdaa", sum := "b8a22b5a468a132f6472edda6d5c90ec46f98a80c449ba7f438f2344fd369353", func := "loop.example/g03104/laws.FnMutations", spec := "fnMutations", unfollowed := true, recurses := true, plainKeys := false, apart := false }
def FnMutationsSaid : Prop := fnMutationsRow.holds Try.pinned (OpenSpec.ofChange fnMutationsSpec)

/-- ITS FALSE NEIGHBOUR: 'it returns false'. Refute it at one input. -/
def fnMutationsWrong : ChangeSpec := { name := "fnMutations", fn := fun _ => fun
  | [d] => { results := [.lit (.bool false)], args := [d] }
  | _ => none }
def FnMutationsWrongFalsely : Prop := fnMutationsRow.holds Try.pinned (OpenSpec.ofChange fnMutationsWrong)

/-- 'laws.FnCells': WHATEVER THE INPUT: true; the input reads as it did. -/
def fnCellsSpec : ChangeSpec := { name := "fnCells", fn := fun _ => fun
  | [d] => { results := [.lit (.bool true)], args := [d] }
  | _ => none }
def fnCellsRow : OpenClaim := { program := "ytoajlmlobaccdaa", sum := "b8a22b5a468a132f6472edda6d5c90ec46f98a80c449ba7f438f2344fd369353", func := "loop.example/g03104/laws.FnCells", spec := "fnCells", unfollowed := true, recurses := true, plainKeys := false, apart := false }
def FnCellsSaid : Prop := fnCellsRow.holds Try.pinned (OpenSpec.ofChange fnCellsSpec)

/-- ITS FALSE NEIGHBOUR: 'it returns false'. Refute it at one input. -/
def fnCellsWrong : ChangeSpec := { name := "fnCells", fn := fun _ => fun
  | [d] => { results := [.lit (.bool false)], args := [d] }
  | _ => none }
def FnCellsWrongFalsely : Prop := fnCellsRow.holds Try.pinned (OpenSpec.ofChange fnCellsWrong)

/- THE SECOND FORM. 'bulk': how many values and letters a reading holds, each counted each time it is reached (what is shared counts as often as it is met; a slice's spare places count too). A statement '..UptoSaid' is the law's where the arguments, and the package variables that the reading takes, are together of bulk at most 1048576: NARROWER than '..Said'. Prove '..Said' where nothing that the law and all that it calls make is longer than what came in: it says more and counts as full. Else prove '..UptoSaid'. A law counts once. -/
mutual
def uptoBulk {H : Type} : DataW H → Nat
  | .lit (.string bytes) => bytes.length + 1
  | .lit _ => 1
  | .nil => 1
  | .ptr d => uptoBulk d + 1
  | .slice elems spare => uptoBulkAll elems + uptoBulkAll spare + 1
  | .agg parts => uptoBulkAll parts + 1
  | .iface _ d => uptoBulk d + 1
  | .map entries => uptoBulkEntries entries + 1
  | .held _ => 1
def uptoBulkAll {H : Type} : List (DataW H) → Nat
  | [] => 0
  | d :: r => uptoBulk d + uptoBulkAll r
def uptoBulkEntries {H : Type} : List (Lit × DataW H) → Nat
  | [] => 0
  | x :: r => uptoBulkEntry x + uptoBulkEntries r
def uptoBulkEntry {H : Type} : Lit × DataW H → Nat
  | (.string bytes, d) => bytes.length + uptoBulk d + 1
  | (_, d) => uptoBulk d + 1
 end
def uptoSmall : (H : Type) → List (DataW H) → Bool := fun _ ds => decide (uptoBulkAll ds ≤ 1048576)
def OpenSpec.upto (s : _root_.Go.ChangeSpec) : _root_.Go.OpenSpec := { _root_.Go.OpenSpec.ofChange s with cond := some uptoSmall }

/-- 'laws.FnExactTypesOf', WHERE WHAT IT READS IS OF BULK AT MOST 1048576: true; the input reads as it did. -/
def fnExactTypesOfUptoRow : OpenClaim := { program := "ytoajlmlobaccdaa", sum := "b8a22b5a468a132f6472edda6d5c90ec46f98a80c449ba7f438f2344fd369353", func := "loop.example/g03104/laws.FnExactTypesOf", spec := "fnExactTypesOf", recurses := true, plainKeys := false, apart := false, narrowed := true }
def FnExactTypesOfUptoSaid : Prop := fnExactTypesOfUptoRow.holds Try.pinned (OpenSpec.upto fnExactTypesOfSpec)

/-- 'laws.FnExactTypeOf', WHERE WHAT IT READS IS OF BULK AT MOST 1048576: true; the input reads as it did. -/
def fnExactTypeOfUptoRow : OpenClaim := { program := "ytoajlmlobaccdaa", sum := "b8a22b5a468a132f6472edda6d5c90ec46f98a80c449ba7f438f2344fd369353", func := "loop.example/g03104/laws.FnExactTypeOf", spec := "fnExactTypeOf", recurses := true, plainKeys := false, apart := false, narrowed := true }
def FnExactTypeOfUptoSaid : Prop := fnExactTypeOfUptoRow.holds Try.pinned (OpenSpec.upto fnExactTypeOfSpec)

/-- 'laws.FnExactCountWays', WHERE WHAT IT READS IS OF BULK AT MOST 1048576: true; the input reads as it did. -/
def fnExactCountWaysUptoRow : OpenClaim := { program := "ytoajlmlobaccdaa", sum := "b8a22b5a468a132f6472edda6d5c90ec46f98a80c449ba7f438f2344fd369353", func := "loop.example/g03104/laws.FnExactCountWays", spec := "fnExactCountWays", unfollowed := true, recurses := true, plainKeys := false, apart := false, narrowed := true }
def FnExactCountWaysUptoSaid : Prop := fnExactCountWaysUptoRow.holds Try.pinned (OpenSpec.upto fnExactCountWaysSpec)

/-- 'laws.FnExactExtendWiring', WHERE WHAT IT READS IS OF BULK AT MOST 1048576: true; the input reads as it did. -/
def fnExactExtendWiringUptoRow : OpenClaim := { program := "ytoajlmlobaccdaa", sum := "b8a22b5a468a132f6472edda6d5c90ec46f98a80c449ba7f438f2344fd369353", func := "loop.example/g03104/laws.FnExactExtendWiring", spec := "fnExactExtendWiring", unfollowed := true, recurses := true, plainKeys := false, apart := false, narrowed := true }
def FnExactExtendWiringUptoSaid : Prop := fnExactExtendWiringUptoRow.holds Try.pinned (OpenSpec.upto fnExactExtendWiringSpec)

/-- 'laws.FnExactMutationPath', WHERE WHAT IT READS IS OF BULK AT MOST 1048576: true; the input reads as it did. -/
def fnExactMutationPathUptoRow : OpenClaim := { program := "ytoajlmlobaccdaa", sum := "b8a22b5a468a132f6472edda6d5c90ec46f98a80c449ba7f438f2344fd369353", func := "loop.example/g03104/laws.FnExactMutationPath", spec := "fnExactMutationPath", unfollowed := true, recurses := true, plainKeys := false, apart := false, narrowed := true }
def FnExactMutationPathUptoSaid : Prop := fnExactMutationPathUptoRow.holds Try.pinned (OpenSpec.upto fnExactMutationPathSpec)

/-- 'laws.FnPure', WHERE WHAT IT READS IS OF BULK AT MOST 1048576: true; the input reads as it did. -/
def fnPureUptoRow : OpenClaim := { program := "ytoajlmlobaccdaa", sum := "b8a22b5a468a132f6472edda6d5c90ec46f98a80c449ba7f438f2344fd369353", func := "loop.example/g03104/laws.FnPure", spec := "fnPure", unfollowed := true, recurses := true, plainKeys := false, apart := false, narrowed := true }
def FnPureUptoSaid : Prop := fnPureUptoRow.holds Try.pinned (OpenSpec.upto fnPureSpec)

/-- 'laws.FnMutations', WHERE WHAT IT READS IS OF BULK AT MOST 1048576: true; the input reads as it did. -/
def fnMutationsUptoRow : OpenClaim := { program := "ytoajlmlobaccdaa", sum := "b8a22b5a468a132f6472edda6d5c90ec46f98a80c449ba7f438f2344fd369353", func := "loop.example/g03104/laws.FnMutations", spec := "fnMutations", unfollowed := true, recurses := true, plainKeys := false, apart := false, narrowed := true }
def FnMutationsUptoSaid : Prop := fnMutationsUptoRow.holds Try.pinned (OpenSpec.upto fnMutationsSpec)

/-- 'laws.FnCells', WHERE WHAT IT READS IS OF BULK AT MOST 1048576: true; the input reads as it did. -/
def fnCellsUptoRow : OpenClaim := { program := "ytoajlmlobaccdaa", sum := "b8a22b5a468a132f6472edda6d5c90ec46f98a80c449ba7f438f2344fd369353", func := "loop.example/g03104/laws.FnCells", spec := "fnCells", unfollowed := true, recurses := true, plainKeys := false, apart := false, narrowed := true }
def FnCellsUptoSaid : Prop := fnCellsUptoRow.holds Try.pinned (OpenSpec.upto fnCellsSpec)

end Rows
end Go.Proofs.Ytoajlmlobaccdaa
