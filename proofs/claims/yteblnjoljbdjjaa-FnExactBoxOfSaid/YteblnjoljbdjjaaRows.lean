/-
  No cell of these rows narrows 'for every input' (looked for: loops, veiled, ifaces, maps, wideKeys, modest, calm, conditions, laid).
  DERIVED. THE GIVEN ROWS OF THIS SEAT. 12 by the template 'for every input the law returns true; each argument reads behind the call as it read before'; 0 by the template 'total and deterministic' (their statements: YteblnjoljbdjjaaTotals.lean).
  GIVEN WITH THE SEED: the statements are not yours to turn. If you find one false, say at which input.
  Laid BY PROGRAM, IN A SANDBOX (cutbox-rows.mjs): the forced cells as the released guide's own fill.sh prints them over the translation db9fb2a96d2a5f26… (all of the seat's roots in one cut). By AI agents, Wed Nov 11 2026. No macro, syntax, notation, axiom, sorry.
-/
import Derived.Test.YteblnjoljbdjjaaChecked
import GoSem.Claim
import GoSem.ClaimJoined
import GoSem.ClaimMapViews
import Derived.JoinedTies
import Derived.KernelRfl
namespace Go.Proofs.Yteblnjoljbdjjaa
/- THE CELL 'sum', in the pinned program and in every row, IS THE sha256 OF THE DUMP (.gsa) THAT YteblnjoljbdjjaaProg.lean LOADS. Nothing in Lean hashes anything: it is a label: what it is worth is what the hold of that sum in a sandbox is worth. -/
noncomputable def Try.pinned : Pinned := { name := "yteblnjoljbdjjaa", sum := "db9fb2a96d2a5f26ded285a2a101a2f6e2fdb7b0f93a480a5878a4eeb90042e8", checked := Try.checked }
namespace Rows
def none {H : Type} : Left H := { results := [], args := [] }

/-- 'laws.FnExactLeastSigns': WHATEVER THE INPUT: true; the input reads as it did. -/
def fnExactLeastSignsSpec : ChangeSpec := { name := "fnExactLeastSigns", fn := fun _ => fun
  | [d] => { results := [.lit (.bool true)], args := [d] }
  | _ => none }
def fnExactLeastSignsRow : OpenClaim := { program := "yteblnjoljbdjjaa", sum := "db9fb2a96d2a5f26ded285a2a101a2f6e2fdb7b0f93a480a5878a4eeb90042e8", func := "loop.example/g03104/laws.FnExactLeastSigns", spec := "fnExactLeastSigns", apart := false }
def FnExactLeastSignsSaid : Prop := fnExactLeastSignsRow.holds Try.pinned (OpenSpec.ofChange fnExactLeastSignsSpec)

/-- ITS FALSE NEIGHBOUR: 'it returns false'. Refute it at one input. -/
def fnExactLeastSignsWrong : ChangeSpec := { name := "fnExactLeastSigns", fn := fun _ => fun
  | [d] => { results := [.lit (.bool false)], args := [d] }
  | _ => none }
def FnExactLeastSignsWrongFalsely : Prop := fnExactLeastSignsRow.holds Try.pinned (OpenSpec.ofChange fnExactLeastSignsWrong)

/-- 'laws.FnExactAreAlike': WHATEVER THE INPUT: true; the input reads as it did. -/
def fnExactAreAlikeSpec : ChangeSpec := { name := "fnExactAreAlike", fn := fun _ => fun
  | [d1, d2] => { results := [.lit (.bool true)], args := [d1, d2] }
  | _ => none }
def fnExactAreAlikeRow : OpenClaim := { program := "yteblnjoljbdjjaa", sum := "db9fb2a96d2a5f26ded285a2a101a2f6e2fdb7b0f93a480a5878a4eeb90042e8", func := "loop.example/g03104/laws.FnExactAreAlike", spec := "fnExactAreAlike", apart := false }
def FnExactAreAlikeSaid : Prop := fnExactAreAlikeRow.holds Try.pinned (OpenSpec.ofChange fnExactAreAlikeSpec)

/-- ITS FALSE NEIGHBOUR: 'it returns false'. Refute it at one input. -/
def fnExactAreAlikeWrong : ChangeSpec := { name := "fnExactAreAlike", fn := fun _ => fun
  | [d1, d2] => { results := [.lit (.bool false)], args := [d1, d2] }
  | _ => none }
def FnExactAreAlikeWrongFalsely : Prop := fnExactAreAlikeRow.holds Try.pinned (OpenSpec.ofChange fnExactAreAlikeWrong)

/-- 'laws.FnExactCountRenamed': WHATEVER THE INPUT: true; the input reads as it did. -/
def fnExactCountRenamedSpec : ChangeSpec := { name := "fnExactCountRenamed", fn := fun _ => fun
  | [d] => { results := [.lit (.bool true)], args := [d] }
  | _ => none }
def fnExactCountRenamedRow : OpenClaim := { program := "yteblnjoljbdjjaa", sum := "db9fb2a96d2a5f26ded285a2a101a2f6e2fdb7b0f93a480a5878a4eeb90042e8", func := "loop.example/g03104/laws.FnExactCountRenamed", spec := "fnExactCountRenamed", recurses := true, apart := false }
def FnExactCountRenamedSaid : Prop := fnExactCountRenamedRow.holds Try.pinned (OpenSpec.ofChange fnExactCountRenamedSpec)

/-- ITS FALSE NEIGHBOUR: 'it returns false'. Refute it at one input. -/
def fnExactCountRenamedWrong : ChangeSpec := { name := "fnExactCountRenamed", fn := fun _ => fun
  | [d] => { results := [.lit (.bool false)], args := [d] }
  | _ => none }
def FnExactCountRenamedWrongFalsely : Prop := fnExactCountRenamedRow.holds Try.pinned (OpenSpec.ofChange fnExactCountRenamedWrong)

/-- 'laws.FnExactBoxOf': WHATEVER THE INPUT: true; the input reads as it did. -/
def fnExactBoxOfSpec : ChangeSpec := { name := "fnExactBoxOf", fn := fun _ => fun
  | [d] => { results := [.lit (.bool true)], args := [d] }
  | _ => none }
def fnExactBoxOfRow : OpenClaim := { program := "yteblnjoljbdjjaa", sum := "db9fb2a96d2a5f26ded285a2a101a2f6e2fdb7b0f93a480a5878a4eeb90042e8", func := "loop.example/g03104/laws.FnExactBoxOf", spec := "fnExactBoxOf", unfollowed := true, recurses := true, apart := false }
def FnExactBoxOfSaid : Prop := fnExactBoxOfRow.holds Try.pinned (OpenSpec.ofChange fnExactBoxOfSpec)

/-- ITS FALSE NEIGHBOUR: 'it returns false'. Refute it at one input. -/
def fnExactBoxOfWrong : ChangeSpec := { name := "fnExactBoxOf", fn := fun _ => fun
  | [d] => { results := [.lit (.bool false)], args := [d] }
  | _ => none }
def FnExactBoxOfWrongFalsely : Prop := fnExactBoxOfRow.holds Try.pinned (OpenSpec.ofChange fnExactBoxOfWrong)

/-- 'laws.FnExactDeepestOf': WHATEVER THE INPUT: true; the input reads as it did. -/
def fnExactDeepestOfSpec : ChangeSpec := { name := "fnExactDeepestOf", fn := fun _ => fun
  | [d] => { results := [.lit (.bool true)], args := [d] }
  | _ => none }
def fnExactDeepestOfRow : OpenClaim := { program := "yteblnjoljbdjjaa", sum := "db9fb2a96d2a5f26ded285a2a101a2f6e2fdb7b0f93a480a5878a4eeb90042e8", func := "loop.example/g03104/laws.FnExactDeepestOf", spec := "fnExactDeepestOf", unfollowed := true, recurses := true, apart := false }
def FnExactDeepestOfSaid : Prop := fnExactDeepestOfRow.holds Try.pinned (OpenSpec.ofChange fnExactDeepestOfSpec)

/-- ITS FALSE NEIGHBOUR: 'it returns false'. Refute it at one input. -/
def fnExactDeepestOfWrong : ChangeSpec := { name := "fnExactDeepestOf", fn := fun _ => fun
  | [d] => { results := [.lit (.bool false)], args := [d] }
  | _ => none }
def FnExactDeepestOfWrongFalsely : Prop := fnExactDeepestOfRow.holds Try.pinned (OpenSpec.ofChange fnExactDeepestOfWrong)

/-- 'laws.FnExactRoundOf': WHATEVER THE INPUT: true; the input reads as it did. -/
def fnExactRoundOfSpec : ChangeSpec := { name := "fnExactRoundOf", fn := fun _ => fun
  | [d1, d2] => { results := [.lit (.bool true)], args := [d1, d2] }
  | _ => none }
def fnExactRoundOfRow : OpenClaim := { program := "yteblnjoljbdjjaa", sum := "db9fb2a96d2a5f26ded285a2a101a2f6e2fdb7b0f93a480a5878a4eeb90042e8", func := "loop.example/g03104/laws.FnExactRoundOf", spec := "fnExactRoundOf", unfollowed := true, recurses := true, apart := false }
def FnExactRoundOfSaid : Prop := fnExactRoundOfRow.holds Try.pinned (OpenSpec.ofChange fnExactRoundOfSpec)

/-- ITS FALSE NEIGHBOUR: 'it returns false'. Refute it at one input. -/
def fnExactRoundOfWrong : ChangeSpec := { name := "fnExactRoundOf", fn := fun _ => fun
  | [d1, d2] => { results := [.lit (.bool false)], args := [d1, d2] }
  | _ => none }
def FnExactRoundOfWrongFalsely : Prop := fnExactRoundOfRow.holds Try.pinned (OpenSpec.ofChange fnExactRoundOfWrong)

/-- 'laws.FnExactLinesRound': WHATEVER THE INPUT: true; the input reads as it did. -/
def fnExactLinesRoundSpec : ChangeSpec := { name := "fnExactLinesRound", fn := fun _ => fun
  | [d1, d2] => { results := [.lit (.bool true)], args := [d1, d2] }
  | _ => none }
def fnExactLinesRoundRow : OpenClaim := { program := "yteblnjoljbdjjaa", sum := "db9fb2a96d2a5f26ded285a2a101a2f6e2fdb7b0f93a480a5878a4eeb90042e8", func := "loop.example/g03104/laws.FnExactLinesRound", spec := "fnExactLinesRound", unfollowed := true, recurses := true, apart := false }
def FnExactLinesRoundSaid : Prop := fnExactLinesRoundRow.holds Try.pinned (OpenSpec.ofChange fnExactLinesRoundSpec)

/-- ITS FALSE NEIGHBOUR: 'it returns false'. Refute it at one input. -/
def fnExactLinesRoundWrong : ChangeSpec := { name := "fnExactLinesRound", fn := fun _ => fun
  | [d1, d2] => { results := [.lit (.bool false)], args := [d1, d2] }
  | _ => none }
def FnExactLinesRoundWrongFalsely : Prop := fnExactLinesRoundRow.holds Try.pinned (OpenSpec.ofChange fnExactLinesRoundWrong)

/-- 'laws.FnExactTurnsRound': WHATEVER THE INPUT: true; the input reads as it did. -/
def fnExactTurnsRoundSpec : ChangeSpec := { name := "fnExactTurnsRound", fn := fun _ => fun
  | [d1, d2] => { results := [.lit (.bool true)], args := [d1, d2] }
  | _ => none }
def fnExactTurnsRoundRow : OpenClaim := { program := "yteblnjoljbdjjaa", sum := "db9fb2a96d2a5f26ded285a2a101a2f6e2fdb7b0f93a480a5878a4eeb90042e8", func := "loop.example/g03104/laws.FnExactTurnsRound", spec := "fnExactTurnsRound", unfollowed := true, recurses := true, apart := false }
def FnExactTurnsRoundSaid : Prop := fnExactTurnsRoundRow.holds Try.pinned (OpenSpec.ofChange fnExactTurnsRoundSpec)

/-- ITS FALSE NEIGHBOUR: 'it returns false'. Refute it at one input. -/
def fnExactTurnsRoundWrong : ChangeSpec := { name := "fnExactTurnsRound", fn := fun _ => fun
  | [d1, d2] => { results := [.lit (.bool false)], args := [d1, d2] }
  | _ => none }
def FnExactTurnsRoundWrongFalsely : Prop := fnExactTurnsRoundRow.holds Try.pinned (OpenSpec.ofChange fnExactTurnsRoundWrong)

/-- 'laws.FnExactHullArea': WHATEVER THE INPUT: true; the input reads as it did. -/
def fnExactHullAreaSpec : ChangeSpec := { name := "fnExactHullArea", fn := fun _ => fun
  | [d] => { results := [.lit (.bool true)], args := [d] }
  | _ => none }
def fnExactHullAreaRow : OpenClaim := { program := "yteblnjoljbdjjaa", sum := "db9fb2a96d2a5f26ded285a2a101a2f6e2fdb7b0f93a480a5878a4eeb90042e8", func := "loop.example/g03104/laws.FnExactHullArea", spec := "fnExactHullArea", unfollowed := true, recurses := true, apart := false }
def FnExactHullAreaSaid : Prop := fnExactHullAreaRow.holds Try.pinned (OpenSpec.ofChange fnExactHullAreaSpec)

/-- ITS FALSE NEIGHBOUR: 'it returns false'. Refute it at one input. -/
def fnExactHullAreaWrong : ChangeSpec := { name := "fnExactHullArea", fn := fun _ => fun
  | [d] => { results := [.lit (.bool false)], args := [d] }
  | _ => none }
def FnExactHullAreaWrongFalsely : Prop := fnExactHullAreaRow.holds Try.pinned (OpenSpec.ofChange fnExactHullAreaWrong)

/-- 'laws.FnExactPlacePoints': WHATEVER THE INPUT: true; the input reads as it did. -/
def fnExactPlacePointsSpec : ChangeSpec := { name := "fnExactPlacePoints", fn := fun _ => fun
  | [d1, d2] => { results := [.lit (.bool true)], args := [d1, d2] }
  | _ => none }
def fnExactPlacePointsRow : OpenClaim := { program := "yteblnjoljbdjjaa", sum := "db9fb2a96d2a5f26ded285a2a101a2f6e2fdb7b0f93a480a5878a4eeb90042e8", func := "loop.example/g03104/laws.FnExactPlacePoints", spec := "fnExactPlacePoints", unfollowed := true, recurses := true, apart := false }
def FnExactPlacePointsSaid : Prop := fnExactPlacePointsRow.holds Try.pinned (OpenSpec.ofChange fnExactPlacePointsSpec)

/-- ITS FALSE NEIGHBOUR: 'it returns false'. Refute it at one input. -/
def fnExactPlacePointsWrong : ChangeSpec := { name := "fnExactPlacePoints", fn := fun _ => fun
  | [d1, d2] => { results := [.lit (.bool false)], args := [d1, d2] }
  | _ => none }
def FnExactPlacePointsWrongFalsely : Prop := fnExactPlacePointsRow.holds Try.pinned (OpenSpec.ofChange fnExactPlacePointsWrong)

/-- 'laws.FnExactLeastGrid': WHATEVER THE INPUT: true; the input reads as it did. -/
def fnExactLeastGridSpec : ChangeSpec := { name := "fnExactLeastGrid", fn := fun _ => fun
  | [d] => { results := [.lit (.bool true)], args := [d] }
  | _ => none }
def fnExactLeastGridRow : OpenClaim := { program := "yteblnjoljbdjjaa", sum := "db9fb2a96d2a5f26ded285a2a101a2f6e2fdb7b0f93a480a5878a4eeb90042e8", func := "loop.example/g03104/laws.FnExactLeastGrid", spec := "fnExactLeastGrid", unfollowed := true, recurses := true, apart := false }
def FnExactLeastGridSaid : Prop := fnExactLeastGridRow.holds Try.pinned (OpenSpec.ofChange fnExactLeastGridSpec)

/-- ITS FALSE NEIGHBOUR: 'it returns false'. Refute it at one input. -/
def fnExactLeastGridWrong : ChangeSpec := { name := "fnExactLeastGrid", fn := fun _ => fun
  | [d] => { results := [.lit (.bool false)], args := [d] }
  | _ => none }
def FnExactLeastGridWrongFalsely : Prop := fnExactLeastGridRow.holds Try.pinned (OpenSpec.ofChange fnExactLeastGridWrong)

/-- 'laws.FnExactParallelClasses': WHATEVER THE INPUT: true; the input reads as it did. -/
def fnExactParallelClassesSpec : ChangeSpec := { name := "fnExactParallelClasses", fn := fun _ => fun
  | [d] => { results := [.lit (.bool true)], args := [d] }
  | _ => none }
def fnExactParallelClassesRow : OpenClaim := { program := "yteblnjoljbdjjaa", sum := "db9fb2a96d2a5f26ded285a2a101a2f6e2fdb7b0f93a480a5878a4eeb90042e8", func := "loop.example/g03104/laws.FnExactParallelClasses", spec := "fnExactParallelClasses", unfollowed := true, recurses := true, apart := false }
def FnExactParallelClassesSaid : Prop := fnExactParallelClassesRow.holds Try.pinned (OpenSpec.ofChange fnExactParallelClassesSpec)

/-- ITS FALSE NEIGHBOUR: 'it returns false'. Refute it at one input. -/
def fnExactParallelClassesWrong : ChangeSpec := { name := "fnExactParallelClasses", fn := fun _ => fun
  | [d] => { results := [.lit (.bool false)], args := [d] }
  | _ => none }
def FnExactParallelClassesWrongFalsely : Prop := fnExactParallelClassesRow.holds Try.pinned (OpenSpec.ofChange fnExactParallelClassesWrong)

/- THE SECOND FORM. 'bulk': how many values and letters a reading holds, each counted each time it is reached (what is shared counts as often as it is met; a slice's spare places count too). A statement '..UptoSaid' is the law's where the arguments, and the package variables that the reading takes, are together of bulk at most 1048576: NARROWER than '..Said'. Prove '..Said' where nothing that the law and all that it calls make is longer than what came in: it says more and counts as full. Else prove '..UptoSaid'. A law counts once. -/
mutual
def uptoBulk {H : Type} : DataW H → Nat
  | .lit (.string bytes) => bytes.length + 1
  | .lit _ => 1
  | .nil => 1
  | .ptr d => uptoBulk d + 1
  | .slice elems spare => uptoBulkAll elems + uptoBulkAll spare + 1
  | .agg parts => uptoBulkAll parts + 1
  | .iface _ d => uptoBulk d + 1
  | .map entries => uptoBulkEntries entries + 1
  | .held _ => 1
def uptoBulkAll {H : Type} : List (DataW H) → Nat
  | [] => 0
  | d :: r => uptoBulk d + uptoBulkAll r
def uptoBulkEntries {H : Type} : List (Lit × DataW H) → Nat
  | [] => 0
  | x :: r => uptoBulkEntry x + uptoBulkEntries r
def uptoBulkEntry {H : Type} : Lit × DataW H → Nat
  | (.string bytes, d) => bytes.length + uptoBulk d + 1
  | (_, d) => uptoBulk d + 1
 end
def uptoSmall : (H : Type) → List (DataW H) → Bool := fun _ ds => decide (uptoBulkAll ds ≤ 1048576)
def OpenSpec.upto (s : _root_.Go.ChangeSpec) : _root_.Go.OpenSpec := { _root_.Go.OpenSpec.ofChange s with cond := some uptoSmall }

/-- 'laws.FnExactLeastSigns', WHERE WHAT IT READS IS OF BULK AT MOST 1048576: true; the input reads as it did. -/
def fnExactLeastSignsUptoRow : OpenClaim := { program := "yteblnjoljbdjjaa", sum := "db9fb2a96d2a5f26ded285a2a101a2f6e2fdb7b0f93a480a5878a4eeb90042e8", func := "loop.example/g03104/laws.FnExactLeastSigns", spec := "fnExactLeastSigns", apart := false, narrowed := true }
def FnExactLeastSignsUptoSaid : Prop := fnExactLeastSignsUptoRow.holds Try.pinned (OpenSpec.upto fnExactLeastSignsSpec)

/-- 'laws.FnExactAreAlike', WHERE WHAT IT READS IS OF BULK AT MOST 1048576: true; the input reads as it did. -/
def fnExactAreAlikeUptoRow : OpenClaim := { program := "yteblnjoljbdjjaa", sum := "db9fb2a96d2a5f26ded285a2a101a2f6e2fdb7b0f93a480a5878a4eeb90042e8", func := "loop.example/g03104/laws.FnExactAreAlike", spec := "fnExactAreAlike", apart := false, narrowed := true }
def FnExactAreAlikeUptoSaid : Prop := fnExactAreAlikeUptoRow.holds Try.pinned (OpenSpec.upto fnExactAreAlikeSpec)

/-- 'laws.FnExactCountRenamed', WHERE WHAT IT READS IS OF BULK AT MOST 1048576: true; the input reads as it did. -/
def fnExactCountRenamedUptoRow : OpenClaim := { program := "yteblnjoljbdjjaa", sum := "db9fb2a96d2a5f26ded285a2a101a2f6e2fdb7b0f93a480a5878a4eeb90042e8", func := "loop.example/g03104/laws.FnExactCountRenamed", spec := "fnExactCountRenamed", recurses := true, apart := false, narrowed := true }
def FnExactCountRenamedUptoSaid : Prop := fnExactCountRenamedUptoRow.holds Try.pinned (OpenSpec.upto fnExactCountRenamedSpec)

/-- 'laws.FnExactBoxOf', WHERE WHAT IT READS IS OF BULK AT MOST 1048576: true; the input reads as it did. -/
def fnExactBoxOfUptoRow : OpenClaim := { program := "yteblnjoljbdjjaa", sum := "db9fb2a96d2a5f26ded285a2a101a2f6e2fdb7b0f93a480a5878a4eeb90042e8", func := "loop.example/g03104/laws.FnExactBoxOf", spec := "fnExactBoxOf", unfollowed := true, recurses := true, apart := false, narrowed := true }
def FnExactBoxOfUptoSaid : Prop := fnExactBoxOfUptoRow.holds Try.pinned (OpenSpec.upto fnExactBoxOfSpec)

/-- 'laws.FnExactDeepestOf', WHERE WHAT IT READS IS OF BULK AT MOST 1048576: true; the input reads as it did. -/
def fnExactDeepestOfUptoRow : OpenClaim := { program := "yteblnjoljbdjjaa", sum := "db9fb2a96d2a5f26ded285a2a101a2f6e2fdb7b0f93a480a5878a4eeb90042e8", func := "loop.example/g03104/laws.FnExactDeepestOf", spec := "fnExactDeepestOf", unfollowed := true, recurses := true, apart := false, narrowed := true }
def FnExactDeepestOfUptoSaid : Prop := fnExactDeepestOfUptoRow.holds Try.pinned (OpenSpec.upto fnExactDeepestOfSpec)

/-- 'laws.FnExactRoundOf', WHERE WHAT IT READS IS OF BULK AT MOST 1048576: true; the input reads as it did. -/
def fnExactRoundOfUptoRow : OpenClaim := { program := "yteblnjoljbdjjaa", sum := "db9fb2a96d2a5f26ded285a2a101a2f6e2fdb7b0f93a480a5878a4eeb90042e8", func := "loop.example/g03104/laws.FnExactRoundOf", spec := "fnExactRoundOf", unfollowed := true, recurses := true, apart := false, narrowed := true }
def FnExactRoundOfUptoSaid : Prop := fnExactRoundOfUptoRow.holds Try.pinned (OpenSpec.upto fnExactRoundOfSpec)

/-- 'laws.FnExactLinesRound', WHERE WHAT IT READS IS OF BULK AT MOST 1048576: true; the input reads as it did. -/
def fnExactLinesRoundUptoRow : OpenClaim := { program := "yteblnjoljbdjjaa", sum := "db9fb2a96d2a5f26ded285a2a101a2f6e2fdb7b0f93a480a5878a4eeb90042e8", func := "loop.example/g03104/laws.FnExactLinesRound", spec := "fnExactLinesRound", unfollowed := true, recurses := true, apart := false, narrowed := true }
def FnExactLinesRoundUptoSaid : Prop := fnExactLinesRoundUptoRow.holds Try.pinned (OpenSpec.upto fnExactLinesRoundSpec)

/-- 'laws.FnExactTurnsRound', WHERE WHAT IT READS IS OF BULK AT MOST 1048576: true; the input reads as it did. -/
def fnExactTurnsRoundUptoRow : OpenClaim := { program := "yteblnjoljbdjjaa", sum := "db9fb2a96d2a5f26ded285a2a101a2f6e2fdb7b0f93a480a5878a4eeb90042e8", func := "loop.example/g03104/laws.FnExactTurnsRound", spec := "fnExactTurnsRound", unfollowed := true, recurses := true, apart := false, narrowed := true }
def FnExactTurnsRoundUptoSaid : Prop := fnExactTurnsRoundUptoRow.holds Try.pinned (OpenSpec.upto fnExactTurnsRoundSpec)

/-- 'laws.FnExactHullArea', WHERE WHAT IT READS IS OF BULK AT MOST 1048576: true; the input reads as it did. -/
def fnExactHullAreaUptoRow : OpenClaim := { program := "yteblnjoljbdjjaa", sum := "db9fb2a96d2a5f26ded285a2a101a2f6e2fdb7b0f93a480a5878a4eeb90042e8", func := "loop.example/g03104/laws.FnExactHullArea", spec := "fnExactHullArea", unfollowed := true, recurses := true, apart := false, narrowed := true }
def FnExactHullAreaUptoSaid : Prop := fnExactHullAreaUptoRow.holds Try.pinned (OpenSpec.upto fnExactHullAreaSpec)

/-- 'laws.FnExactPlacePoints', WHERE WHAT IT READS IS OF BULK AT MOST 1048576: true; the input reads as it did. -/
def fnExactPlacePointsUptoRow : OpenClaim := { program := "yteblnjoljbdjjaa", sum := "db9fb2a96d2a5f26ded285a2a101a2f6e2fdb7b0f93a480a5878a4eeb90042e8", func := "loop.example/g03104/laws.FnExactPlacePoints", spec := "fnExactPlacePoints", unfollowed := true, recurses := true, apart := false, narrowed := true }
def FnExactPlacePointsUptoSaid : Prop := fnExactPlacePointsUptoRow.holds Try.pinned (OpenSpec.upto fnExactPlacePointsSpec)

/-- 'laws.FnExactLeastGrid', WHERE WHAT IT READS IS OF BULK AT MOST 1048576: true; the input reads as it did. -/
def fnExactLeastGridUptoRow : OpenClaim := { program := "yteblnjoljbdjjaa", sum := "db9fb2a96d2a5f26ded285a2a101a2f6e2fdb7b0f93a480a5878a4eeb90042e8", func := "loop.example/g03104/laws.FnExactLeastGrid", spec := "fnExactLeastGrid", unfollowed := true, recurses := true, apart := false, narrowed := true }
def FnExactLeastGridUptoSaid : Prop := fnExactLeastGridUptoRow.holds Try.pinned (OpenSpec.upto fnExactLeastGridSpec)

/-- 'laws.FnExactParallelClasses', WHERE WHAT IT READS IS OF BULK AT MOST 1048576: true; the input reads as it did. -/
def fnExactParallelClassesUptoRow : OpenClaim := { program := "yteblnjoljbdjjaa", sum := "db9fb2a96d2a5f26ded285a2a101a2f6e2fdb7b0f93a480a5878a4eeb90042e8", func := "loop.example/g03104/laws.FnExactParallelClasses", spec := "fnExactParallelClasses", unfollowed := true, recurses := true, apart := false, narrowed := true }
def FnExactParallelClassesUptoSaid : Prop := fnExactParallelClassesUptoRow.holds Try.pinned (OpenSpec.upto fnExactParallelClassesSpec)

end Rows
end Go.Proofs.Yteblnjoljbdjjaa
