/-
  No cell of these rows narrows 'for every input' (looked for: loops, veiled, ifaces, maps, wideKeys, modest, calm, conditions, laid).
  DERIVED. THE GIVEN ROWS OF THIS SEAT. 12 by the template 'for every input the law returns true; each argument reads behind the call as it read before'; 0 by the template 'total and deterministic' (their statements: YtbglgapndefcfaaTotals.lean).
  GIVEN WITH THE SEED: the statements are not yours to turn. If you find one false, say at which input.
  Laid BY PROGRAM, IN A SANDBOX (cutbox-rows.mjs): the forced cells as the released guide's own fill.sh prints them over the translation 9184247952073cdd… (all of the seat's roots in one cut). By AI agents, Wed Nov 11 2026. No macro, syntax, notation, axiom, sorry.
-/
import Derived.Test.YtbglgapndefcfaaChecked
import GoSem.Claim
import GoSem.ClaimJoined
import GoSem.ClaimMapViews
import Derived.JoinedTies
import Derived.KernelRfl
namespace Go.Proofs.Ytbglgapndefcfaa
/- THE CELL 'sum', in the pinned program and in every row, IS THE sha256 OF THE DUMP (.gsa) THAT YtbglgapndefcfaaProg.lean LOADS. Nothing in Lean hashes anything: it is a label: what it is worth is what the hold of that sum in a sandbox is worth. -/
noncomputable def Try.pinned : Pinned := { name := "ytbglgapndefcfaa", sum := "9184247952073cdd4308e10523e710cfb110d80ddfd086b537fc4da945f83e5d", checked := Try.checked }
namespace Rows
def none {H : Type} : Left H := { results := [], args := [] }

/-- 'laws.FnExactCountOpposite': WHATEVER THE INPUT: true; the input reads as it did. -/
def fnExactCountOppositeSpec : ChangeSpec := { name := "fnExactCountOpposite", fn := fun _ => fun
  | [d] => { results := [.lit (.bool true)], args := [d] }
  | _ => none }
def fnExactCountOppositeRow : OpenClaim := { program := "ytbglgapndefcfaa", sum := "9184247952073cdd4308e10523e710cfb110d80ddfd086b537fc4da945f83e5d", func := "loop.example/g03104/laws.FnExactCountOpposite", spec := "fnExactCountOpposite", apart := false }
def FnExactCountOppositeSaid : Prop := fnExactCountOppositeRow.holds Try.pinned (OpenSpec.ofChange fnExactCountOppositeSpec)

/-- ITS FALSE NEIGHBOUR: 'it returns false'. Refute it at one input. -/
def fnExactCountOppositeWrong : ChangeSpec := { name := "fnExactCountOpposite", fn := fun _ => fun
  | [d] => { results := [.lit (.bool false)], args := [d] }
  | _ => none }
def FnExactCountOppositeWrongFalsely : Prop := fnExactCountOppositeRow.holds Try.pinned (OpenSpec.ofChange fnExactCountOppositeWrong)

/-- 'laws.FnExactSymmetriesOf': WHATEVER THE INPUT: true; the input reads as it did. -/
def fnExactSymmetriesOfSpec : ChangeSpec := { name := "fnExactSymmetriesOf", fn := fun _ => fun
  | [d] => { results := [.lit (.bool true)], args := [d] }
  | _ => none }
def fnExactSymmetriesOfRow : OpenClaim := { program := "ytbglgapndefcfaa", sum := "9184247952073cdd4308e10523e710cfb110d80ddfd086b537fc4da945f83e5d", func := "loop.example/g03104/laws.FnExactSymmetriesOf", spec := "fnExactSymmetriesOf", apart := false }
def FnExactSymmetriesOfSaid : Prop := fnExactSymmetriesOfRow.holds Try.pinned (OpenSpec.ofChange fnExactSymmetriesOfSpec)

/-- ITS FALSE NEIGHBOUR: 'it returns false'. Refute it at one input. -/
def fnExactSymmetriesOfWrong : ChangeSpec := { name := "fnExactSymmetriesOf", fn := fun _ => fun
  | [d] => { results := [.lit (.bool false)], args := [d] }
  | _ => none }
def FnExactSymmetriesOfWrongFalsely : Prop := fnExactSymmetriesOfRow.holds Try.pinned (OpenSpec.ofChange fnExactSymmetriesOfWrong)

/-- 'laws.FnExactAreAlike': WHATEVER THE INPUT: true; the input reads as it did. -/
def fnExactAreAlikeSpec : ChangeSpec := { name := "fnExactAreAlike", fn := fun _ => fun
  | [d1, d2] => { results := [.lit (.bool true)], args := [d1, d2] }
  | _ => none }
def fnExactAreAlikeRow : OpenClaim := { program := "ytbglgapndefcfaa", sum := "9184247952073cdd4308e10523e710cfb110d80ddfd086b537fc4da945f83e5d", func := "loop.example/g03104/laws.FnExactAreAlike", spec := "fnExactAreAlike", apart := false }
def FnExactAreAlikeSaid : Prop := fnExactAreAlikeRow.holds Try.pinned (OpenSpec.ofChange fnExactAreAlikeSpec)

/-- ITS FALSE NEIGHBOUR: 'it returns false'. Refute it at one input. -/
def fnExactAreAlikeWrong : ChangeSpec := { name := "fnExactAreAlike", fn := fun _ => fun
  | [d1, d2] => { results := [.lit (.bool false)], args := [d1, d2] }
  | _ => none }
def FnExactAreAlikeWrongFalsely : Prop := fnExactAreAlikeRow.holds Try.pinned (OpenSpec.ofChange fnExactAreAlikeWrong)

/-- 'laws.FnExactLeastSigns': WHATEVER THE INPUT: true; the input reads as it did. -/
def fnExactLeastSignsSpec : ChangeSpec := { name := "fnExactLeastSigns", fn := fun _ => fun
  | [d] => { results := [.lit (.bool true)], args := [d] }
  | _ => none }
def fnExactLeastSignsRow : OpenClaim := { program := "ytbglgapndefcfaa", sum := "9184247952073cdd4308e10523e710cfb110d80ddfd086b537fc4da945f83e5d", func := "loop.example/g03104/laws.FnExactLeastSigns", spec := "fnExactLeastSigns", apart := false }
def FnExactLeastSignsSaid : Prop := fnExactLeastSignsRow.holds Try.pinned (OpenSpec.ofChange fnExactLeastSignsSpec)

/-- ITS FALSE NEIGHBOUR: 'it returns false'. Refute it at one input. -/
def fnExactLeastSignsWrong : ChangeSpec := { name := "fnExactLeastSigns", fn := fun _ => fun
  | [d] => { results := [.lit (.bool false)], args := [d] }
  | _ => none }
def FnExactLeastSignsWrongFalsely : Prop := fnExactLeastSignsRow.holds Try.pinned (OpenSpec.ofChange fnExactLeastSignsWrong)

/-- 'laws.FnExactSignRow': WHATEVER THE INPUT: true; the input reads as it did. -/
def fnExactSignRowSpec : ChangeSpec := { name := "fnExactSignRow", fn := fun _ => fun
  | [d] => { results := [.lit (.bool true)], args := [d] }
  | _ => none }
def fnExactSignRowRow : OpenClaim := { program := "ytbglgapndefcfaa", sum := "9184247952073cdd4308e10523e710cfb110d80ddfd086b537fc4da945f83e5d", func := "loop.example/g03104/laws.FnExactSignRow", spec := "fnExactSignRow", unfollowed := true, recurses := true, apart := false }
def FnExactSignRowSaid : Prop := fnExactSignRowRow.holds Try.pinned (OpenSpec.ofChange fnExactSignRowSpec)

/-- ITS FALSE NEIGHBOUR: 'it returns false'. Refute it at one input. -/
def fnExactSignRowWrong : ChangeSpec := { name := "fnExactSignRow", fn := fun _ => fun
  | [d] => { results := [.lit (.bool false)], args := [d] }
  | _ => none }
def FnExactSignRowWrongFalsely : Prop := fnExactSignRowRow.holds Try.pinned (OpenSpec.ofChange fnExactSignRowWrong)

/-- 'laws.FnExactHalvesBoth': WHATEVER THE INPUT: true; the input reads as it did. -/
def fnExactHalvesBothSpec : ChangeSpec := { name := "fnExactHalvesBoth", fn := fun _ => fun
  | [d1, d2, d3, d4, d5] => { results := [.lit (.bool true)], args := [d1, d2, d3, d4, d5] }
  | _ => none }
def fnExactHalvesBothRow : OpenClaim := { program := "ytbglgapndefcfaa", sum := "9184247952073cdd4308e10523e710cfb110d80ddfd086b537fc4da945f83e5d", func := "loop.example/g03104/laws.FnExactHalvesBoth", spec := "fnExactHalvesBoth", apart := false }
def FnExactHalvesBothSaid : Prop := fnExactHalvesBothRow.holds Try.pinned (OpenSpec.ofChange fnExactHalvesBothSpec)

/-- ITS FALSE NEIGHBOUR: 'it returns false'. Refute it at one input. -/
def fnExactHalvesBothWrong : ChangeSpec := { name := "fnExactHalvesBoth", fn := fun _ => fun
  | [d1, d2, d3, d4, d5] => { results := [.lit (.bool false)], args := [d1, d2, d3, d4, d5] }
  | _ => none }
def FnExactHalvesBothWrongFalsely : Prop := fnExactHalvesBothRow.holds Try.pinned (OpenSpec.ofChange fnExactHalvesBothWrong)

/-- 'laws.FnExactDeepestOf': WHATEVER THE INPUT: true; the input reads as it did. -/
def fnExactDeepestOfSpec : ChangeSpec := { name := "fnExactDeepestOf", fn := fun _ => fun
  | [d] => { results := [.lit (.bool true)], args := [d] }
  | _ => none }
def fnExactDeepestOfRow : OpenClaim := { program := "ytbglgapndefcfaa", sum := "9184247952073cdd4308e10523e710cfb110d80ddfd086b537fc4da945f83e5d", func := "loop.example/g03104/laws.FnExactDeepestOf", spec := "fnExactDeepestOf", unfollowed := true, recurses := true, apart := false }
def FnExactDeepestOfSaid : Prop := fnExactDeepestOfRow.holds Try.pinned (OpenSpec.ofChange fnExactDeepestOfSpec)

/-- ITS FALSE NEIGHBOUR: 'it returns false'. Refute it at one input. -/
def fnExactDeepestOfWrong : ChangeSpec := { name := "fnExactDeepestOf", fn := fun _ => fun
  | [d] => { results := [.lit (.bool false)], args := [d] }
  | _ => none }
def FnExactDeepestOfWrongFalsely : Prop := fnExactDeepestOfRow.holds Try.pinned (OpenSpec.ofChange fnExactDeepestOfWrong)

/-- 'laws.FnExactSplitsInto': WHATEVER THE INPUT: true; the input reads as it did. -/
def fnExactSplitsIntoSpec : ChangeSpec := { name := "fnExactSplitsInto", fn := fun _ => fun
  | [d1, d2] => { results := [.lit (.bool true)], args := [d1, d2] }
  | _ => none }
def fnExactSplitsIntoRow : OpenClaim := { program := "ytbglgapndefcfaa", sum := "9184247952073cdd4308e10523e710cfb110d80ddfd086b537fc4da945f83e5d", func := "loop.example/g03104/laws.FnExactSplitsInto", spec := "fnExactSplitsInto", apart := false }
def FnExactSplitsIntoSaid : Prop := fnExactSplitsIntoRow.holds Try.pinned (OpenSpec.ofChange fnExactSplitsIntoSpec)

/-- ITS FALSE NEIGHBOUR: 'it returns false'. Refute it at one input. -/
def fnExactSplitsIntoWrong : ChangeSpec := { name := "fnExactSplitsInto", fn := fun _ => fun
  | [d1, d2] => { results := [.lit (.bool false)], args := [d1, d2] }
  | _ => none }
def FnExactSplitsIntoWrongFalsely : Prop := fnExactSplitsIntoRow.holds Try.pinned (OpenSpec.ofChange fnExactSplitsIntoWrong)

/-- 'laws.FnExactSeesAll': WHATEVER THE INPUT: true; the input reads as it did. -/
def fnExactSeesAllSpec : ChangeSpec := { name := "fnExactSeesAll", fn := fun _ => fun
  | [d1, d2, d3] => { results := [.lit (.bool true)], args := [d1, d2, d3] }
  | _ => none }
def fnExactSeesAllRow : OpenClaim := { program := "ytbglgapndefcfaa", sum := "9184247952073cdd4308e10523e710cfb110d80ddfd086b537fc4da945f83e5d", func := "loop.example/g03104/laws.FnExactSeesAll", spec := "fnExactSeesAll", apart := false }
def FnExactSeesAllSaid : Prop := fnExactSeesAllRow.holds Try.pinned (OpenSpec.ofChange fnExactSeesAllSpec)

/-- ITS FALSE NEIGHBOUR: 'it returns false'. Refute it at one input. -/
def fnExactSeesAllWrong : ChangeSpec := { name := "fnExactSeesAll", fn := fun _ => fun
  | [d1, d2, d3] => { results := [.lit (.bool false)], args := [d1, d2, d3] }
  | _ => none }
def FnExactSeesAllWrongFalsely : Prop := fnExactSeesAllRow.holds Try.pinned (OpenSpec.ofChange fnExactSeesAllWrong)

/-- 'laws.FnExactCommonParts': WHATEVER THE INPUT: true; the input reads as it did. -/
def fnExactCommonPartsSpec : ChangeSpec := { name := "fnExactCommonParts", fn := fun _ => fun
  | [d1, d2, d3] => { results := [.lit (.bool true)], args := [d1, d2, d3] }
  | _ => none }
def fnExactCommonPartsRow : OpenClaim := { program := "ytbglgapndefcfaa", sum := "9184247952073cdd4308e10523e710cfb110d80ddfd086b537fc4da945f83e5d", func := "loop.example/g03104/laws.FnExactCommonParts", spec := "fnExactCommonParts", apart := false }
def FnExactCommonPartsSaid : Prop := fnExactCommonPartsRow.holds Try.pinned (OpenSpec.ofChange fnExactCommonPartsSpec)

/-- ITS FALSE NEIGHBOUR: 'it returns false'. Refute it at one input. -/
def fnExactCommonPartsWrong : ChangeSpec := { name := "fnExactCommonParts", fn := fun _ => fun
  | [d1, d2, d3] => { results := [.lit (.bool false)], args := [d1, d2, d3] }
  | _ => none }
def FnExactCommonPartsWrongFalsely : Prop := fnExactCommonPartsRow.holds Try.pinned (OpenSpec.ofChange fnExactCommonPartsWrong)

/-- 'laws.FnExactPartingOf': WHATEVER THE INPUT: true; the input reads as it did. -/
def fnExactPartingOfSpec : ChangeSpec := { name := "fnExactPartingOf", fn := fun _ => fun
  | [d] => { results := [.lit (.bool true)], args := [d] }
  | _ => none }
def fnExactPartingOfRow : OpenClaim := { program := "ytbglgapndefcfaa", sum := "9184247952073cdd4308e10523e710cfb110d80ddfd086b537fc4da945f83e5d", func := "loop.example/g03104/laws.FnExactPartingOf", spec := "fnExactPartingOf", apart := false }
def FnExactPartingOfSaid : Prop := fnExactPartingOfRow.holds Try.pinned (OpenSpec.ofChange fnExactPartingOfSpec)

/-- ITS FALSE NEIGHBOUR: 'it returns false'. Refute it at one input. -/
def fnExactPartingOfWrong : ChangeSpec := { name := "fnExactPartingOf", fn := fun _ => fun
  | [d] => { results := [.lit (.bool false)], args := [d] }
  | _ => none }
def FnExactPartingOfWrongFalsely : Prop := fnExactPartingOfRow.holds Try.pinned (OpenSpec.ofChange fnExactPartingOfWrong)

/-- 'laws.FnExactTurnsRound': WHATEVER THE INPUT: true; the input reads as it did. -/
def fnExactTurnsRoundSpec : ChangeSpec := { name := "fnExactTurnsRound", fn := fun _ => fun
  | [d1, d2] => { results := [.lit (.bool true)], args := [d1, d2] }
  | _ => none }
def fnExactTurnsRoundRow : OpenClaim := { program := "ytbglgapndefcfaa", sum := "9184247952073cdd4308e10523e710cfb110d80ddfd086b537fc4da945f83e5d", func := "loop.example/g03104/laws.FnExactTurnsRound", spec := "fnExactTurnsRound", unfollowed := true, recurses := true, apart := false }
def FnExactTurnsRoundSaid : Prop := fnExactTurnsRoundRow.holds Try.pinned (OpenSpec.ofChange fnExactTurnsRoundSpec)

/-- ITS FALSE NEIGHBOUR: 'it returns false'. Refute it at one input. -/
def fnExactTurnsRoundWrong : ChangeSpec := { name := "fnExactTurnsRound", fn := fun _ => fun
  | [d1, d2] => { results := [.lit (.bool false)], args := [d1, d2] }
  | _ => none }
def FnExactTurnsRoundWrongFalsely : Prop := fnExactTurnsRoundRow.holds Try.pinned (OpenSpec.ofChange fnExactTurnsRoundWrong)

/- THE SECOND FORM. 'bulk': how many values and letters a reading holds, each counted each time it is reached (what is shared counts as often as it is met; a slice's spare places count too). A statement '..UptoSaid' is the law's where the arguments, and the package variables that the reading takes, are together of bulk at most 1048576: NARROWER than '..Said'. Prove '..Said' where nothing that the law and all that it calls make is longer than what came in: it says more and counts as full. Else prove '..UptoSaid'. A law counts once. -/
mutual
def uptoBulk {H : Type} : DataW H → Nat
  | .lit (.string bytes) => bytes.length + 1
  | .lit _ => 1
  | .nil => 1
  | .ptr d => uptoBulk d + 1
  | .slice elems spare => uptoBulkAll elems + uptoBulkAll spare + 1
  | .agg parts => uptoBulkAll parts + 1
  | .iface _ d => uptoBulk d + 1
  | .map entries => uptoBulkEntries entries + 1
  | .held _ => 1
def uptoBulkAll {H : Type} : List (DataW H) → Nat
  | [] => 0
  | d :: r => uptoBulk d + uptoBulkAll r
def uptoBulkEntries {H : Type} : List (Lit × DataW H) → Nat
  | [] => 0
  | x :: r => uptoBulkEntry x + uptoBulkEntries r
def uptoBulkEntry {H : Type} : Lit × DataW H → Nat
  | (.string bytes, d) => bytes.length + uptoBulk d + 1
  | (_, d) => uptoBulk d + 1
 end
def uptoSmall : (H : Type) → List (DataW H) → Bool := fun _ ds => decide (uptoBulkAll ds ≤ 1048576)
def OpenSpec.upto (s : _root_.Go.ChangeSpec) : _root_.Go.OpenSpec := { _root_.Go.OpenSpec.ofChange s with cond := some uptoSmall }

/-- 'laws.FnExactCountOpposite', WHERE WHAT IT READS IS OF BULK AT MOST 1048576: true; the input reads as it did. -/
def fnExactCountOppositeUptoRow : OpenClaim := { program := "ytbglgapndefcfaa", sum := "9184247952073cdd4308e10523e710cfb110d80ddfd086b537fc4da945f83e5d", func := "loop.example/g03104/laws.FnExactCountOpposite", spec := "fnExactCountOpposite", apart := false, narrowed := true }
def FnExactCountOppositeUptoSaid : Prop := fnExactCountOppositeUptoRow.holds Try.pinned (OpenSpec.upto fnExactCountOppositeSpec)

/-- 'laws.FnExactSymmetriesOf', WHERE WHAT IT READS IS OF BULK AT MOST 1048576: true; the input reads as it did. -/
def fnExactSymmetriesOfUptoRow : OpenClaim := { program := "ytbglgapndefcfaa", sum := "9184247952073cdd4308e10523e710cfb110d80ddfd086b537fc4da945f83e5d", func := "loop.example/g03104/laws.FnExactSymmetriesOf", spec := "fnExactSymmetriesOf", apart := false, narrowed := true }
def FnExactSymmetriesOfUptoSaid : Prop := fnExactSymmetriesOfUptoRow.holds Try.pinned (OpenSpec.upto fnExactSymmetriesOfSpec)

/-- 'laws.FnExactAreAlike', WHERE WHAT IT READS IS OF BULK AT MOST 1048576: true; the input reads as it did. -/
def fnExactAreAlikeUptoRow : OpenClaim := { program := "ytbglgapndefcfaa", sum := "9184247952073cdd4308e10523e710cfb110d80ddfd086b537fc4da945f83e5d", func := "loop.example/g03104/laws.FnExactAreAlike", spec := "fnExactAreAlike", apart := false, narrowed := true }
def FnExactAreAlikeUptoSaid : Prop := fnExactAreAlikeUptoRow.holds Try.pinned (OpenSpec.upto fnExactAreAlikeSpec)

/-- 'laws.FnExactLeastSigns', WHERE WHAT IT READS IS OF BULK AT MOST 1048576: true; the input reads as it did. -/
def fnExactLeastSignsUptoRow : OpenClaim := { program := "ytbglgapndefcfaa", sum := "9184247952073cdd4308e10523e710cfb110d80ddfd086b537fc4da945f83e5d", func := "loop.example/g03104/laws.FnExactLeastSigns", spec := "fnExactLeastSigns", apart := false, narrowed := true }
def FnExactLeastSignsUptoSaid : Prop := fnExactLeastSignsUptoRow.holds Try.pinned (OpenSpec.upto fnExactLeastSignsSpec)

/-- 'laws.FnExactSignRow', WHERE WHAT IT READS IS OF BULK AT MOST 1048576: true; the input reads as it did. -/
def fnExactSignRowUptoRow : OpenClaim := { program := "ytbglgapndefcfaa", sum := "9184247952073cdd4308e10523e710cfb110d80ddfd086b537fc4da945f83e5d", func := "loop.example/g03104/laws.FnExactSignRow", spec := "fnExactSignRow", unfollowed := true, recurses := true, apart := false, narrowed := true }
def FnExactSignRowUptoSaid : Prop := fnExactSignRowUptoRow.holds Try.pinned (OpenSpec.upto fnExactSignRowSpec)

/-- 'laws.FnExactHalvesBoth', WHERE WHAT IT READS IS OF BULK AT MOST 1048576: true; the input reads as it did. -/
def fnExactHalvesBothUptoRow : OpenClaim := { program := "ytbglgapndefcfaa", sum := "9184247952073cdd4308e10523e710cfb110d80ddfd086b537fc4da945f83e5d", func := "loop.example/g03104/laws.FnExactHalvesBoth", spec := "fnExactHalvesBoth", apart := false, narrowed := true }
def FnExactHalvesBothUptoSaid : Prop := fnExactHalvesBothUptoRow.holds Try.pinned (OpenSpec.upto fnExactHalvesBothSpec)

/-- 'laws.FnExactDeepestOf', WHERE WHAT IT READS IS OF BULK AT MOST 1048576: true; the input reads as it did. -/
def fnExactDeepestOfUptoRow : OpenClaim := { program := "ytbglgapndefcfaa", sum := "9184247952073cdd4308e10523e710cfb110d80ddfd086b537fc4da945f83e5d", func := "loop.example/g03104/laws.FnExactDeepestOf", spec := "fnExactDeepestOf", unfollowed := true, recurses := true, apart := false, narrowed := true }
def FnExactDeepestOfUptoSaid : Prop := fnExactDeepestOfUptoRow.holds Try.pinned (OpenSpec.upto fnExactDeepestOfSpec)

/-- 'laws.FnExactSplitsInto', WHERE WHAT IT READS IS OF BULK AT MOST 1048576: true; the input reads as it did. -/
def fnExactSplitsIntoUptoRow : OpenClaim := { program := "ytbglgapndefcfaa", sum := "9184247952073cdd4308e10523e710cfb110d80ddfd086b537fc4da945f83e5d", func := "loop.example/g03104/laws.FnExactSplitsInto", spec := "fnExactSplitsInto", apart := false, narrowed := true }
def FnExactSplitsIntoUptoSaid : Prop := fnExactSplitsIntoUptoRow.holds Try.pinned (OpenSpec.upto fnExactSplitsIntoSpec)

/-- 'laws.FnExactSeesAll', WHERE WHAT IT READS IS OF BULK AT MOST 1048576: true; the input reads as it did. -/
def fnExactSeesAllUptoRow : OpenClaim := { program := "ytbglgapndefcfaa", sum := "9184247952073cdd4308e10523e710cfb110d80ddfd086b537fc4da945f83e5d", func := "loop.example/g03104/laws.FnExactSeesAll", spec := "fnExactSeesAll", apart := false, narrowed := true }
def FnExactSeesAllUptoSaid : Prop := fnExactSeesAllUptoRow.holds Try.pinned (OpenSpec.upto fnExactSeesAllSpec)

/-- 'laws.FnExactCommonParts', WHERE WHAT IT READS IS OF BULK AT MOST 1048576: true; the input reads as it did. -/
def fnExactCommonPartsUptoRow : OpenClaim := { program := "ytbglgapndefcfaa", sum := "9184247952073cdd4308e10523e710cfb110d80ddfd086b537fc4da945f83e5d", func := "loop.example/g03104/laws.FnExactCommonParts", spec := "fnExactCommonParts", apart := false, narrowed := true }
def FnExactCommonPartsUptoSaid : Prop := fnExactCommonPartsUptoRow.holds Try.pinned (OpenSpec.upto fnExactCommonPartsSpec)

/-- 'laws.FnExactPartingOf', WHERE WHAT IT READS IS OF BULK AT MOST 1048576: true; the input reads as it did. -/
def fnExactPartingOfUptoRow : OpenClaim := { program := "ytbglgapndefcfaa", sum := "9184247952073cdd4308e10523e710cfb110d80ddfd086b537fc4da945f83e5d", func := "loop.example/g03104/laws.FnExactPartingOf", spec := "fnExactPartingOf", apart := false, narrowed := true }
def FnExactPartingOfUptoSaid : Prop := fnExactPartingOfUptoRow.holds Try.pinned (OpenSpec.upto fnExactPartingOfSpec)

/-- 'laws.FnExactTurnsRound', WHERE WHAT IT READS IS OF BULK AT MOST 1048576: true; the input reads as it did. -/
def fnExactTurnsRoundUptoRow : OpenClaim := { program := "ytbglgapndefcfaa", sum := "9184247952073cdd4308e10523e710cfb110d80ddfd086b537fc4da945f83e5d", func := "loop.example/g03104/laws.FnExactTurnsRound", spec := "fnExactTurnsRound", unfollowed := true, recurses := true, apart := false, narrowed := true }
def FnExactTurnsRoundUptoSaid : Prop := fnExactTurnsRoundUptoRow.holds Try.pinned (OpenSpec.upto fnExactTurnsRoundSpec)

end Rows
end Go.Proofs.Ytbglgapndefcfaa
