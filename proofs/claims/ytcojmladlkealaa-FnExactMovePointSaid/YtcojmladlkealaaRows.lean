/-
  No cell of these rows narrows 'for every input' (looked for: loops, veiled, ifaces, maps, wideKeys, modest, calm, conditions, laid).
  DERIVED. THE GIVEN ROWS OF THIS SEAT. 12 by the template 'for every input the law returns true; each argument reads behind the call as it read before'; 0 by the template 'total and deterministic' (their statements: YtcojmladlkealaaTotals.lean).
  GIVEN WITH THE SEED: the statements are not yours to turn. If you find one false, say at which input.
  Laid BY PROGRAM, IN A SANDBOX (cutbox-rows.mjs): the forced cells as the released guide's own fill.sh prints them over the translation 81a75e58d7ec0032… (all of the seat's roots in one cut). By AI agents, Wed Nov 11 2026. No macro, syntax, notation, axiom, sorry.
-/
import Derived.Test.YtcojmladlkealaaChecked
import GoSem.Claim
import GoSem.ClaimJoined
import GoSem.ClaimMapViews
import Derived.JoinedTies
import Derived.KernelRfl
namespace Go.Proofs.Ytcojmladlkealaa
/- THE CELL 'sum', in the pinned program and in every row, IS THE sha256 OF THE DUMP (.gsa) THAT YtcojmladlkealaaProg.lean LOADS. Nothing in Lean hashes anything: it is a label: what it is worth is what the hold of that sum in a sandbox is worth. -/
noncomputable def Try.pinned : Pinned := { name := "ytcojmladlkealaa", sum := "81a75e58d7ec0032f83832666fa8295204e79b3ab8c24b0ec55ac0548c3382d7", checked := Try.checked }
namespace Rows
def none {H : Type} : Left H := { results := [], args := [] }

/-- 'laws.FnExactEqualLines': WHATEVER THE INPUT: true; the input reads as it did. -/
def fnExactEqualLinesSpec : ChangeSpec := { name := "fnExactEqualLines", fn := fun _ => fun
  | [d1, d2] => { results := [.lit (.bool true)], args := [d1, d2] }
  | _ => none }
def fnExactEqualLinesRow : OpenClaim := { program := "ytcojmladlkealaa", sum := "81a75e58d7ec0032f83832666fa8295204e79b3ab8c24b0ec55ac0548c3382d7", func := "loop.example/g03104/laws.FnExactEqualLines", spec := "fnExactEqualLines", apart := false }
def FnExactEqualLinesSaid : Prop := fnExactEqualLinesRow.holds Try.pinned (OpenSpec.ofChange fnExactEqualLinesSpec)

/-- ITS FALSE NEIGHBOUR: 'it returns false'. Refute it at one input. -/
def fnExactEqualLinesWrong : ChangeSpec := { name := "fnExactEqualLines", fn := fun _ => fun
  | [d1, d2] => { results := [.lit (.bool false)], args := [d1, d2] }
  | _ => none }
def FnExactEqualLinesWrongFalsely : Prop := fnExactEqualLinesRow.holds Try.pinned (OpenSpec.ofChange fnExactEqualLinesWrong)

/-- 'laws.FnExactAreLines': WHATEVER THE INPUT: true; the input reads as it did. -/
def fnExactAreLinesSpec : ChangeSpec := { name := "fnExactAreLines", fn := fun _ => fun
  | [d] => { results := [.lit (.bool true)], args := [d] }
  | _ => none }
def fnExactAreLinesRow : OpenClaim := { program := "ytcojmladlkealaa", sum := "81a75e58d7ec0032f83832666fa8295204e79b3ab8c24b0ec55ac0548c3382d7", func := "loop.example/g03104/laws.FnExactAreLines", spec := "fnExactAreLines", unfollowed := true, recurses := true, apart := false }
def FnExactAreLinesSaid : Prop := fnExactAreLinesRow.holds Try.pinned (OpenSpec.ofChange fnExactAreLinesSpec)

/-- ITS FALSE NEIGHBOUR: 'it returns false'. Refute it at one input. -/
def fnExactAreLinesWrong : ChangeSpec := { name := "fnExactAreLines", fn := fun _ => fun
  | [d] => { results := [.lit (.bool false)], args := [d] }
  | _ => none }
def FnExactAreLinesWrongFalsely : Prop := fnExactAreLinesRow.holds Try.pinned (OpenSpec.ofChange fnExactAreLinesWrong)

/-- 'laws.FnExactAddFirst': WHATEVER THE INPUT: true; the input reads as it did. -/
def fnExactAddFirstSpec : ChangeSpec := { name := "fnExactAddFirst", fn := fun _ => fun
  | [d1, d2] => { results := [.lit (.bool true)], args := [d1, d2] }
  | _ => none }
def fnExactAddFirstRow : OpenClaim := { program := "ytcojmladlkealaa", sum := "81a75e58d7ec0032f83832666fa8295204e79b3ab8c24b0ec55ac0548c3382d7", func := "loop.example/g03104/laws.FnExactAddFirst", spec := "fnExactAddFirst", unfollowed := true, recurses := true, apart := false }
def FnExactAddFirstSaid : Prop := fnExactAddFirstRow.holds Try.pinned (OpenSpec.ofChange fnExactAddFirstSpec)

/-- ITS FALSE NEIGHBOUR: 'it returns false'. Refute it at one input. -/
def fnExactAddFirstWrong : ChangeSpec := { name := "fnExactAddFirst", fn := fun _ => fun
  | [d1, d2] => { results := [.lit (.bool false)], args := [d1, d2] }
  | _ => none }
def FnExactAddFirstWrongFalsely : Prop := fnExactAddFirstRow.holds Try.pinned (OpenSpec.ofChange fnExactAddFirstWrong)

/-- 'laws.FnExactAddLast': WHATEVER THE INPUT: true; the input reads as it did. -/
def fnExactAddLastSpec : ChangeSpec := { name := "fnExactAddLast", fn := fun _ => fun
  | [d1, d2] => { results := [.lit (.bool true)], args := [d1, d2] }
  | _ => none }
def fnExactAddLastRow : OpenClaim := { program := "ytcojmladlkealaa", sum := "81a75e58d7ec0032f83832666fa8295204e79b3ab8c24b0ec55ac0548c3382d7", func := "loop.example/g03104/laws.FnExactAddLast", spec := "fnExactAddLast", unfollowed := true, recurses := true, apart := false }
def FnExactAddLastSaid : Prop := fnExactAddLastRow.holds Try.pinned (OpenSpec.ofChange fnExactAddLastSpec)

/-- ITS FALSE NEIGHBOUR: 'it returns false'. Refute it at one input. -/
def fnExactAddLastWrong : ChangeSpec := { name := "fnExactAddLast", fn := fun _ => fun
  | [d1, d2] => { results := [.lit (.bool false)], args := [d1, d2] }
  | _ => none }
def FnExactAddLastWrongFalsely : Prop := fnExactAddLastRow.holds Try.pinned (OpenSpec.ofChange fnExactAddLastWrong)

/-- 'laws.FnExactMeetLines': WHATEVER THE INPUT: true; the input reads as it did. -/
def fnExactMeetLinesSpec : ChangeSpec := { name := "fnExactMeetLines", fn := fun _ => fun
  | [d1, d2] => { results := [.lit (.bool true)], args := [d1, d2] }
  | _ => none }
def fnExactMeetLinesRow : OpenClaim := { program := "ytcojmladlkealaa", sum := "81a75e58d7ec0032f83832666fa8295204e79b3ab8c24b0ec55ac0548c3382d7", func := "loop.example/g03104/laws.FnExactMeetLines", spec := "fnExactMeetLines", unfollowed := true, recurses := true, apart := false }
def FnExactMeetLinesSaid : Prop := fnExactMeetLinesRow.holds Try.pinned (OpenSpec.ofChange fnExactMeetLinesSpec)

/-- ITS FALSE NEIGHBOUR: 'it returns false'. Refute it at one input. -/
def fnExactMeetLinesWrong : ChangeSpec := { name := "fnExactMeetLines", fn := fun _ => fun
  | [d1, d2] => { results := [.lit (.bool false)], args := [d1, d2] }
  | _ => none }
def FnExactMeetLinesWrongFalsely : Prop := fnExactMeetLinesRow.holds Try.pinned (OpenSpec.ofChange fnExactMeetLinesWrong)

/-- 'laws.FnExactSideText': WHATEVER THE INPUT: true; the input reads as it did. -/
def fnExactSideTextSpec : ChangeSpec := { name := "fnExactSideText", fn := fun _ => fun
  | [d1, d2, d3] => { results := [.lit (.bool true)], args := [d1, d2, d3] }
  | _ => none }
def fnExactSideTextRow : OpenClaim := { program := "ytcojmladlkealaa", sum := "81a75e58d7ec0032f83832666fa8295204e79b3ab8c24b0ec55ac0548c3382d7", func := "loop.example/g03104/laws.FnExactSideText", spec := "fnExactSideText", unfollowed := true, recurses := true, apart := false }
def FnExactSideTextSaid : Prop := fnExactSideTextRow.holds Try.pinned (OpenSpec.ofChange fnExactSideTextSpec)

/-- ITS FALSE NEIGHBOUR: 'it returns false'. Refute it at one input. -/
def fnExactSideTextWrong : ChangeSpec := { name := "fnExactSideText", fn := fun _ => fun
  | [d1, d2, d3] => { results := [.lit (.bool false)], args := [d1, d2, d3] }
  | _ => none }
def FnExactSideTextWrongFalsely : Prop := fnExactSideTextRow.holds Try.pinned (OpenSpec.ofChange fnExactSideTextWrong)

/-- 'laws.FnExactCountWays': WHATEVER THE INPUT: true; the input reads as it did. -/
def fnExactCountWaysSpec : ChangeSpec := { name := "fnExactCountWays", fn := fun _ => fun
  | [d1, d2] => { results := [.lit (.bool true)], args := [d1, d2] }
  | _ => none }
def fnExactCountWaysRow : OpenClaim := { program := "ytcojmladlkealaa", sum := "81a75e58d7ec0032f83832666fa8295204e79b3ab8c24b0ec55ac0548c3382d7", func := "loop.example/g03104/laws.FnExactCountWays", spec := "fnExactCountWays", unfollowed := true, recurses := true, apart := false }
def FnExactCountWaysSaid : Prop := fnExactCountWaysRow.holds Try.pinned (OpenSpec.ofChange fnExactCountWaysSpec)

/-- ITS FALSE NEIGHBOUR: 'it returns false'. Refute it at one input. -/
def fnExactCountWaysWrong : ChangeSpec := { name := "fnExactCountWays", fn := fun _ => fun
  | [d1, d2] => { results := [.lit (.bool false)], args := [d1, d2] }
  | _ => none }
def FnExactCountWaysWrongFalsely : Prop := fnExactCountWaysRow.holds Try.pinned (OpenSpec.ofChange fnExactCountWaysWrong)

/-- 'laws.FnExactPairText': WHATEVER THE INPUT: true; the input reads as it did. -/
def fnExactPairTextSpec : ChangeSpec := { name := "fnExactPairText", fn := fun _ => fun
  | [d1, d2, d3] => { results := [.lit (.bool true)], args := [d1, d2, d3] }
  | _ => none }
def fnExactPairTextRow : OpenClaim := { program := "ytcojmladlkealaa", sum := "81a75e58d7ec0032f83832666fa8295204e79b3ab8c24b0ec55ac0548c3382d7", func := "loop.example/g03104/laws.FnExactPairText", spec := "fnExactPairText", apart := false }
def FnExactPairTextSaid : Prop := fnExactPairTextRow.holds Try.pinned (OpenSpec.ofChange fnExactPairTextSpec)

/-- ITS FALSE NEIGHBOUR: 'it returns false'. Refute it at one input. -/
def fnExactPairTextWrong : ChangeSpec := { name := "fnExactPairText", fn := fun _ => fun
  | [d1, d2, d3] => { results := [.lit (.bool false)], args := [d1, d2, d3] }
  | _ => none }
def FnExactPairTextWrongFalsely : Prop := fnExactPairTextRow.holds Try.pinned (OpenSpec.ofChange fnExactPairTextWrong)

/-- 'laws.FnExactDropWire': WHATEVER THE INPUT: true; the input reads as it did. -/
def fnExactDropWireSpec : ChangeSpec := { name := "fnExactDropWire", fn := fun _ => fun
  | [d1, d2, d3] => { results := [.lit (.bool true)], args := [d1, d2, d3] }
  | _ => none }
def fnExactDropWireRow : OpenClaim := { program := "ytcojmladlkealaa", sum := "81a75e58d7ec0032f83832666fa8295204e79b3ab8c24b0ec55ac0548c3382d7", func := "loop.example/g03104/laws.FnExactDropWire", spec := "fnExactDropWire", unfollowed := true, recurses := true, apart := false }
def FnExactDropWireSaid : Prop := fnExactDropWireRow.holds Try.pinned (OpenSpec.ofChange fnExactDropWireSpec)

/-- ITS FALSE NEIGHBOUR: 'it returns false'. Refute it at one input. -/
def fnExactDropWireWrong : ChangeSpec := { name := "fnExactDropWire", fn := fun _ => fun
  | [d1, d2, d3] => { results := [.lit (.bool false)], args := [d1, d2, d3] }
  | _ => none }
def FnExactDropWireWrongFalsely : Prop := fnExactDropWireRow.holds Try.pinned (OpenSpec.ofChange fnExactDropWireWrong)

/-- 'laws.FnExactExchangeSign': WHATEVER THE INPUT: true; the input reads as it did. -/
def fnExactExchangeSignSpec : ChangeSpec := { name := "fnExactExchangeSign", fn := fun _ => fun
  | [d1, d2, d3, d4] => { results := [.lit (.bool true)], args := [d1, d2, d3, d4] }
  | _ => none }
def fnExactExchangeSignRow : OpenClaim := { program := "ytcojmladlkealaa", sum := "81a75e58d7ec0032f83832666fa8295204e79b3ab8c24b0ec55ac0548c3382d7", func := "loop.example/g03104/laws.FnExactExchangeSign", spec := "fnExactExchangeSign", apart := false }
def FnExactExchangeSignSaid : Prop := fnExactExchangeSignRow.holds Try.pinned (OpenSpec.ofChange fnExactExchangeSignSpec)

/-- ITS FALSE NEIGHBOUR: 'it returns false'. Refute it at one input. -/
def fnExactExchangeSignWrong : ChangeSpec := { name := "fnExactExchangeSign", fn := fun _ => fun
  | [d1, d2, d3, d4] => { results := [.lit (.bool false)], args := [d1, d2, d3, d4] }
  | _ => none }
def FnExactExchangeSignWrongFalsely : Prop := fnExactExchangeSignRow.holds Try.pinned (OpenSpec.ofChange fnExactExchangeSignWrong)

/-- 'laws.FnExactMovePoint': WHATEVER THE INPUT: true; the input reads as it did. -/
def fnExactMovePointSpec : ChangeSpec := { name := "fnExactMovePoint", fn := fun _ => fun
  | [d1, d2, d3] => { results := [.lit (.bool true)], args := [d1, d2, d3] }
  | _ => none }
def fnExactMovePointRow : OpenClaim := { program := "ytcojmladlkealaa", sum := "81a75e58d7ec0032f83832666fa8295204e79b3ab8c24b0ec55ac0548c3382d7", func := "loop.example/g03104/laws.FnExactMovePoint", spec := "fnExactMovePoint", unfollowed := true, recurses := true, apart := false }
def FnExactMovePointSaid : Prop := fnExactMovePointRow.holds Try.pinned (OpenSpec.ofChange fnExactMovePointSpec)

/-- ITS FALSE NEIGHBOUR: 'it returns false'. Refute it at one input. -/
def fnExactMovePointWrong : ChangeSpec := { name := "fnExactMovePoint", fn := fun _ => fun
  | [d1, d2, d3] => { results := [.lit (.bool false)], args := [d1, d2, d3] }
  | _ => none }
def FnExactMovePointWrongFalsely : Prop := fnExactMovePointRow.holds Try.pinned (OpenSpec.ofChange fnExactMovePointWrong)

/-- 'laws.FnExactBoxOf': WHATEVER THE INPUT: true; the input reads as it did. -/
def fnExactBoxOfSpec : ChangeSpec := { name := "fnExactBoxOf", fn := fun _ => fun
  | [d] => { results := [.lit (.bool true)], args := [d] }
  | _ => none }
def fnExactBoxOfRow : OpenClaim := { program := "ytcojmladlkealaa", sum := "81a75e58d7ec0032f83832666fa8295204e79b3ab8c24b0ec55ac0548c3382d7", func := "loop.example/g03104/laws.FnExactBoxOf", spec := "fnExactBoxOf", unfollowed := true, recurses := true, apart := false }
def FnExactBoxOfSaid : Prop := fnExactBoxOfRow.holds Try.pinned (OpenSpec.ofChange fnExactBoxOfSpec)

/-- ITS FALSE NEIGHBOUR: 'it returns false'. Refute it at one input. -/
def fnExactBoxOfWrong : ChangeSpec := { name := "fnExactBoxOf", fn := fun _ => fun
  | [d] => { results := [.lit (.bool false)], args := [d] }
  | _ => none }
def FnExactBoxOfWrongFalsely : Prop := fnExactBoxOfRow.holds Try.pinned (OpenSpec.ofChange fnExactBoxOfWrong)

/- THE SECOND FORM. 'bulk': how many values and letters a reading holds, each counted each time it is reached (what is shared counts as often as it is met; a slice's spare places count too). A statement '..UptoSaid' is the law's where the arguments, and the package variables that the reading takes, are together of bulk at most 1048576: NARROWER than '..Said'. Prove '..Said' where nothing that the law and all that it calls make is longer than what came in: it says more and counts as full. Else prove '..UptoSaid'. A law counts once. -/
mutual
def uptoBulk {H : Type} : DataW H → Nat
  | .lit (.string bytes) => bytes.length + 1
  | .lit _ => 1
  | .nil => 1
  | .ptr d => uptoBulk d + 1
  | .slice elems spare => uptoBulkAll elems + uptoBulkAll spare + 1
  | .agg parts => uptoBulkAll parts + 1
  | .iface _ d => uptoBulk d + 1
  | .map entries => uptoBulkEntries entries + 1
  | .held _ => 1
def uptoBulkAll {H : Type} : List (DataW H) → Nat
  | [] => 0
  | d :: r => uptoBulk d + uptoBulkAll r
def uptoBulkEntries {H : Type} : List (Lit × DataW H) → Nat
  | [] => 0
  | x :: r => uptoBulkEntry x + uptoBulkEntries r
def uptoBulkEntry {H : Type} : Lit × DataW H → Nat
  | (.string bytes, d) => bytes.length + uptoBulk d + 1
  | (_, d) => uptoBulk d + 1
 end
def uptoSmall : (H : Type) → List (DataW H) → Bool := fun _ ds => decide (uptoBulkAll ds ≤ 1048576)
def OpenSpec.upto (s : _root_.Go.ChangeSpec) : _root_.Go.OpenSpec := { _root_.Go.OpenSpec.ofChange s with cond := some uptoSmall }

/-- 'laws.FnExactEqualLines', WHERE WHAT IT READS IS OF BULK AT MOST 1048576: true; the input reads as it did. -/
def fnExactEqualLinesUptoRow : OpenClaim := { program := "ytcojmladlkealaa", sum := "81a75e58d7ec0032f83832666fa8295204e79b3ab8c24b0ec55ac0548c3382d7", func := "loop.example/g03104/laws.FnExactEqualLines", spec := "fnExactEqualLines", apart := false, narrowed := true }
def FnExactEqualLinesUptoSaid : Prop := fnExactEqualLinesUptoRow.holds Try.pinned (OpenSpec.upto fnExactEqualLinesSpec)

/-- 'laws.FnExactAreLines', WHERE WHAT IT READS IS OF BULK AT MOST 1048576: true; the input reads as it did. -/
def fnExactAreLinesUptoRow : OpenClaim := { program := "ytcojmladlkealaa", sum := "81a75e58d7ec0032f83832666fa8295204e79b3ab8c24b0ec55ac0548c3382d7", func := "loop.example/g03104/laws.FnExactAreLines", spec := "fnExactAreLines", unfollowed := true, recurses := true, apart := false, narrowed := true }
def FnExactAreLinesUptoSaid : Prop := fnExactAreLinesUptoRow.holds Try.pinned (OpenSpec.upto fnExactAreLinesSpec)

/-- 'laws.FnExactAddFirst', WHERE WHAT IT READS IS OF BULK AT MOST 1048576: true; the input reads as it did. -/
def fnExactAddFirstUptoRow : OpenClaim := { program := "ytcojmladlkealaa", sum := "81a75e58d7ec0032f83832666fa8295204e79b3ab8c24b0ec55ac0548c3382d7", func := "loop.example/g03104/laws.FnExactAddFirst", spec := "fnExactAddFirst", unfollowed := true, recurses := true, apart := false, narrowed := true }
def FnExactAddFirstUptoSaid : Prop := fnExactAddFirstUptoRow.holds Try.pinned (OpenSpec.upto fnExactAddFirstSpec)

/-- 'laws.FnExactAddLast', WHERE WHAT IT READS IS OF BULK AT MOST 1048576: true; the input reads as it did. -/
def fnExactAddLastUptoRow : OpenClaim := { program := "ytcojmladlkealaa", sum := "81a75e58d7ec0032f83832666fa8295204e79b3ab8c24b0ec55ac0548c3382d7", func := "loop.example/g03104/laws.FnExactAddLast", spec := "fnExactAddLast", unfollowed := true, recurses := true, apart := false, narrowed := true }
def FnExactAddLastUptoSaid : Prop := fnExactAddLastUptoRow.holds Try.pinned (OpenSpec.upto fnExactAddLastSpec)

/-- 'laws.FnExactMeetLines', WHERE WHAT IT READS IS OF BULK AT MOST 1048576: true; the input reads as it did. -/
def fnExactMeetLinesUptoRow : OpenClaim := { program := "ytcojmladlkealaa", sum := "81a75e58d7ec0032f83832666fa8295204e79b3ab8c24b0ec55ac0548c3382d7", func := "loop.example/g03104/laws.FnExactMeetLines", spec := "fnExactMeetLines", unfollowed := true, recurses := true, apart := false, narrowed := true }
def FnExactMeetLinesUptoSaid : Prop := fnExactMeetLinesUptoRow.holds Try.pinned (OpenSpec.upto fnExactMeetLinesSpec)

/-- 'laws.FnExactSideText', WHERE WHAT IT READS IS OF BULK AT MOST 1048576: true; the input reads as it did. -/
def fnExactSideTextUptoRow : OpenClaim := { program := "ytcojmladlkealaa", sum := "81a75e58d7ec0032f83832666fa8295204e79b3ab8c24b0ec55ac0548c3382d7", func := "loop.example/g03104/laws.FnExactSideText", spec := "fnExactSideText", unfollowed := true, recurses := true, apart := false, narrowed := true }
def FnExactSideTextUptoSaid : Prop := fnExactSideTextUptoRow.holds Try.pinned (OpenSpec.upto fnExactSideTextSpec)

/-- 'laws.FnExactCountWays', WHERE WHAT IT READS IS OF BULK AT MOST 1048576: true; the input reads as it did. -/
def fnExactCountWaysUptoRow : OpenClaim := { program := "ytcojmladlkealaa", sum := "81a75e58d7ec0032f83832666fa8295204e79b3ab8c24b0ec55ac0548c3382d7", func := "loop.example/g03104/laws.FnExactCountWays", spec := "fnExactCountWays", unfollowed := true, recurses := true, apart := false, narrowed := true }
def FnExactCountWaysUptoSaid : Prop := fnExactCountWaysUptoRow.holds Try.pinned (OpenSpec.upto fnExactCountWaysSpec)

/-- 'laws.FnExactPairText', WHERE WHAT IT READS IS OF BULK AT MOST 1048576: true; the input reads as it did. -/
def fnExactPairTextUptoRow : OpenClaim := { program := "ytcojmladlkealaa", sum := "81a75e58d7ec0032f83832666fa8295204e79b3ab8c24b0ec55ac0548c3382d7", func := "loop.example/g03104/laws.FnExactPairText", spec := "fnExactPairText", apart := false, narrowed := true }
def FnExactPairTextUptoSaid : Prop := fnExactPairTextUptoRow.holds Try.pinned (OpenSpec.upto fnExactPairTextSpec)

/-- 'laws.FnExactDropWire', WHERE WHAT IT READS IS OF BULK AT MOST 1048576: true; the input reads as it did. -/
def fnExactDropWireUptoRow : OpenClaim := { program := "ytcojmladlkealaa", sum := "81a75e58d7ec0032f83832666fa8295204e79b3ab8c24b0ec55ac0548c3382d7", func := "loop.example/g03104/laws.FnExactDropWire", spec := "fnExactDropWire", unfollowed := true, recurses := true, apart := false, narrowed := true }
def FnExactDropWireUptoSaid : Prop := fnExactDropWireUptoRow.holds Try.pinned (OpenSpec.upto fnExactDropWireSpec)

/-- 'laws.FnExactExchangeSign', WHERE WHAT IT READS IS OF BULK AT MOST 1048576: true; the input reads as it did. -/
def fnExactExchangeSignUptoRow : OpenClaim := { program := "ytcojmladlkealaa", sum := "81a75e58d7ec0032f83832666fa8295204e79b3ab8c24b0ec55ac0548c3382d7", func := "loop.example/g03104/laws.FnExactExchangeSign", spec := "fnExactExchangeSign", apart := false, narrowed := true }
def FnExactExchangeSignUptoSaid : Prop := fnExactExchangeSignUptoRow.holds Try.pinned (OpenSpec.upto fnExactExchangeSignSpec)

/-- 'laws.FnExactMovePoint', WHERE WHAT IT READS IS OF BULK AT MOST 1048576: true; the input reads as it did. -/
def fnExactMovePointUptoRow : OpenClaim := { program := "ytcojmladlkealaa", sum := "81a75e58d7ec0032f83832666fa8295204e79b3ab8c24b0ec55ac0548c3382d7", func := "loop.example/g03104/laws.FnExactMovePoint", spec := "fnExactMovePoint", unfollowed := true, recurses := true, apart := false, narrowed := true }
def FnExactMovePointUptoSaid : Prop := fnExactMovePointUptoRow.holds Try.pinned (OpenSpec.upto fnExactMovePointSpec)

/-- 'laws.FnExactBoxOf', WHERE WHAT IT READS IS OF BULK AT MOST 1048576: true; the input reads as it did. -/
def fnExactBoxOfUptoRow : OpenClaim := { program := "ytcojmladlkealaa", sum := "81a75e58d7ec0032f83832666fa8295204e79b3ab8c24b0ec55ac0548c3382d7", func := "loop.example/g03104/laws.FnExactBoxOf", spec := "fnExactBoxOf", unfollowed := true, recurses := true, apart := false, narrowed := true }
def FnExactBoxOfUptoSaid : Prop := fnExactBoxOfUptoRow.holds Try.pinned (OpenSpec.upto fnExactBoxOfSpec)

end Rows
end Go.Proofs.Ytcojmladlkealaa
