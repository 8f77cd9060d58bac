/-
  No cell of these rows narrows 'for every input' (looked for: loops, veiled, ifaces, maps, wideKeys, modest, calm, conditions, laid).
  DERIVED. THE GIVEN ROWS OF THIS SEAT. 5 by the template 'for every input the law returns true; each argument reads behind the call as it read before'; 0 by the template 'total and deterministic' (their statements: YtdkpiahpmgcmdaaTotals.lean).
  GIVEN WITH THE SEED: the statements are not yours to turn. If you find one false, say at which input.
  Laid BY PROGRAM, IN A SANDBOX (cutbox-rows.mjs): the forced cells as the released guide's own fill.sh prints them over the translation 37465f08177bf264… (all of the seat's roots in one cut). By AI agents, Wed Nov 11 2026. No macro, syntax, notation, axiom, sorry.
-/
import Derived.Test.YtdkpiahpmgcmdaaChecked
import GoSem.Claim
import GoSem.ClaimJoined
import GoSem.ClaimMapViews
import Derived.JoinedTies
import Derived.KernelRfl
namespace Go.Proofs.Ytdkpiahpmgcmdaa
/- THE CELL 'sum', in the pinned program and in every row, IS THE sha256 OF THE DUMP (.gsa) THAT YtdkpiahpmgcmdaaProg.lean LOADS. Nothing in Lean hashes anything: it is a label: what it is worth is what the hold of that sum in a sandbox is worth. -/
noncomputable def Try.pinned : Pinned := { name := "ytdkpiahpmgcmdaa", sum := "37465f08177bf26486606728ee2134793c44d23fdfd6ef7ccd9b6b64e23486ee", checked := Try.checked }
namespace Rows
def none {H : Type} : Left H := { results := [], args := [] }

/-- 'laws.FnExactPlacePoints': WHATEVER THE INPUT: true; the input reads as it did. -/
def fnExactPlacePointsSpec : ChangeSpec := { name := "fnExactPlacePoints", fn := fun _ => fun
  | [d1, d2] => { results := [.lit (.bool true)], args := [d1, d2] }
  | _ => none }
def fnExactPlacePointsRow : OpenClaim := { program := "ytdkpiahpmgcmdaa", sum := "37465f08177bf26486606728ee2134793c44d23fdfd6ef7ccd9b6b64e23486ee", func := "loop.example/g03104/laws.FnExactPlacePoints", spec := "fnExactPlacePoints", unfollowed := true, recurses := true, apart := false }
def FnExactPlacePointsSaid : Prop := fnExactPlacePointsRow.holds Try.pinned (OpenSpec.ofChange fnExactPlacePointsSpec)

/-- ITS FALSE NEIGHBOUR: 'it returns false'. Refute it at one input. -/
def fnExactPlacePointsWrong : ChangeSpec := { name := "fnExactPlacePoints", fn := fun _ => fun
  | [d1, d2] => { results := [.lit (.bool false)], args := [d1, d2] }
  | _ => none }
def FnExactPlacePointsWrongFalsely : Prop := fnExactPlacePointsRow.holds Try.pinned (OpenSpec.ofChange fnExactPlacePointsWrong)

/-- 'laws.FnExactLeastGrid': WHATEVER THE INPUT: true; the input reads as it did. -/
def fnExactLeastGridSpec : ChangeSpec := { name := "fnExactLeastGrid", fn := fun _ => fun
  | [d] => { results := [.lit (.bool true)], args := [d] }
  | _ => none }
def fnExactLeastGridRow : OpenClaim := { program := "ytdkpiahpmgcmdaa", sum := "37465f08177bf26486606728ee2134793c44d23fdfd6ef7ccd9b6b64e23486ee", func := "loop.example/g03104/laws.FnExactLeastGrid", spec := "fnExactLeastGrid", unfollowed := true, recurses := true, apart := false }
def FnExactLeastGridSaid : Prop := fnExactLeastGridRow.holds Try.pinned (OpenSpec.ofChange fnExactLeastGridSpec)

/-- ITS FALSE NEIGHBOUR: 'it returns false'. Refute it at one input. -/
def fnExactLeastGridWrong : ChangeSpec := { name := "fnExactLeastGrid", fn := fun _ => fun
  | [d] => { results := [.lit (.bool false)], args := [d] }
  | _ => none }
def FnExactLeastGridWrongFalsely : Prop := fnExactLeastGridRow.holds Try.pinned (OpenSpec.ofChange fnExactLeastGridWrong)

/-- 'laws.FnExactHullArea': WHATEVER THE INPUT: true; the input reads as it did. -/
def fnExactHullAreaSpec : ChangeSpec := { name := "fnExactHullArea", fn := fun _ => fun
  | [d] => { results := [.lit (.bool true)], args := [d] }
  | _ => none }
def fnExactHullAreaRow : OpenClaim := { program := "ytdkpiahpmgcmdaa", sum := "37465f08177bf26486606728ee2134793c44d23fdfd6ef7ccd9b6b64e23486ee", func := "loop.example/g03104/laws.FnExactHullArea", spec := "fnExactHullArea", unfollowed := true, recurses := true, apart := false }
def FnExactHullAreaSaid : Prop := fnExactHullAreaRow.holds Try.pinned (OpenSpec.ofChange fnExactHullAreaSpec)

/-- ITS FALSE NEIGHBOUR: 'it returns false'. Refute it at one input. -/
def fnExactHullAreaWrong : ChangeSpec := { name := "fnExactHullArea", fn := fun _ => fun
  | [d] => { results := [.lit (.bool false)], args := [d] }
  | _ => none }
def FnExactHullAreaWrongFalsely : Prop := fnExactHullAreaRow.holds Try.pinned (OpenSpec.ofChange fnExactHullAreaWrong)

/-- 'laws.FnExactAreAlike': WHATEVER THE INPUT: true; the input reads as it did. -/
def fnExactAreAlikeSpec : ChangeSpec := { name := "fnExactAreAlike", fn := fun _ => fun
  | [d1, d2] => { results := [.lit (.bool true)], args := [d1, d2] }
  | _ => none }
def fnExactAreAlikeRow : OpenClaim := { program := "ytdkpiahpmgcmdaa", sum := "37465f08177bf26486606728ee2134793c44d23fdfd6ef7ccd9b6b64e23486ee", func := "loop.example/g03104/laws.FnExactAreAlike", spec := "fnExactAreAlike", apart := false }
def FnExactAreAlikeSaid : Prop := fnExactAreAlikeRow.holds Try.pinned (OpenSpec.ofChange fnExactAreAlikeSpec)

/-- ITS FALSE NEIGHBOUR: 'it returns false'. Refute it at one input. -/
def fnExactAreAlikeWrong : ChangeSpec := { name := "fnExactAreAlike", fn := fun _ => fun
  | [d1, d2] => { results := [.lit (.bool false)], args := [d1, d2] }
  | _ => none }
def FnExactAreAlikeWrongFalsely : Prop := fnExactAreAlikeRow.holds Try.pinned (OpenSpec.ofChange fnExactAreAlikeWrong)

/-- 'laws.FnExactDeepestOf': WHATEVER THE INPUT: true; the input reads as it did. -/
def fnExactDeepestOfSpec : ChangeSpec := { name := "fnExactDeepestOf", fn := fun _ => fun
  | [d] => { results := [.lit (.bool true)], args := [d] }
  | _ => none }
def fnExactDeepestOfRow : OpenClaim := { program := "ytdkpiahpmgcmdaa", sum := "37465f08177bf26486606728ee2134793c44d23fdfd6ef7ccd9b6b64e23486ee", func := "loop.example/g03104/laws.FnExactDeepestOf", spec := "fnExactDeepestOf", unfollowed := true, recurses := true, apart := false }
def FnExactDeepestOfSaid : Prop := fnExactDeepestOfRow.holds Try.pinned (OpenSpec.ofChange fnExactDeepestOfSpec)

/-- ITS FALSE NEIGHBOUR: 'it returns false'. Refute it at one input. -/
def fnExactDeepestOfWrong : ChangeSpec := { name := "fnExactDeepestOf", fn := fun _ => fun
  | [d] => { results := [.lit (.bool false)], args := [d] }
  | _ => none }
def FnExactDeepestOfWrongFalsely : Prop := fnExactDeepestOfRow.holds Try.pinned (OpenSpec.ofChange fnExactDeepestOfWrong)

/- THE SECOND FORM. 'bulk': how many values and letters a reading holds, each counted each time it is reached (what is shared counts as often as it is met; a slice's spare places count too). A statement '..UptoSaid' is the law's where the arguments, and the package variables that the reading takes, are together of bulk at most 1048576: NARROWER than '..Said'. Prove '..Said' where nothing that the law and all that it calls make is longer than what came in: it says more and counts as full. Else prove '..UptoSaid'. A law counts once. -/
mutual
def uptoBulk {H : Type} : DataW H → Nat
  | .lit (.string bytes) => bytes.length + 1
  | .lit _ => 1
  | .nil => 1
  | .ptr d => uptoBulk d + 1
  | .slice elems spare => uptoBulkAll elems + uptoBulkAll spare + 1
  | .agg parts => uptoBulkAll parts + 1
  | .iface _ d => uptoBulk d + 1
  | .map entries => uptoBulkEntries entries + 1
  | .held _ => 1
def uptoBulkAll {H : Type} : List (DataW H) → Nat
  | [] => 0
  | d :: r => uptoBulk d + uptoBulkAll r
def uptoBulkEntries {H : Type} : List (Lit × DataW H) → Nat
  | [] => 0
  | x :: r => uptoBulkEntry x + uptoBulkEntries r
def uptoBulkEntry {H : Type} : Lit × DataW H → Nat
  | (.string bytes, d) => bytes.length + uptoBulk d + 1
  | (_, d) => uptoBulk d + 1
 end
def uptoSmall : (H : Type) → List (DataW H) → Bool := fun _ ds => decide (uptoBulkAll ds ≤ 1048576)
def OpenSpec.upto (s : _root_.Go.ChangeSpec) : _root_.Go.OpenSpec := { _root_.Go.OpenSpec.ofChange s with cond := some uptoSmall }

/-- 'laws.FnExactPlacePoints', WHERE WHAT IT READS IS OF BULK AT MOST 1048576: true; the input reads as it did. -/
def fnExactPlacePointsUptoRow : OpenClaim := { program := "ytdkpiahpmgcmdaa", sum := "37465f08177bf26486606728ee2134793c44d23fdfd6ef7ccd9b6b64e23486ee", func := "loop.example/g03104/laws.FnExactPlacePoints", spec := "fnExactPlacePoints", unfollowed := true, recurses := true, apart := false, narrowed := true }
def FnExactPlacePointsUptoSaid : Prop := fnExactPlacePointsUptoRow.holds Try.pinned (OpenSpec.upto fnExactPlacePointsSpec)

/-- 'laws.FnExactLeastGrid', WHERE WHAT IT READS IS OF BULK AT MOST 1048576: true; the input reads as it did. -/
def fnExactLeastGridUptoRow : OpenClaim := { program := "ytdkpiahpmgcmdaa", sum := "37465f08177bf26486606728ee2134793c44d23fdfd6ef7ccd9b6b64e23486ee", func := "loop.example/g03104/laws.FnExactLeastGrid", spec := "fnExactLeastGrid", unfollowed := true, recurses := true, apart := false, narrowed := true }
def FnExactLeastGridUptoSaid : Prop := fnExactLeastGridUptoRow.holds Try.pinned (OpenSpec.upto fnExactLeastGridSpec)

/-- 'laws.FnExactHullArea', WHERE WHAT IT READS IS OF BULK AT MOST 1048576: true; the input reads as it did. -/
def fnExactHullAreaUptoRow : OpenClaim := { program := "ytdkpiahpmgcmdaa", sum := "37465f08177bf26486606728ee2134793c44d23fdfd6ef7ccd9b6b64e23486ee", func := "loop.example/g03104/laws.FnExactHullArea", spec := "fnExactHullArea", unfollowed := true, recurses := true, apart := false, narrowed := true }
def FnExactHullAreaUptoSaid : Prop := fnExactHullAreaUptoRow.holds Try.pinned (OpenSpec.upto fnExactHullAreaSpec)

/-- 'laws.FnExactAreAlike', WHERE WHAT IT READS IS OF BULK AT MOST 1048576: true; the input reads as it did. -/
def fnExactAreAlikeUptoRow : OpenClaim := { program := "ytdkpiahpmgcmdaa", sum := "37465f08177bf26486606728ee2134793c44d23fdfd6ef7ccd9b6b64e23486ee", func := "loop.example/g03104/laws.FnExactAreAlike", spec := "fnExactAreAlike", apart := false, narrowed := true }
def FnExactAreAlikeUptoSaid : Prop := fnExactAreAlikeUptoRow.holds Try.pinned (OpenSpec.upto fnExactAreAlikeSpec)

/-- 'laws.FnExactDeepestOf', WHERE WHAT IT READS IS OF BULK AT MOST 1048576: true; the input reads as it did. -/
def fnExactDeepestOfUptoRow : OpenClaim := { program := "ytdkpiahpmgcmdaa", sum := "37465f08177bf26486606728ee2134793c44d23fdfd6ef7ccd9b6b64e23486ee", func := "loop.example/g03104/laws.FnExactDeepestOf", spec := "fnExactDeepestOf", unfollowed := true, recurses := true, apart := false, narrowed := true }
def FnExactDeepestOfUptoSaid : Prop := fnExactDeepestOfUptoRow.holds Try.pinned (OpenSpec.upto fnExactDeepestOfSpec)

end Rows
end Go.Proofs.Ytdkpiahpmgcmdaa
