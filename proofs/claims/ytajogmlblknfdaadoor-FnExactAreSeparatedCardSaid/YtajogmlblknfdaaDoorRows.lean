/-
  NARROWER THAN 'FOR EVERY INPUT', by the rows' own cells (each row's printed sentence says how): FnExactJoinTexts: laid · FnExactOppositeText: laid · FnExactAreSeparated: laid · FnExactIsCover: laid.
  DERIVED. THE GIVEN ROWS OF THIS SEAT. 4 by the template 'for every input the law returns true; each argument reads behind the call as it read before'; 0 by the template 'total and deterministic' (their statements: YtajogmlblknfdaaDoorTotals.lean).
  GIVEN WITH THE SEED: the statements are not yours to turn. If you find one false, say at which input.
  Laid BY PROGRAM, IN A SANDBOX (cutbox-rows.mjs): the forced cells as the released guide's own fill.sh prints them over the translation 4810ebb4b3b93114… (all of the seat's roots in one cut). By AI agents, Wed Nov 11 2026. No macro, syntax, notation, axiom, sorry.
-/
import Derived.Test.YtajogmlblknfdaaDoorChecked
import GoSem.PinnedTables
import GoSem.Claim
import GoSem.ClaimJoined
import GoSem.ClaimMapViews
import Derived.JoinedTies
import Derived.KernelRfl
namespace Go.Proofs.YtajogmlblknfdaaDoor
/- THE CELL 'sum', in the pinned program and in every row, IS THE sha256 OF THE DUMP (.gsa) THAT YtajogmlblknfdaaDoorProg.lean LOADS. Nothing in Lean hashes anything: it is a label: what it is worth is what the hold of that sum in a sandbox is worth. -/
noncomputable def Tryd.pinned : Pinned := { name := "ytajogmlblknfdaadoor", sum := "4810ebb4b3b93114192b78f3f4dbf095e28283a700cab73eb2e7c06401ce7e15", checked := Tryd.checked }
namespace Rows
def none {H : Type} : Left H := { results := [], args := [] }

/- WHAT THE LISTED PACKAGE-LEVEL VARIABLES READ AS WHEN THE CALL BEGINS. Each datum BY PROGRAM (the guide's laid-datum.mjs) off the statement by which the dump's own 'gosem.cut.vars' lays the variable. In a bare row this is a premise. The card (YtajogmlblknfdaaDoorCards.lean) ties it to the program's text. -/
def laid_unicode_utf8_acceptRanges {H : Type} : DataW H := .agg [.agg [.lit (.int .u8 128), .lit (.int .u8 191)], .agg [.lit (.int .u8 160), .lit (.int .u8 191)], .agg [.lit (.int .u8 128), .lit (.int .u8 159)], .agg [.lit (.int .u8 144), .lit (.int .u8 191)], .agg [.lit (.int .u8 128), .lit (.int .u8 143)], .agg [.lit (.int .u8 0), .lit (.int .u8 0)], .agg [.lit (.int .u8 0), .lit (.int .u8 0)], .agg [.lit (.int .u8 0), .lit (.int .u8 0)], .agg [.lit (.int .u8 0), .lit (.int .u8 0)], .agg [.lit (.int .u8 0), .lit (.int .u8 0)], .agg [.lit (.int .u8 0), .lit (.int .u8 0)], .agg [.lit (.int .u8 0), .lit (.int .u8 0)], .agg [.lit (.int .u8 0), .lit (.int .u8 0)], .agg [.lit (.int .u8 0), .lit (.int .u8 0)], .agg [.lit (.int .u8 0), .lit (.int .u8 0)], .agg [.lit (.int .u8 0), .lit (.int .u8 0)]]
/-- One of Go's own tables, pinned by name: the form's constant. -/
def laid_unicode_utf8_first : DataW Unit := Go.Pinned.utf8First

/-- 'laws.FnExactJoinTexts': WHATEVER THE INPUT: true; the input reads as it did. -/
def fnExactJoinTextsSpec : ChangeSpec := { name := "fnExactJoinTexts", fn := fun _ => fun
  | [d1, d2] => { results := [.lit (.bool true)], args := [d1, d2] }
  | _ => none }
def fnExactJoinTextsRow : OpenClaim := { program := "ytajogmlblknfdaadoor", sum := "4810ebb4b3b93114192b78f3f4dbf095e28283a700cab73eb2e7c06401ce7e15", func := "loop.example/g03104/laws.FnExactJoinTexts", spec := "fnExactJoinTexts", inPlace := ["internal/bytealg.IndexByteString", "internal/bytealg.IndexString"], named := ["unicode/utf8.first", "unicode/utf8.acceptRanges", "internal/bytealg.MaxLen"], apart := false, laid := [("unicode/utf8.acceptRanges", laid_unicode_utf8_acceptRanges), ("unicode/utf8.first", laid_unicode_utf8_first)] }
def FnExactJoinTextsSaid : Prop := fnExactJoinTextsRow.holds Tryd.pinned (OpenSpec.ofChange fnExactJoinTextsSpec)

/-- ITS FALSE NEIGHBOUR: 'it returns false'. Refute it at one input. -/
def fnExactJoinTextsWrong : ChangeSpec := { name := "fnExactJoinTexts", fn := fun _ => fun
  | [d1, d2] => { results := [.lit (.bool false)], args := [d1, d2] }
  | _ => none }
def FnExactJoinTextsWrongFalsely : Prop := fnExactJoinTextsRow.holds Tryd.pinned (OpenSpec.ofChange fnExactJoinTextsWrong)

/-- 'laws.FnExactOppositeText': WHATEVER THE INPUT: true; the input reads as it did. -/
def fnExactOppositeTextSpec : ChangeSpec := { name := "fnExactOppositeText", fn := fun _ => fun
  | [d] => { results := [.lit (.bool true)], args := [d] }
  | _ => none }
def fnExactOppositeTextRow : OpenClaim := { program := "ytajogmlblknfdaadoor", sum := "4810ebb4b3b93114192b78f3f4dbf095e28283a700cab73eb2e7c06401ce7e15", func := "loop.example/g03104/laws.FnExactOppositeText", spec := "fnExactOppositeText", inPlace := ["internal/bytealg.IndexByteString", "internal/bytealg.IndexString"], named := ["unicode/utf8.first", "unicode/utf8.acceptRanges", "internal/bytealg.MaxLen"], apart := false, laid := [("unicode/utf8.acceptRanges", laid_unicode_utf8_acceptRanges), ("unicode/utf8.first", laid_unicode_utf8_first)] }
def FnExactOppositeTextSaid : Prop := fnExactOppositeTextRow.holds Tryd.pinned (OpenSpec.ofChange fnExactOppositeTextSpec)

/-- ITS FALSE NEIGHBOUR: 'it returns false'. Refute it at one input. -/
def fnExactOppositeTextWrong : ChangeSpec := { name := "fnExactOppositeText", fn := fun _ => fun
  | [d] => { results := [.lit (.bool false)], args := [d] }
  | _ => none }
def FnExactOppositeTextWrongFalsely : Prop := fnExactOppositeTextRow.holds Tryd.pinned (OpenSpec.ofChange fnExactOppositeTextWrong)

/-- 'laws.FnExactAreSeparated': WHATEVER THE INPUT: true; the input reads as it did. -/
def fnExactAreSeparatedSpec : ChangeSpec := { name := "fnExactAreSeparated", fn := fun _ => fun
  | [d1, d2] => { results := [.lit (.bool true)], args := [d1, d2] }
  | _ => none }
def fnExactAreSeparatedRow : OpenClaim := { program := "ytajogmlblknfdaadoor", sum := "4810ebb4b3b93114192b78f3f4dbf095e28283a700cab73eb2e7c06401ce7e15", func := "loop.example/g03104/laws.FnExactAreSeparated", spec := "fnExactAreSeparated", inPlace := ["internal/bytealg.IndexByteString", "internal/bytealg.IndexString"], named := ["unicode/utf8.first", "unicode/utf8.acceptRanges", "internal/bytealg.MaxLen"], apart := false, laid := [("unicode/utf8.acceptRanges", laid_unicode_utf8_acceptRanges), ("unicode/utf8.first", laid_unicode_utf8_first)] }
def FnExactAreSeparatedSaid : Prop := fnExactAreSeparatedRow.holds Tryd.pinned (OpenSpec.ofChange fnExactAreSeparatedSpec)

/-- ITS FALSE NEIGHBOUR: 'it returns false'. Refute it at one input. -/
def fnExactAreSeparatedWrong : ChangeSpec := { name := "fnExactAreSeparated", fn := fun _ => fun
  | [d1, d2] => { results := [.lit (.bool false)], args := [d1, d2] }
  | _ => none }
def FnExactAreSeparatedWrongFalsely : Prop := fnExactAreSeparatedRow.holds Tryd.pinned (OpenSpec.ofChange fnExactAreSeparatedWrong)

/-- 'laws.FnExactIsCover': WHATEVER THE INPUT: true; the input reads as it did. -/
def fnExactIsCoverSpec : ChangeSpec := { name := "fnExactIsCover", fn := fun _ => fun
  | [d1, d2] => { results := [.lit (.bool true)], args := [d1, d2] }
  | _ => none }
def fnExactIsCoverRow : OpenClaim := { program := "ytajogmlblknfdaadoor", sum := "4810ebb4b3b93114192b78f3f4dbf095e28283a700cab73eb2e7c06401ce7e15", func := "loop.example/g03104/laws.FnExactIsCover", spec := "fnExactIsCover", inPlace := ["internal/bytealg.IndexByteString", "internal/bytealg.IndexString"], named := ["unicode/utf8.first", "unicode/utf8.acceptRanges", "internal/bytealg.MaxLen"], apart := false, laid := [("unicode/utf8.acceptRanges", laid_unicode_utf8_acceptRanges), ("unicode/utf8.first", laid_unicode_utf8_first)] }
def FnExactIsCoverSaid : Prop := fnExactIsCoverRow.holds Tryd.pinned (OpenSpec.ofChange fnExactIsCoverSpec)

/-- ITS FALSE NEIGHBOUR: 'it returns false'. Refute it at one input. -/
def fnExactIsCoverWrong : ChangeSpec := { name := "fnExactIsCover", fn := fun _ => fun
  | [d1, d2] => { results := [.lit (.bool false)], args := [d1, d2] }
  | _ => none }
def FnExactIsCoverWrongFalsely : Prop := fnExactIsCoverRow.holds Tryd.pinned (OpenSpec.ofChange fnExactIsCoverWrong)

/- THE SECOND FORM. 'bulk': how many values and letters a reading holds, each counted each time it is reached (what is shared counts as often as it is met; a slice's spare places count too). A statement '..UptoSaid' is the law's where the arguments, and the package variables that the reading takes, are together of bulk at most 1048576: NARROWER than '..Said'. Prove '..Said' where nothing that the law and all that it calls make is longer than what came in: it says more and counts as full. Else prove '..UptoSaid'. A law counts once. -/
mutual
def uptoBulk {H : Type} : DataW H → Nat
  | .lit (.string bytes) => bytes.length + 1
  | .lit _ => 1
  | .nil => 1
  | .ptr d => uptoBulk d + 1
  | .slice elems spare => uptoBulkAll elems + uptoBulkAll spare + 1
  | .agg parts => uptoBulkAll parts + 1
  | .iface _ d => uptoBulk d + 1
  | .map entries => uptoBulkEntries entries + 1
  | .held _ => 1
def uptoBulkAll {H : Type} : List (DataW H) → Nat
  | [] => 0
  | d :: r => uptoBulk d + uptoBulkAll r
def uptoBulkEntries {H : Type} : List (Lit × DataW H) → Nat
  | [] => 0
  | x :: r => uptoBulkEntry x + uptoBulkEntries r
def uptoBulkEntry {H : Type} : Lit × DataW H → Nat
  | (.string bytes, d) => bytes.length + uptoBulk d + 1
  | (_, d) => uptoBulk d + 1
 end
def uptoSmall : (H : Type) → List (DataW H) → Bool := fun _ ds => decide (uptoBulkAll ds ≤ 1048576)
def OpenSpec.upto (s : _root_.Go.ChangeSpec) : _root_.Go.OpenSpec := { _root_.Go.OpenSpec.ofChange s with cond := some uptoSmall }

/-- 'laws.FnExactJoinTexts', WHERE WHAT IT READS IS OF BULK AT MOST 1048576: true; the input reads as it did. -/
def fnExactJoinTextsUptoRow : OpenClaim := { program := "ytajogmlblknfdaadoor", sum := "4810ebb4b3b93114192b78f3f4dbf095e28283a700cab73eb2e7c06401ce7e15", func := "loop.example/g03104/laws.FnExactJoinTexts", spec := "fnExactJoinTexts", inPlace := ["internal/bytealg.IndexByteString", "internal/bytealg.IndexString"], named := ["unicode/utf8.first", "unicode/utf8.acceptRanges", "internal/bytealg.MaxLen"], apart := false, laid := [("unicode/utf8.acceptRanges", laid_unicode_utf8_acceptRanges), ("unicode/utf8.first", laid_unicode_utf8_first)], narrowed := true }
def FnExactJoinTextsUptoSaid : Prop := fnExactJoinTextsUptoRow.holds Tryd.pinned (OpenSpec.upto fnExactJoinTextsSpec)

/-- 'laws.FnExactOppositeText', WHERE WHAT IT READS IS OF BULK AT MOST 1048576: true; the input reads as it did. -/
def fnExactOppositeTextUptoRow : OpenClaim := { program := "ytajogmlblknfdaadoor", sum := "4810ebb4b3b93114192b78f3f4dbf095e28283a700cab73eb2e7c06401ce7e15", func := "loop.example/g03104/laws.FnExactOppositeText", spec := "fnExactOppositeText", inPlace := ["internal/bytealg.IndexByteString", "internal/bytealg.IndexString"], named := ["unicode/utf8.first", "unicode/utf8.acceptRanges", "internal/bytealg.MaxLen"], apart := false, laid := [("unicode/utf8.acceptRanges", laid_unicode_utf8_acceptRanges), ("unicode/utf8.first", laid_unicode_utf8_first)], narrowed := true }
def FnExactOppositeTextUptoSaid : Prop := fnExactOppositeTextUptoRow.holds Tryd.pinned (OpenSpec.upto fnExactOppositeTextSpec)

/-- 'laws.FnExactAreSeparated', WHERE WHAT IT READS IS OF BULK AT MOST 1048576: true; the input reads as it did. -/
def fnExactAreSeparatedUptoRow : OpenClaim := { program := "ytajogmlblknfdaadoor", sum := "4810ebb4b3b93114192b78f3f4dbf095e28283a700cab73eb2e7c06401ce7e15", func := "loop.example/g03104/laws.FnExactAreSeparated", spec := "fnExactAreSeparated", inPlace := ["internal/bytealg.IndexByteString", "internal/bytealg.IndexString"], named := ["unicode/utf8.first", "unicode/utf8.acceptRanges", "internal/bytealg.MaxLen"], apart := false, laid := [("unicode/utf8.acceptRanges", laid_unicode_utf8_acceptRanges), ("unicode/utf8.first", laid_unicode_utf8_first)], narrowed := true }
def FnExactAreSeparatedUptoSaid : Prop := fnExactAreSeparatedUptoRow.holds Tryd.pinned (OpenSpec.upto fnExactAreSeparatedSpec)

/-- 'laws.FnExactIsCover', WHERE WHAT IT READS IS OF BULK AT MOST 1048576: true; the input reads as it did. -/
def fnExactIsCoverUptoRow : OpenClaim := { program := "ytajogmlblknfdaadoor", sum := "4810ebb4b3b93114192b78f3f4dbf095e28283a700cab73eb2e7c06401ce7e15", func := "loop.example/g03104/laws.FnExactIsCover", spec := "fnExactIsCover", inPlace := ["internal/bytealg.IndexByteString", "internal/bytealg.IndexString"], named := ["unicode/utf8.first", "unicode/utf8.acceptRanges", "internal/bytealg.MaxLen"], apart := false, laid := [("unicode/utf8.acceptRanges", laid_unicode_utf8_acceptRanges), ("unicode/utf8.first", laid_unicode_utf8_first)], narrowed := true }
def FnExactIsCoverUptoSaid : Prop := fnExactIsCoverUptoRow.holds Tryd.pinned (OpenSpec.upto fnExactIsCoverSpec)

end Rows
end Go.Proofs.YtajogmlblknfdaaDoor
