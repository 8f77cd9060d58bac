/-
  DERIVED. GIVEN WITH THE SEED: THE CARDS: each row of YtajogmlblknfdaaDoorRows.lean that lists a variable, with what it lists TIED to the program's text (the seventh form; the later family's looks); each row that meets fmt, with fmt's text TOLD by the authors' own Lean function (tested against real Go, not proved from fmt's source: count such statements apart). THE CARD IS WHAT COUNTS. Prove the row's statement (the work); the ties are given (YtajogmlblknfdaaDoorTie.lean); close each card by the builder's one call (the guide's Derived/Test/ToyasCard.lean, 'card_holds'). Laid BY PROGRAM, IN A SANDBOX (cutbox-door.mjs). By AI agents, Wed Nov 11 2026. No macro, syntax, notation, axiom, sorry.
-/
import Derived.Test.YtajogmlblknfdaaDoorRows
import GoSem.ClaimSeven
namespace Go.Proofs.YtajogmlblknfdaaDoor
namespace Rows

/-- THE TIED CARD OF 'laws.FnExactJoinTexts'. -/
def fnExactJoinTextsCard : Claim7 := { stood := { row := fnExactJoinTextsRow, standIns := [], harness := (true, "de4d61a00d6ac68e46ecfc97a4a4f2738459baeb839506a8308b4f05283e3276"), looks := false }, kinds := [], alts := [], laidByText := true, laidKinds := [.data, .pinned], laidTests := true, laidLooks := .later }
def FnExactJoinTextsCardSaid : Prop := Claim7.holds Tryd.pinned (.plain (OpenSpec.ofChange fnExactJoinTextsSpec)) fnExactJoinTextsCard

/-- THE TIED CARD OF 'laws.FnExactOppositeText'. -/
def fnExactOppositeTextCard : Claim7 := { stood := { row := fnExactOppositeTextRow, standIns := [], harness := (true, "de4d61a00d6ac68e46ecfc97a4a4f2738459baeb839506a8308b4f05283e3276"), looks := false }, kinds := [], alts := [], laidByText := true, laidKinds := [.data, .pinned], laidTests := true, laidLooks := .later }
def FnExactOppositeTextCardSaid : Prop := Claim7.holds Tryd.pinned (.plain (OpenSpec.ofChange fnExactOppositeTextSpec)) fnExactOppositeTextCard

/-- THE TIED CARD OF 'laws.FnExactAreSeparated'. -/
def fnExactAreSeparatedCard : Claim7 := { stood := { row := fnExactAreSeparatedRow, standIns := [], harness := (true, "de4d61a00d6ac68e46ecfc97a4a4f2738459baeb839506a8308b4f05283e3276"), looks := false }, kinds := [], alts := [], laidByText := true, laidKinds := [.data, .pinned], laidTests := true, laidLooks := .later }
def FnExactAreSeparatedCardSaid : Prop := Claim7.holds Tryd.pinned (.plain (OpenSpec.ofChange fnExactAreSeparatedSpec)) fnExactAreSeparatedCard

/-- THE TIED CARD OF 'laws.FnExactIsCover'. -/
def fnExactIsCoverCard : Claim7 := { stood := { row := fnExactIsCoverRow, standIns := [], harness := (true, "de4d61a00d6ac68e46ecfc97a4a4f2738459baeb839506a8308b4f05283e3276"), looks := false }, kinds := [], alts := [], laidByText := true, laidKinds := [.data, .pinned], laidTests := true, laidLooks := .later }
def FnExactIsCoverCardSaid : Prop := Claim7.holds Tryd.pinned (.plain (OpenSpec.ofChange fnExactIsCoverSpec)) fnExactIsCoverCard

/-- THE SECOND FORM's CARD OF 'laws.FnExactJoinTexts'. -/
def fnExactJoinTextsUptoCard : Claim7 := { stood := { row := fnExactJoinTextsUptoRow, standIns := [], harness := (true, "de4d61a00d6ac68e46ecfc97a4a4f2738459baeb839506a8308b4f05283e3276"), looks := false }, kinds := [], alts := [], laidByText := true, laidKinds := [.data, .pinned], laidTests := true, laidLooks := .later }
def FnExactJoinTextsUptoCardSaid : Prop := Claim7.holds Tryd.pinned (.plain (OpenSpec.upto fnExactJoinTextsSpec)) fnExactJoinTextsUptoCard

/-- THE SECOND FORM's CARD OF 'laws.FnExactOppositeText'. -/
def fnExactOppositeTextUptoCard : Claim7 := { stood := { row := fnExactOppositeTextUptoRow, standIns := [], harness := (true, "de4d61a00d6ac68e46ecfc97a4a4f2738459baeb839506a8308b4f05283e3276"), looks := false }, kinds := [], alts := [], laidByText := true, laidKinds := [.data, .pinned], laidTests := true, laidLooks := .later }
def FnExactOppositeTextUptoCardSaid : Prop := Claim7.holds Tryd.pinned (.plain (OpenSpec.upto fnExactOppositeTextSpec)) fnExactOppositeTextUptoCard

/-- THE SECOND FORM's CARD OF 'laws.FnExactAreSeparated'. -/
def fnExactAreSeparatedUptoCard : Claim7 := { stood := { row := fnExactAreSeparatedUptoRow, standIns := [], harness := (true, "de4d61a00d6ac68e46ecfc97a4a4f2738459baeb839506a8308b4f05283e3276"), looks := false }, kinds := [], alts := [], laidByText := true, laidKinds := [.data, .pinned], laidTests := true, laidLooks := .later }
def FnExactAreSeparatedUptoCardSaid : Prop := Claim7.holds Tryd.pinned (.plain (OpenSpec.upto fnExactAreSeparatedSpec)) fnExactAreSeparatedUptoCard

/-- THE SECOND FORM's CARD OF 'laws.FnExactIsCover'. -/
def fnExactIsCoverUptoCard : Claim7 := { stood := { row := fnExactIsCoverUptoRow, standIns := [], harness := (true, "de4d61a00d6ac68e46ecfc97a4a4f2738459baeb839506a8308b4f05283e3276"), looks := false }, kinds := [], alts := [], laidByText := true, laidKinds := [.data, .pinned], laidTests := true, laidLooks := .later }
def FnExactIsCoverUptoCardSaid : Prop := Claim7.holds Tryd.pinned (.plain (OpenSpec.upto fnExactIsCoverSpec)) fnExactIsCoverUptoCard
end Rows
end Go.Proofs.YtajogmlblknfdaaDoor
