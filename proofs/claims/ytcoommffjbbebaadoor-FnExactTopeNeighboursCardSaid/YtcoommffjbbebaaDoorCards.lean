/-
  DERIVED. GIVEN WITH THE SEED: THE CARDS: each row of YtcoommffjbbebaaDoorRows.lean that lists a variable, with what it lists TIED to the program's text (the seventh form; the later family's looks); each row that meets fmt, with fmt's text TOLD by the authors' own Lean function (tested against real Go, not proved from fmt's source: count such statements apart). THE CARD IS WHAT COUNTS. Prove the row's statement (the work); the ties are given (YtcoommffjbbebaaDoorTie.lean); close each card by the builder's one call (the guide's Derived/Test/ToyasCard.lean, 'card_holds'). Laid BY PROGRAM, IN A SANDBOX (cutbox-door.mjs). By AI agents, Wed Nov 11 2026. No macro, syntax, notation, axiom, sorry.
-/
import Derived.Test.YtcoommffjbbebaaDoorRows
import GoSem.ClaimSeven
namespace Go.Proofs.YtcoommffjbbebaaDoor
namespace Rows

/-- THE TIED CARD OF 'laws.FnExactTopesOf'. -/
def fnExactTopesOfCard : Claim7 := { stood := { row := fnExactTopesOfRow, standIns := [], harness := (true, "352e9cb80e723ee9fe63d1bfda0c5409d892adcac9e6a1f6ba828805a50f19f0"), looks := false }, kinds := [], alts := [], laidByText := true, laidKinds := [.data, .pinned], laidTests := true, laidLooks := .later }
def FnExactTopesOfCardSaid : Prop := Claim7.holds Tryd.pinned (.plain (OpenSpec.ofChange fnExactTopesOfSpec)) fnExactTopesOfCard

/-- THE TIED CARD OF 'laws.FnExactTopeNeighbours'. -/
def fnExactTopeNeighboursCard : Claim7 := { stood := { row := fnExactTopeNeighboursRow, standIns := [], harness := (true, "352e9cb80e723ee9fe63d1bfda0c5409d892adcac9e6a1f6ba828805a50f19f0"), looks := false }, kinds := [], alts := [], laidByText := true, laidKinds := [.data, .pinned], laidTests := true, laidLooks := .later }
def FnExactTopeNeighboursCardSaid : Prop := Claim7.holds Tryd.pinned (.plain (OpenSpec.ofChange fnExactTopeNeighboursSpec)) fnExactTopeNeighboursCard

/-- THE SECOND FORM's CARD OF 'laws.FnExactTopesOf'. -/
def fnExactTopesOfUptoCard : Claim7 := { stood := { row := fnExactTopesOfUptoRow, standIns := [], harness := (true, "352e9cb80e723ee9fe63d1bfda0c5409d892adcac9e6a1f6ba828805a50f19f0"), looks := false }, kinds := [], alts := [], laidByText := true, laidKinds := [.data, .pinned], laidTests := true, laidLooks := .later }
def FnExactTopesOfUptoCardSaid : Prop := Claim7.holds Tryd.pinned (.plain (OpenSpec.upto fnExactTopesOfSpec)) fnExactTopesOfUptoCard

/-- THE SECOND FORM's CARD OF 'laws.FnExactTopeNeighbours'. -/
def fnExactTopeNeighboursUptoCard : Claim7 := { stood := { row := fnExactTopeNeighboursUptoRow, standIns := [], harness := (true, "352e9cb80e723ee9fe63d1bfda0c5409d892adcac9e6a1f6ba828805a50f19f0"), looks := false }, kinds := [], alts := [], laidByText := true, laidKinds := [.data, .pinned], laidTests := true, laidLooks := .later }
def FnExactTopeNeighboursUptoCardSaid : Prop := Claim7.holds Tryd.pinned (.plain (OpenSpec.upto fnExactTopeNeighboursSpec)) fnExactTopeNeighboursUptoCard
end Rows
end Go.Proofs.YtcoommffjbbebaaDoor
