/-
  DERIVED. GIVEN WITH THE SEED: THE CARDS: each row of YtgflknmbnblpaaaDoorRows.lean that lists a variable, with what it lists TIED to the program's text (the seventh form; the later family's looks); each row that meets fmt, with fmt's text TOLD by the authors' own Lean function (tested against real Go, not proved from fmt's source: count such statements apart). THE CARD IS WHAT COUNTS. Prove the row's statement (the work); the ties are given (YtgflknmbnblpaaaDoorTie.lean); close each card by the builder's one call (the guide's Derived/Test/ToyasCard.lean, 'card_holds'). Laid BY PROGRAM, IN A SANDBOX (cutbox-door.mjs). By AI agents, Wed Nov 11 2026. No macro, syntax, notation, axiom, sorry.
-/
import Derived.Test.YtgflknmbnblpaaaDoorRows
import GoSem.ClaimSeven
namespace Go.Proofs.YtgflknmbnblpaaaDoor
namespace Rows

/-- THE TIED CARD OF 'laws.FnExactFactText'. -/
def fnExactFactTextCard : Claim7 := { stood := { row := fnExactFactTextRow, standIns := [], harness := (true, "92e7c36894b62af1f8f33c8efbfb3440c8ec479779a262ffde1981cd098fb73d"), looks := false }, kinds := [], alts := [], laidByText := true, laidKinds := [.data, .data, .data], laidTests := true, laidLooks := .later }
def FnExactFactTextCardSaid : Prop := Claim7.holds Tryd.pinned (.plain (OpenSpec.ofChange fnExactFactTextSpec)) fnExactFactTextCard

/-- THE TIED CARD OF 'laws.FnExactShowCode'. -/
def fnExactShowCodeCard : Claim7 := { stood := { row := fnExactShowCodeRow, standIns := [], harness := (true, "92e7c36894b62af1f8f33c8efbfb3440c8ec479779a262ffde1981cd098fb73d"), looks := false }, kinds := [], alts := [], laidByText := true, laidKinds := [.data, .data, .data], laidTests := true, laidLooks := .later }
def FnExactShowCodeCardSaid : Prop := Claim7.holds Tryd.pinned (.plain (OpenSpec.ofChange fnExactShowCodeSpec)) fnExactShowCodeCard

/-- THE SECOND FORM's CARD OF 'laws.FnExactFactText'. -/
def fnExactFactTextUptoCard : Claim7 := { stood := { row := fnExactFactTextUptoRow, standIns := [], harness := (true, "92e7c36894b62af1f8f33c8efbfb3440c8ec479779a262ffde1981cd098fb73d"), looks := false }, kinds := [], alts := [], laidByText := true, laidKinds := [.data, .data, .data], laidTests := true, laidLooks := .later }
def FnExactFactTextUptoCardSaid : Prop := Claim7.holds Tryd.pinned (.plain (OpenSpec.upto fnExactFactTextSpec)) fnExactFactTextUptoCard

/-- THE SECOND FORM's CARD OF 'laws.FnExactShowCode'. -/
def fnExactShowCodeUptoCard : Claim7 := { stood := { row := fnExactShowCodeUptoRow, standIns := [], harness := (true, "92e7c36894b62af1f8f33c8efbfb3440c8ec479779a262ffde1981cd098fb73d"), looks := false }, kinds := [], alts := [], laidByText := true, laidKinds := [.data, .data, .data], laidTests := true, laidLooks := .later }
def FnExactShowCodeUptoCardSaid : Prop := Claim7.holds Tryd.pinned (.plain (OpenSpec.upto fnExactShowCodeSpec)) fnExactShowCodeUptoCard
end Rows
end Go.Proofs.YtgflknmbnblpaaaDoor
