/-
  DERIVED. GIVEN WITH THE SEED: THE CARDS: each row of YthaodhipebadcaaDoorRows.lean that lists a variable, with what it lists TIED to the program's text (the seventh form; the later family's looks); each row that meets fmt, with fmt's text TOLD by the authors' own Lean function (tested against real Go, not proved from fmt's source: count such statements apart). THE CARD IS WHAT COUNTS. Prove the row's statement (the work); the ties are given (YthaodhipebadcaaDoorTie.lean); close each card by the builder's one call (the guide's Derived/Test/ToyasCard.lean, 'card_holds'). Laid BY PROGRAM, IN A SANDBOX (cutbox-door.mjs). By AI agents, Wed Nov 11 2026. No macro, syntax, notation, axiom, sorry.
-/
import Derived.Test.YthaodhipebadcaaDoorRows
import GoSem.ClaimSeven
namespace Go.Proofs.YthaodhipebadcaaDoor
namespace Rows

/-- THE TIED CARD OF 'bandplanlaw12.AntennaDirections'. -/
def antennaDirectionsCard : Claim7 := { stood := { row := antennaDirectionsRow, standIns := [], harness := (true, "9a0339d2019d04b5128806c6bae16cfbf60b36c70b6a480a73ae1bf4e14c585d"), looks := false }, kinds := [], alts := [], laidByText := true, laidKinds := [.data], laidTests := true, laidLooks := .later }
def AntennaDirectionsCardSaid : Prop := Claim7.holds Tryd.pinned (.plain (OpenSpec.ofChange antennaDirectionsSpec)) antennaDirectionsCard

/-- THE TIED CARD OF 'bandplanlaw12.AntennaLosses'. -/
def antennaLossesCard : Claim7 := { stood := { row := antennaLossesRow, standIns := [], harness := (true, "9a0339d2019d04b5128806c6bae16cfbf60b36c70b6a480a73ae1bf4e14c585d"), looks := false }, kinds := [], alts := [], laidByText := true, laidKinds := [.data], laidTests := true, laidLooks := .later }
def AntennaLossesCardSaid : Prop := Claim7.holds Tryd.pinned (.plain (OpenSpec.ofChange antennaLossesSpec)) antennaLossesCard

/-- THE TIED CARD OF 'bandplanlaw12.AntennaRotates'. -/
def antennaRotatesCard : Claim7 := { stood := { row := antennaRotatesRow, standIns := [], harness := (true, "9a0339d2019d04b5128806c6bae16cfbf60b36c70b6a480a73ae1bf4e14c585d"), looks := false }, kinds := [], alts := [], laidByText := true, laidKinds := [.data], laidTests := true, laidLooks := .later }
def AntennaRotatesCardSaid : Prop := Claim7.holds Tryd.pinned (.plain (OpenSpec.ofChange antennaRotatesSpec)) antennaRotatesCard

/-- THE TIED CARD OF 'bandplanlaw12.AntennaOmnis'. -/
def antennaOmnisCard : Claim7 := { stood := { row := antennaOmnisRow, standIns := [], harness := (true, "9a0339d2019d04b5128806c6bae16cfbf60b36c70b6a480a73ae1bf4e14c585d"), looks := false }, kinds := [], alts := [], laidByText := true, laidKinds := [.data], laidTests := true, laidLooks := .later }
def AntennaOmnisCardSaid : Prop := Claim7.holds Tryd.pinned (.plain (OpenSpec.ofChange antennaOmnisSpec)) antennaOmnisCard

/-- THE TIED CARD OF 'bandplanlaw12.AntennaEnvelopes'. -/
def antennaEnvelopesCard : Claim7 := { stood := { row := antennaEnvelopesRow, standIns := [], harness := (true, "9a0339d2019d04b5128806c6bae16cfbf60b36c70b6a480a73ae1bf4e14c585d"), looks := false }, kinds := [], alts := [], laidByText := true, laidKinds := [.data], laidTests := true, laidLooks := .later }
def AntennaEnvelopesCardSaid : Prop := Claim7.holds Tryd.pinned (.plain (OpenSpec.ofChange antennaEnvelopesSpec)) antennaEnvelopesCard

/-- THE TIED CARD OF 'bandplanlaw12.AntennaTurns'. -/
def antennaTurnsCard : Claim7 := { stood := { row := antennaTurnsRow, standIns := [], harness := (true, "9a0339d2019d04b5128806c6bae16cfbf60b36c70b6a480a73ae1bf4e14c585d"), looks := false }, kinds := [], alts := [], laidByText := true, laidKinds := [.data], laidTests := true, laidLooks := .later }
def AntennaTurnsCardSaid : Prop := Claim7.holds Tryd.pinned (.plain (OpenSpec.ofChange antennaTurnsSpec)) antennaTurnsCard

/-- THE TIED CARD OF 'bandplanlaw12.AntennaCopies'. -/
def antennaCopiesCard : Claim7 := { stood := { row := antennaCopiesRow, standIns := [], harness := (true, "9a0339d2019d04b5128806c6bae16cfbf60b36c70b6a480a73ae1bf4e14c585d"), looks := false }, kinds := [], alts := [], laidByText := true, laidKinds := [.data], laidTests := true, laidLooks := .later }
def AntennaCopiesCardSaid : Prop := Claim7.holds Tryd.pinned (.plain (OpenSpec.ofChange antennaCopiesSpec)) antennaCopiesCard

/-- THE SECOND FORM's CARD OF 'bandplanlaw12.AntennaDirections'. -/
def antennaDirectionsUptoCard : Claim7 := { stood := { row := antennaDirectionsUptoRow, standIns := [], harness := (true, "9a0339d2019d04b5128806c6bae16cfbf60b36c70b6a480a73ae1bf4e14c585d"), looks := false }, kinds := [], alts := [], laidByText := true, laidKinds := [.data], laidTests := true, laidLooks := .later }
def AntennaDirectionsUptoCardSaid : Prop := Claim7.holds Tryd.pinned (.plain (OpenSpec.upto antennaDirectionsSpec)) antennaDirectionsUptoCard

/-- THE SECOND FORM's CARD OF 'bandplanlaw12.AntennaLosses'. -/
def antennaLossesUptoCard : Claim7 := { stood := { row := antennaLossesUptoRow, standIns := [], harness := (true, "9a0339d2019d04b5128806c6bae16cfbf60b36c70b6a480a73ae1bf4e14c585d"), looks := false }, kinds := [], alts := [], laidByText := true, laidKinds := [.data], laidTests := true, laidLooks := .later }
def AntennaLossesUptoCardSaid : Prop := Claim7.holds Tryd.pinned (.plain (OpenSpec.upto antennaLossesSpec)) antennaLossesUptoCard

/-- THE SECOND FORM's CARD OF 'bandplanlaw12.AntennaRotates'. -/
def antennaRotatesUptoCard : Claim7 := { stood := { row := antennaRotatesUptoRow, standIns := [], harness := (true, "9a0339d2019d04b5128806c6bae16cfbf60b36c70b6a480a73ae1bf4e14c585d"), looks := false }, kinds := [], alts := [], laidByText := true, laidKinds := [.data], laidTests := true, laidLooks := .later }
def AntennaRotatesUptoCardSaid : Prop := Claim7.holds Tryd.pinned (.plain (OpenSpec.upto antennaRotatesSpec)) antennaRotatesUptoCard

/-- THE SECOND FORM's CARD OF 'bandplanlaw12.AntennaOmnis'. -/
def antennaOmnisUptoCard : Claim7 := { stood := { row := antennaOmnisUptoRow, standIns := [], harness := (true, "9a0339d2019d04b5128806c6bae16cfbf60b36c70b6a480a73ae1bf4e14c585d"), looks := false }, kinds := [], alts := [], laidByText := true, laidKinds := [.data], laidTests := true, laidLooks := .later }
def AntennaOmnisUptoCardSaid : Prop := Claim7.holds Tryd.pinned (.plain (OpenSpec.upto antennaOmnisSpec)) antennaOmnisUptoCard

/-- THE SECOND FORM's CARD OF 'bandplanlaw12.AntennaEnvelopes'. -/
def antennaEnvelopesUptoCard : Claim7 := { stood := { row := antennaEnvelopesUptoRow, standIns := [], harness := (true, "9a0339d2019d04b5128806c6bae16cfbf60b36c70b6a480a73ae1bf4e14c585d"), looks := false }, kinds := [], alts := [], laidByText := true, laidKinds := [.data], laidTests := true, laidLooks := .later }
def AntennaEnvelopesUptoCardSaid : Prop := Claim7.holds Tryd.pinned (.plain (OpenSpec.upto antennaEnvelopesSpec)) antennaEnvelopesUptoCard

/-- THE SECOND FORM's CARD OF 'bandplanlaw12.AntennaTurns'. -/
def antennaTurnsUptoCard : Claim7 := { stood := { row := antennaTurnsUptoRow, standIns := [], harness := (true, "9a0339d2019d04b5128806c6bae16cfbf60b36c70b6a480a73ae1bf4e14c585d"), looks := false }, kinds := [], alts := [], laidByText := true, laidKinds := [.data], laidTests := true, laidLooks := .later }
def AntennaTurnsUptoCardSaid : Prop := Claim7.holds Tryd.pinned (.plain (OpenSpec.upto antennaTurnsSpec)) antennaTurnsUptoCard

/-- THE SECOND FORM's CARD OF 'bandplanlaw12.AntennaCopies'. -/
def antennaCopiesUptoCard : Claim7 := { stood := { row := antennaCopiesUptoRow, standIns := [], harness := (true, "9a0339d2019d04b5128806c6bae16cfbf60b36c70b6a480a73ae1bf4e14c585d"), looks := false }, kinds := [], alts := [], laidByText := true, laidKinds := [.data], laidTests := true, laidLooks := .later }
def AntennaCopiesUptoCardSaid : Prop := Claim7.holds Tryd.pinned (.plain (OpenSpec.upto antennaCopiesSpec)) antennaCopiesUptoCard
end Rows
end Go.Proofs.YthaodhipebadcaaDoor
