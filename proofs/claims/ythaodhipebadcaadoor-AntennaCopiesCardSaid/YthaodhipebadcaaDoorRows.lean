/-
  NARROWER THAN 'FOR EVERY INPUT', by the rows' own cells (each row's printed sentence says how): AntennaDirections: laid · AntennaLosses: laid · AntennaRotates: laid · AntennaOmnis: laid · AntennaEnvelopes: laid · AntennaTurns: laid · AntennaCopies: laid.
  DERIVED. THE GIVEN ROWS OF THIS SEAT. 7 by the template 'for every input the law returns true; each argument reads behind the call as it read before'; 0 by the template 'total and deterministic' (their statements: YthaodhipebadcaaDoorTotals.lean).
  GIVEN WITH THE SEED: the statements are not yours to turn. If you find one false, say at which input.
  Laid BY PROGRAM, IN A SANDBOX (cutbox-rows.mjs): the forced cells as the released guide's own fill.sh prints them over the translation f21f4440ad67c8c4… (all of the seat's roots in one cut). By AI agents, Wed Nov 11 2026. No macro, syntax, notation, axiom, sorry.
-/
import Derived.Test.YthaodhipebadcaaDoorChecked
import GoSem.Claim
import GoSem.ClaimJoined
import GoSem.ClaimMapViews
import Derived.JoinedTies
import Derived.KernelRfl
namespace Go.Proofs.YthaodhipebadcaaDoor
/- THE CELL 'sum', in the pinned program and in every row, IS THE sha256 OF THE DUMP (.gsa) THAT YthaodhipebadcaaDoorProg.lean LOADS. Nothing in Lean hashes anything: it is a label: what it is worth is what the hold of that sum in a sandbox is worth. -/
noncomputable def Tryd.pinned : Pinned := { name := "ythaodhipebadcaadoor", sum := "f21f4440ad67c8c47b173c14ada7092052574f089b2b401cebc4cd897a6d4d97", checked := Tryd.checked }
namespace Rows
def none {H : Type} : Left H := { results := [], args := [] }

/- WHAT THE LISTED PACKAGE-LEVEL VARIABLES READ AS WHEN THE CALL BEGINS. Each datum BY PROGRAM (the guide's laid-datum.mjs) off the statement by which the dump's own 'gosem.cut.vars' lays the variable. In a bare row this is a premise. The card (YthaodhipebadcaaDoorCards.lean) ties it to the program's text. -/
def laid_bandplan_antenna_quadrants {H : Type} : DataW H := .agg [.agg [.lit (.int .i64 1), .lit (.int .i64 0), .lit (.int .i64 0), .lit (.int .i64 1)], .agg [.lit (.int .i64 0), .lit (.int .i64 1), .lit (.int .i64 (-1)), .lit (.int .i64 0)], .agg [.lit (.int .i64 (-1)), .lit (.int .i64 0), .lit (.int .i64 0), .lit (.int .i64 (-1))], .agg [.lit (.int .i64 0), .lit (.int .i64 (-1)), .lit (.int .i64 1), .lit (.int .i64 0)]]

/-- 'bandplanlaw12.AntennaDirections': WHATEVER THE INPUT: true; the input reads as it did. -/
def antennaDirectionsSpec : ChangeSpec := { name := "antennaDirections", fn := fun _ => fun
  | [d1, d2] => { results := [.lit (.bool true)], args := [d1, d2] }
  | _ => none }
def antennaDirectionsRow : OpenClaim := { program := "ythaodhipebadcaadoor", sum := "f21f4440ad67c8c47b173c14ada7092052574f089b2b401cebc4cd897a6d4d97", func := "bandplan/bandplanlaw12.AntennaDirections", spec := "antennaDirections", named := ["bandplan/antenna.quadrants"], apart := false, laid := [("bandplan/antenna.quadrants", laid_bandplan_antenna_quadrants)] }
def AntennaDirectionsSaid : Prop := antennaDirectionsRow.holds Tryd.pinned (OpenSpec.ofChange antennaDirectionsSpec)

/-- ITS FALSE NEIGHBOUR: 'it returns false'. Refute it at one input. -/
def antennaDirectionsWrong : ChangeSpec := { name := "antennaDirections", fn := fun _ => fun
  | [d1, d2] => { results := [.lit (.bool false)], args := [d1, d2] }
  | _ => none }
def AntennaDirectionsWrongFalsely : Prop := antennaDirectionsRow.holds Tryd.pinned (OpenSpec.ofChange antennaDirectionsWrong)

/-- 'bandplanlaw12.AntennaLosses': WHATEVER THE INPUT: true; the input reads as it did. -/
def antennaLossesSpec : ChangeSpec := { name := "antennaLosses", fn := fun _ => fun
  | [d1, d2, d3] => { results := [.lit (.bool true)], args := [d1, d2, d3] }
  | _ => none }
def antennaLossesRow : OpenClaim := { program := "ythaodhipebadcaadoor", sum := "f21f4440ad67c8c47b173c14ada7092052574f089b2b401cebc4cd897a6d4d97", func := "bandplan/bandplanlaw12.AntennaLosses", spec := "antennaLosses", named := ["bandplan/antenna.quadrants"], apart := false, laid := [("bandplan/antenna.quadrants", laid_bandplan_antenna_quadrants)] }
def AntennaLossesSaid : Prop := antennaLossesRow.holds Tryd.pinned (OpenSpec.ofChange antennaLossesSpec)

/-- ITS FALSE NEIGHBOUR: 'it returns false'. Refute it at one input. -/
def antennaLossesWrong : ChangeSpec := { name := "antennaLosses", fn := fun _ => fun
  | [d1, d2, d3] => { results := [.lit (.bool false)], args := [d1, d2, d3] }
  | _ => none }
def AntennaLossesWrongFalsely : Prop := antennaLossesRow.holds Tryd.pinned (OpenSpec.ofChange antennaLossesWrong)

/-- 'bandplanlaw12.AntennaRotates': WHATEVER THE INPUT: true; the input reads as it did. -/
def antennaRotatesSpec : ChangeSpec := { name := "antennaRotates", fn := fun _ => fun
  | [d1, d2] => { results := [.lit (.bool true)], args := [d1, d2] }
  | _ => none }
def antennaRotatesRow : OpenClaim := { program := "ythaodhipebadcaadoor", sum := "f21f4440ad67c8c47b173c14ada7092052574f089b2b401cebc4cd897a6d4d97", func := "bandplan/bandplanlaw12.AntennaRotates", spec := "antennaRotates", named := ["bandplan/antenna.quadrants"], apart := false, laid := [("bandplan/antenna.quadrants", laid_bandplan_antenna_quadrants)] }
def AntennaRotatesSaid : Prop := antennaRotatesRow.holds Tryd.pinned (OpenSpec.ofChange antennaRotatesSpec)

/-- ITS FALSE NEIGHBOUR: 'it returns false'. Refute it at one input. -/
def antennaRotatesWrong : ChangeSpec := { name := "antennaRotates", fn := fun _ => fun
  | [d1, d2] => { results := [.lit (.bool false)], args := [d1, d2] }
  | _ => none }
def AntennaRotatesWrongFalsely : Prop := antennaRotatesRow.holds Tryd.pinned (OpenSpec.ofChange antennaRotatesWrong)

/-- 'bandplanlaw12.AntennaOmnis': WHATEVER THE INPUT: true; the input reads as it did. -/
def antennaOmnisSpec : ChangeSpec := { name := "antennaOmnis", fn := fun _ => fun
  | [d] => { results := [.lit (.bool true)], args := [d] }
  | _ => none }
def antennaOmnisRow : OpenClaim := { program := "ythaodhipebadcaadoor", sum := "f21f4440ad67c8c47b173c14ada7092052574f089b2b401cebc4cd897a6d4d97", func := "bandplan/bandplanlaw12.AntennaOmnis", spec := "antennaOmnis", named := ["bandplan/antenna.quadrants"], apart := false, laid := [("bandplan/antenna.quadrants", laid_bandplan_antenna_quadrants)] }
def AntennaOmnisSaid : Prop := antennaOmnisRow.holds Tryd.pinned (OpenSpec.ofChange antennaOmnisSpec)

/-- ITS FALSE NEIGHBOUR: 'it returns false'. Refute it at one input. -/
def antennaOmnisWrong : ChangeSpec := { name := "antennaOmnis", fn := fun _ => fun
  | [d] => { results := [.lit (.bool false)], args := [d] }
  | _ => none }
def AntennaOmnisWrongFalsely : Prop := antennaOmnisRow.holds Tryd.pinned (OpenSpec.ofChange antennaOmnisWrong)

/-- 'bandplanlaw12.AntennaEnvelopes': WHATEVER THE INPUT: true; the input reads as it did. -/
def antennaEnvelopesSpec : ChangeSpec := { name := "antennaEnvelopes", fn := fun _ => fun
  | [d1, d2] => { results := [.lit (.bool true)], args := [d1, d2] }
  | _ => none }
def antennaEnvelopesRow : OpenClaim := { program := "ythaodhipebadcaadoor", sum := "f21f4440ad67c8c47b173c14ada7092052574f089b2b401cebc4cd897a6d4d97", func := "bandplan/bandplanlaw12.AntennaEnvelopes", spec := "antennaEnvelopes", named := ["bandplan/antenna.quadrants"], apart := false, laid := [("bandplan/antenna.quadrants", laid_bandplan_antenna_quadrants)] }
def AntennaEnvelopesSaid : Prop := antennaEnvelopesRow.holds Tryd.pinned (OpenSpec.ofChange antennaEnvelopesSpec)

/-- ITS FALSE NEIGHBOUR: 'it returns false'. Refute it at one input. -/
def antennaEnvelopesWrong : ChangeSpec := { name := "antennaEnvelopes", fn := fun _ => fun
  | [d1, d2] => { results := [.lit (.bool false)], args := [d1, d2] }
  | _ => none }
def AntennaEnvelopesWrongFalsely : Prop := antennaEnvelopesRow.holds Tryd.pinned (OpenSpec.ofChange antennaEnvelopesWrong)

/-- 'bandplanlaw12.AntennaTurns': WHATEVER THE INPUT: true; the input reads as it did. -/
def antennaTurnsSpec : ChangeSpec := { name := "antennaTurns", fn := fun _ => fun
  | [d1, d2, d3, d4, d5, d6] => { results := [.lit (.bool true)], args := [d1, d2, d3, d4, d5, d6] }
  | _ => none }
def antennaTurnsRow : OpenClaim := { program := "ythaodhipebadcaadoor", sum := "f21f4440ad67c8c47b173c14ada7092052574f089b2b401cebc4cd897a6d4d97", func := "bandplan/bandplanlaw12.AntennaTurns", spec := "antennaTurns", named := ["bandplan/antenna.quadrants"], apart := false, laid := [("bandplan/antenna.quadrants", laid_bandplan_antenna_quadrants)] }
def AntennaTurnsSaid : Prop := antennaTurnsRow.holds Tryd.pinned (OpenSpec.ofChange antennaTurnsSpec)

/-- ITS FALSE NEIGHBOUR: 'it returns false'. Refute it at one input. -/
def antennaTurnsWrong : ChangeSpec := { name := "antennaTurns", fn := fun _ => fun
  | [d1, d2, d3, d4, d5, d6] => { results := [.lit (.bool false)], args := [d1, d2, d3, d4, d5, d6] }
  | _ => none }
def AntennaTurnsWrongFalsely : Prop := antennaTurnsRow.holds Tryd.pinned (OpenSpec.ofChange antennaTurnsWrong)

/-- 'bandplanlaw12.AntennaCopies': WHATEVER THE INPUT: true; the input reads as it did. -/
def antennaCopiesSpec : ChangeSpec := { name := "antennaCopies", fn := fun _ => fun
  | [d1, d2] => { results := [.lit (.bool true)], args := [d1, d2] }
  | _ => none }
def antennaCopiesRow : OpenClaim := { program := "ythaodhipebadcaadoor", sum := "f21f4440ad67c8c47b173c14ada7092052574f089b2b401cebc4cd897a6d4d97", func := "bandplan/bandplanlaw12.AntennaCopies", spec := "antennaCopies", named := ["bandplan/antenna.quadrants"], apart := false, laid := [("bandplan/antenna.quadrants", laid_bandplan_antenna_quadrants)] }
def AntennaCopiesSaid : Prop := antennaCopiesRow.holds Tryd.pinned (OpenSpec.ofChange antennaCopiesSpec)

/-- ITS FALSE NEIGHBOUR: 'it returns false'. Refute it at one input. -/
def antennaCopiesWrong : ChangeSpec := { name := "antennaCopies", fn := fun _ => fun
  | [d1, d2] => { results := [.lit (.bool false)], args := [d1, d2] }
  | _ => none }
def AntennaCopiesWrongFalsely : Prop := antennaCopiesRow.holds Tryd.pinned (OpenSpec.ofChange antennaCopiesWrong)

/- THE SECOND FORM. 'bulk': how many values and letters a reading holds, each counted each time it is reached (what is shared counts as often as it is met; a slice's spare places count too). A statement '..UptoSaid' is the law's where the arguments, and the package variables that the reading takes, are together of bulk at most 1048576: NARROWER than '..Said'. Prove '..Said' where nothing that the law and all that it calls make is longer than what came in: it says more and counts as full. Else prove '..UptoSaid'. A law counts once. -/
mutual
def uptoBulk {H : Type} : DataW H → Nat
  | .lit (.string bytes) => bytes.length + 1
  | .lit _ => 1
  | .nil => 1
  | .ptr d => uptoBulk d + 1
  | .slice elems spare => uptoBulkAll elems + uptoBulkAll spare + 1
  | .agg parts => uptoBulkAll parts + 1
  | .iface _ d => uptoBulk d + 1
  | .map entries => uptoBulkEntries entries + 1
  | .held _ => 1
def uptoBulkAll {H : Type} : List (DataW H) → Nat
  | [] => 0
  | d :: r => uptoBulk d + uptoBulkAll r
def uptoBulkEntries {H : Type} : List (Lit × DataW H) → Nat
  | [] => 0
  | x :: r => uptoBulkEntry x + uptoBulkEntries r
def uptoBulkEntry {H : Type} : Lit × DataW H → Nat
  | (.string bytes, d) => bytes.length + uptoBulk d + 1
  | (_, d) => uptoBulk d + 1
 end
def uptoSmall : (H : Type) → List (DataW H) → Bool := fun _ ds => decide (uptoBulkAll ds ≤ 1048576)
def OpenSpec.upto (s : _root_.Go.ChangeSpec) : _root_.Go.OpenSpec := { _root_.Go.OpenSpec.ofChange s with cond := some uptoSmall }

/-- 'bandplanlaw12.AntennaDirections', WHERE WHAT IT READS IS OF BULK AT MOST 1048576: true; the input reads as it did. -/
def antennaDirectionsUptoRow : OpenClaim := { program := "ythaodhipebadcaadoor", sum := "f21f4440ad67c8c47b173c14ada7092052574f089b2b401cebc4cd897a6d4d97", func := "bandplan/bandplanlaw12.AntennaDirections", spec := "antennaDirections", named := ["bandplan/antenna.quadrants"], apart := false, laid := [("bandplan/antenna.quadrants", laid_bandplan_antenna_quadrants)], narrowed := true }
def AntennaDirectionsUptoSaid : Prop := antennaDirectionsUptoRow.holds Tryd.pinned (OpenSpec.upto antennaDirectionsSpec)

/-- 'bandplanlaw12.AntennaLosses', WHERE WHAT IT READS IS OF BULK AT MOST 1048576: true; the input reads as it did. -/
def antennaLossesUptoRow : OpenClaim := { program := "ythaodhipebadcaadoor", sum := "f21f4440ad67c8c47b173c14ada7092052574f089b2b401cebc4cd897a6d4d97", func := "bandplan/bandplanlaw12.AntennaLosses", spec := "antennaLosses", named := ["bandplan/antenna.quadrants"], apart := false, laid := [("bandplan/antenna.quadrants", laid_bandplan_antenna_quadrants)], narrowed := true }
def AntennaLossesUptoSaid : Prop := antennaLossesUptoRow.holds Tryd.pinned (OpenSpec.upto antennaLossesSpec)

/-- 'bandplanlaw12.AntennaRotates', WHERE WHAT IT READS IS OF BULK AT MOST 1048576: true; the input reads as it did. -/
def antennaRotatesUptoRow : OpenClaim := { program := "ythaodhipebadcaadoor", sum := "f21f4440ad67c8c47b173c14ada7092052574f089b2b401cebc4cd897a6d4d97", func := "bandplan/bandplanlaw12.AntennaRotates", spec := "antennaRotates", named := ["bandplan/antenna.quadrants"], apart := false, laid := [("bandplan/antenna.quadrants", laid_bandplan_antenna_quadrants)], narrowed := true }
def AntennaRotatesUptoSaid : Prop := antennaRotatesUptoRow.holds Tryd.pinned (OpenSpec.upto antennaRotatesSpec)

/-- 'bandplanlaw12.AntennaOmnis', WHERE WHAT IT READS IS OF BULK AT MOST 1048576: true; the input reads as it did. -/
def antennaOmnisUptoRow : OpenClaim := { program := "ythaodhipebadcaadoor", sum := "f21f4440ad67c8c47b173c14ada7092052574f089b2b401cebc4cd897a6d4d97", func := "bandplan/bandplanlaw12.AntennaOmnis", spec := "antennaOmnis", named := ["bandplan/antenna.quadrants"], apart := false, laid := [("bandplan/antenna.quadrants", laid_bandplan_antenna_quadrants)], narrowed := true }
def AntennaOmnisUptoSaid : Prop := antennaOmnisUptoRow.holds Tryd.pinned (OpenSpec.upto antennaOmnisSpec)

/-- 'bandplanlaw12.AntennaEnvelopes', WHERE WHAT IT READS IS OF BULK AT MOST 1048576: true; the input reads as it did. -/
def antennaEnvelopesUptoRow : OpenClaim := { program := "ythaodhipebadcaadoor", sum := "f21f4440ad67c8c47b173c14ada7092052574f089b2b401cebc4cd897a6d4d97", func := "bandplan/bandplanlaw12.AntennaEnvelopes", spec := "antennaEnvelopes", named := ["bandplan/antenna.quadrants"], apart := false, laid := [("bandplan/antenna.quadrants", laid_bandplan_antenna_quadrants)], narrowed := true }
def AntennaEnvelopesUptoSaid : Prop := antennaEnvelopesUptoRow.holds Tryd.pinned (OpenSpec.upto antennaEnvelopesSpec)

/-- 'bandplanlaw12.AntennaTurns', WHERE WHAT IT READS IS OF BULK AT MOST 1048576: true; the input reads as it did. -/
def antennaTurnsUptoRow : OpenClaim := { program := "ythaodhipebadcaadoor", sum := "f21f4440ad67c8c47b173c14ada7092052574f089b2b401cebc4cd897a6d4d97", func := "bandplan/bandplanlaw12.AntennaTurns", spec := "antennaTurns", named := ["bandplan/antenna.quadrants"], apart := false, laid := [("bandplan/antenna.quadrants", laid_bandplan_antenna_quadrants)], narrowed := true }
def AntennaTurnsUptoSaid : Prop := antennaTurnsUptoRow.holds Tryd.pinned (OpenSpec.upto antennaTurnsSpec)

/-- 'bandplanlaw12.AntennaCopies', WHERE WHAT IT READS IS OF BULK AT MOST 1048576: true; the input reads as it did. -/
def antennaCopiesUptoRow : OpenClaim := { program := "ythaodhipebadcaadoor", sum := "f21f4440ad67c8c47b173c14ada7092052574f089b2b401cebc4cd897a6d4d97", func := "bandplan/bandplanlaw12.AntennaCopies", spec := "antennaCopies", named := ["bandplan/antenna.quadrants"], apart := false, laid := [("bandplan/antenna.quadrants", laid_bandplan_antenna_quadrants)], narrowed := true }
def AntennaCopiesUptoSaid : Prop := antennaCopiesUptoRow.holds Tryd.pinned (OpenSpec.upto antennaCopiesSpec)

end Rows
end Go.Proofs.YthaodhipebadcaaDoor
