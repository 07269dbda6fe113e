/-
  NARROWER THAN 'FOR EVERY INPUT', by the rows' own cells (each row's printed sentence says how): DescendValid: laid · DescendNext: laid · DescendAfter: laid · DescendBases: laid · DescendPrice: laid · DescendHolds: laid · DescendNew: laid.
  DERIVED. THE GIVEN ROWS OF THIS SEAT. 7 by the template 'for every input the law returns true; each argument reads behind the call as it read before'; 0 by the template 'total and deterministic' (their statements: YtfgobighpkemkaaDoorTotals.lean).
  GIVEN WITH THE SEED: the statements are not yours to turn. If you find one false, say at which input.
  Laid BY PROGRAM, IN A SANDBOX (cutbox-rows.mjs): the forced cells as the released guide's own fill.sh prints them over the translation c41a29552ccea59d… (all of the seat's roots in one cut). By AI agents, Wed Nov 11 2026. No macro, syntax, notation, axiom, sorry.
-/
import Derived.Test.YtfgobighpkemkaaDoorChecked
import GoSem.Claim
import GoSem.ClaimJoined
import GoSem.ClaimMapViews
import Derived.JoinedTies
import Derived.KernelRfl
namespace Go.Proofs.YtfgobighpkemkaaDoor
/- THE CELL 'sum', in the pinned program and in every row, IS THE sha256 OF THE DUMP (.gsa) THAT YtfgobighpkemkaaDoorProg.lean LOADS. Nothing in Lean hashes anything: it is a label: what it is worth is what the hold of that sum in a sandbox is worth. -/
noncomputable def Tryd.pinned : Pinned := { name := "ytfgobighpkemkaadoor", sum := "c41a29552ccea59ddb6ad4c82360987d591c43209aba74ff3659c97f958464f9", checked := Tryd.checked }
namespace Rows
def none {H : Type} : Left H := { results := [], args := [] }

/- WHAT THE LISTED PACKAGE-LEVEL VARIABLES READ AS WHEN THE CALL BEGINS. Each datum BY PROGRAM (the guide's laid-datum.mjs) off the statement by which the dump's own 'gosem.cut.vars' lays the variable. In a bare row this is a premise. The card (YtfgobighpkemkaaDoorCards.lean) ties it to the program's text. -/
def laid_bandplan_score_worths {H : Type} : DataW H := .agg [.lit (.int .i64 0), .lit (.int .i64 250), .lit (.int .i64 600), .lit (.int .i64 1000)]

/-- 'bandplanlaw29.DescendValid': WHATEVER THE INPUT: true; the input reads as it did. -/
def descendValidSpec : ChangeSpec := { name := "descendValid", fn := fun _ => fun
  | [d] => { results := [.lit (.bool true)], args := [d] }
  | _ => none }
def descendValidRow : OpenClaim := { program := "ytfgobighpkemkaadoor", sum := "c41a29552ccea59ddb6ad4c82360987d591c43209aba74ff3659c97f958464f9", func := "bandplan/bandplanlaw29.DescendValid", spec := "descendValid", unfollowed := true, recurses := true, named := ["bandplan/score.worths"], apart := false, laid := [("bandplan/score.worths", laid_bandplan_score_worths)] }
def DescendValidSaid : Prop := descendValidRow.holds Tryd.pinned (OpenSpec.ofChange descendValidSpec)

/-- ITS FALSE NEIGHBOUR: 'it returns false'. Refute it at one input. -/
def descendValidWrong : ChangeSpec := { name := "descendValid", fn := fun _ => fun
  | [d] => { results := [.lit (.bool false)], args := [d] }
  | _ => none }
def DescendValidWrongFalsely : Prop := descendValidRow.holds Tryd.pinned (OpenSpec.ofChange descendValidWrong)

/-- 'bandplanlaw29.DescendNext': WHATEVER THE INPUT: true; the input reads as it did. -/
def descendNextSpec : ChangeSpec := { name := "descendNext", fn := fun _ => fun
  | [d] => { results := [.lit (.bool true)], args := [d] }
  | _ => none }
def descendNextRow : OpenClaim := { program := "ytfgobighpkemkaadoor", sum := "c41a29552ccea59ddb6ad4c82360987d591c43209aba74ff3659c97f958464f9", func := "bandplan/bandplanlaw29.DescendNext", spec := "descendNext", unfollowed := true, recurses := true, named := ["bandplan/score.worths"], apart := false, laid := [("bandplan/score.worths", laid_bandplan_score_worths)] }
def DescendNextSaid : Prop := descendNextRow.holds Tryd.pinned (OpenSpec.ofChange descendNextSpec)

/-- ITS FALSE NEIGHBOUR: 'it returns false'. Refute it at one input. -/
def descendNextWrong : ChangeSpec := { name := "descendNext", fn := fun _ => fun
  | [d] => { results := [.lit (.bool false)], args := [d] }
  | _ => none }
def DescendNextWrongFalsely : Prop := descendNextRow.holds Tryd.pinned (OpenSpec.ofChange descendNextWrong)

/-- 'bandplanlaw29.DescendAfter': WHATEVER THE INPUT: true; the input reads as it did. -/
def descendAfterSpec : ChangeSpec := { name := "descendAfter", fn := fun _ => fun
  | [d1, d2] => { results := [.lit (.bool true)], args := [d1, d2] }
  | _ => none }
def descendAfterRow : OpenClaim := { program := "ytfgobighpkemkaadoor", sum := "c41a29552ccea59ddb6ad4c82360987d591c43209aba74ff3659c97f958464f9", func := "bandplan/bandplanlaw29.DescendAfter", spec := "descendAfter", unfollowed := true, recurses := true, named := ["bandplan/score.worths"], apart := false, laid := [("bandplan/score.worths", laid_bandplan_score_worths)] }
def DescendAfterSaid : Prop := descendAfterRow.holds Tryd.pinned (OpenSpec.ofChange descendAfterSpec)

/-- ITS FALSE NEIGHBOUR: 'it returns false'. Refute it at one input. -/
def descendAfterWrong : ChangeSpec := { name := "descendAfter", fn := fun _ => fun
  | [d1, d2] => { results := [.lit (.bool false)], args := [d1, d2] }
  | _ => none }
def DescendAfterWrongFalsely : Prop := descendAfterRow.holds Tryd.pinned (OpenSpec.ofChange descendAfterWrong)

/-- 'bandplanlaw29.DescendBases': WHATEVER THE INPUT: true; the input reads as it did. -/
def descendBasesSpec : ChangeSpec := { name := "descendBases", fn := fun _ => fun
  | [d1, d2] => { results := [.lit (.bool true)], args := [d1, d2] }
  | _ => none }
def descendBasesRow : OpenClaim := { program := "ytfgobighpkemkaadoor", sum := "c41a29552ccea59ddb6ad4c82360987d591c43209aba74ff3659c97f958464f9", func := "bandplan/bandplanlaw29.DescendBases", spec := "descendBases", unfollowed := true, recurses := true, named := ["bandplan/score.worths"], apart := false, laid := [("bandplan/score.worths", laid_bandplan_score_worths)] }
def DescendBasesSaid : Prop := descendBasesRow.holds Tryd.pinned (OpenSpec.ofChange descendBasesSpec)

/-- ITS FALSE NEIGHBOUR: 'it returns false'. Refute it at one input. -/
def descendBasesWrong : ChangeSpec := { name := "descendBases", fn := fun _ => fun
  | [d1, d2] => { results := [.lit (.bool false)], args := [d1, d2] }
  | _ => none }
def DescendBasesWrongFalsely : Prop := descendBasesRow.holds Tryd.pinned (OpenSpec.ofChange descendBasesWrong)

/-- 'bandplanlaw29.DescendPrice': WHATEVER THE INPUT: true; the input reads as it did. -/
def descendPriceSpec : ChangeSpec := { name := "descendPrice", fn := fun _ => fun
  | [d1, d2, d3, d4] => { results := [.lit (.bool true)], args := [d1, d2, d3, d4] }
  | _ => none }
def descendPriceRow : OpenClaim := { program := "ytfgobighpkemkaadoor", sum := "c41a29552ccea59ddb6ad4c82360987d591c43209aba74ff3659c97f958464f9", func := "bandplan/bandplanlaw29.DescendPrice", spec := "descendPrice", unfollowed := true, recurses := true, named := ["bandplan/score.worths"], apart := false, laid := [("bandplan/score.worths", laid_bandplan_score_worths)] }
def DescendPriceSaid : Prop := descendPriceRow.holds Tryd.pinned (OpenSpec.ofChange descendPriceSpec)

/-- ITS FALSE NEIGHBOUR: 'it returns false'. Refute it at one input. -/
def descendPriceWrong : ChangeSpec := { name := "descendPrice", fn := fun _ => fun
  | [d1, d2, d3, d4] => { results := [.lit (.bool false)], args := [d1, d2, d3, d4] }
  | _ => none }
def DescendPriceWrongFalsely : Prop := descendPriceRow.holds Tryd.pinned (OpenSpec.ofChange descendPriceWrong)

/-- 'bandplanlaw29.DescendHolds': WHATEVER THE INPUT: true; the input reads as it did. -/
def descendHoldsSpec : ChangeSpec := { name := "descendHolds", fn := fun _ => fun
  | [d1, d2, d3, d4] => { results := [.lit (.bool true)], args := [d1, d2, d3, d4] }
  | _ => none }
def descendHoldsRow : OpenClaim := { program := "ytfgobighpkemkaadoor", sum := "c41a29552ccea59ddb6ad4c82360987d591c43209aba74ff3659c97f958464f9", func := "bandplan/bandplanlaw29.DescendHolds", spec := "descendHolds", unfollowed := true, recurses := true, named := ["bandplan/score.worths"], apart := false, laid := [("bandplan/score.worths", laid_bandplan_score_worths)] }
def DescendHoldsSaid : Prop := descendHoldsRow.holds Tryd.pinned (OpenSpec.ofChange descendHoldsSpec)

/-- ITS FALSE NEIGHBOUR: 'it returns false'. Refute it at one input. -/
def descendHoldsWrong : ChangeSpec := { name := "descendHolds", fn := fun _ => fun
  | [d1, d2, d3, d4] => { results := [.lit (.bool false)], args := [d1, d2, d3, d4] }
  | _ => none }
def DescendHoldsWrongFalsely : Prop := descendHoldsRow.holds Tryd.pinned (OpenSpec.ofChange descendHoldsWrong)

/-- 'bandplanlaw29.DescendNew': WHATEVER THE INPUT: true; the input reads as it did. -/
def descendNewSpec : ChangeSpec := { name := "descendNew", fn := fun _ => fun
  | [d] => { results := [.lit (.bool true)], args := [d] }
  | _ => none }
def descendNewRow : OpenClaim := { program := "ytfgobighpkemkaadoor", sum := "c41a29552ccea59ddb6ad4c82360987d591c43209aba74ff3659c97f958464f9", func := "bandplan/bandplanlaw29.DescendNew", spec := "descendNew", unfollowed := true, recurses := true, named := ["bandplan/score.worths"], apart := false, laid := [("bandplan/score.worths", laid_bandplan_score_worths)] }
def DescendNewSaid : Prop := descendNewRow.holds Tryd.pinned (OpenSpec.ofChange descendNewSpec)

/-- ITS FALSE NEIGHBOUR: 'it returns false'. Refute it at one input. -/
def descendNewWrong : ChangeSpec := { name := "descendNew", fn := fun _ => fun
  | [d] => { results := [.lit (.bool false)], args := [d] }
  | _ => none }
def DescendNewWrongFalsely : Prop := descendNewRow.holds Tryd.pinned (OpenSpec.ofChange descendNewWrong)

/- THE SECOND FORM. 'bulk': how many values and letters a reading holds, each counted each time it is reached (what is shared counts as often as it is met; a slice's spare places count too). A statement '..UptoSaid' is the law's where the arguments, and the package variables that the reading takes, are together of bulk at most 1048576: NARROWER than '..Said'. Prove '..Said' where nothing that the law and all that it calls make is longer than what came in: it says more and counts as full. Else prove '..UptoSaid'. A law counts once. -/
mutual
def uptoBulk {H : Type} : DataW H → Nat
  | .lit (.string bytes) => bytes.length + 1
  | .lit _ => 1
  | .nil => 1
  | .ptr d => uptoBulk d + 1
  | .slice elems spare => uptoBulkAll elems + uptoBulkAll spare + 1
  | .agg parts => uptoBulkAll parts + 1
  | .iface _ d => uptoBulk d + 1
  | .map entries => uptoBulkEntries entries + 1
  | .held _ => 1
def uptoBulkAll {H : Type} : List (DataW H) → Nat
  | [] => 0
  | d :: r => uptoBulk d + uptoBulkAll r
def uptoBulkEntries {H : Type} : List (Lit × DataW H) → Nat
  | [] => 0
  | x :: r => uptoBulkEntry x + uptoBulkEntries r
def uptoBulkEntry {H : Type} : Lit × DataW H → Nat
  | (.string bytes, d) => bytes.length + uptoBulk d + 1
  | (_, d) => uptoBulk d + 1
 end
def uptoSmall : (H : Type) → List (DataW H) → Bool := fun _ ds => decide (uptoBulkAll ds ≤ 1048576)
def OpenSpec.upto (s : _root_.Go.ChangeSpec) : _root_.Go.OpenSpec := { _root_.Go.OpenSpec.ofChange s with cond := some uptoSmall }

/-- 'bandplanlaw29.DescendValid', WHERE WHAT IT READS IS OF BULK AT MOST 1048576: true; the input reads as it did. -/
def descendValidUptoRow : OpenClaim := { program := "ytfgobighpkemkaadoor", sum := "c41a29552ccea59ddb6ad4c82360987d591c43209aba74ff3659c97f958464f9", func := "bandplan/bandplanlaw29.DescendValid", spec := "descendValid", unfollowed := true, recurses := true, named := ["bandplan/score.worths"], apart := false, laid := [("bandplan/score.worths", laid_bandplan_score_worths)], narrowed := true }
def DescendValidUptoSaid : Prop := descendValidUptoRow.holds Tryd.pinned (OpenSpec.upto descendValidSpec)

/-- 'bandplanlaw29.DescendNext', WHERE WHAT IT READS IS OF BULK AT MOST 1048576: true; the input reads as it did. -/
def descendNextUptoRow : OpenClaim := { program := "ytfgobighpkemkaadoor", sum := "c41a29552ccea59ddb6ad4c82360987d591c43209aba74ff3659c97f958464f9", func := "bandplan/bandplanlaw29.DescendNext", spec := "descendNext", unfollowed := true, recurses := true, named := ["bandplan/score.worths"], apart := false, laid := [("bandplan/score.worths", laid_bandplan_score_worths)], narrowed := true }
def DescendNextUptoSaid : Prop := descendNextUptoRow.holds Tryd.pinned (OpenSpec.upto descendNextSpec)

/-- 'bandplanlaw29.DescendAfter', WHERE WHAT IT READS IS OF BULK AT MOST 1048576: true; the input reads as it did. -/
def descendAfterUptoRow : OpenClaim := { program := "ytfgobighpkemkaadoor", sum := "c41a29552ccea59ddb6ad4c82360987d591c43209aba74ff3659c97f958464f9", func := "bandplan/bandplanlaw29.DescendAfter", spec := "descendAfter", unfollowed := true, recurses := true, named := ["bandplan/score.worths"], apart := false, laid := [("bandplan/score.worths", laid_bandplan_score_worths)], narrowed := true }
def DescendAfterUptoSaid : Prop := descendAfterUptoRow.holds Tryd.pinned (OpenSpec.upto descendAfterSpec)

/-- 'bandplanlaw29.DescendBases', WHERE WHAT IT READS IS OF BULK AT MOST 1048576: true; the input reads as it did. -/
def descendBasesUptoRow : OpenClaim := { program := "ytfgobighpkemkaadoor", sum := "c41a29552ccea59ddb6ad4c82360987d591c43209aba74ff3659c97f958464f9", func := "bandplan/bandplanlaw29.DescendBases", spec := "descendBases", unfollowed := true, recurses := true, named := ["bandplan/score.worths"], apart := false, laid := [("bandplan/score.worths", laid_bandplan_score_worths)], narrowed := true }
def DescendBasesUptoSaid : Prop := descendBasesUptoRow.holds Tryd.pinned (OpenSpec.upto descendBasesSpec)

/-- 'bandplanlaw29.DescendPrice', WHERE WHAT IT READS IS OF BULK AT MOST 1048576: true; the input reads as it did. -/
def descendPriceUptoRow : OpenClaim := { program := "ytfgobighpkemkaadoor", sum := "c41a29552ccea59ddb6ad4c82360987d591c43209aba74ff3659c97f958464f9", func := "bandplan/bandplanlaw29.DescendPrice", spec := "descendPrice", unfollowed := true, recurses := true, named := ["bandplan/score.worths"], apart := false, laid := [("bandplan/score.worths", laid_bandplan_score_worths)], narrowed := true }
def DescendPriceUptoSaid : Prop := descendPriceUptoRow.holds Tryd.pinned (OpenSpec.upto descendPriceSpec)

/-- 'bandplanlaw29.DescendHolds', WHERE WHAT IT READS IS OF BULK AT MOST 1048576: true; the input reads as it did. -/
def descendHoldsUptoRow : OpenClaim := { program := "ytfgobighpkemkaadoor", sum := "c41a29552ccea59ddb6ad4c82360987d591c43209aba74ff3659c97f958464f9", func := "bandplan/bandplanlaw29.DescendHolds", spec := "descendHolds", unfollowed := true, recurses := true, named := ["bandplan/score.worths"], apart := false, laid := [("bandplan/score.worths", laid_bandplan_score_worths)], narrowed := true }
def DescendHoldsUptoSaid : Prop := descendHoldsUptoRow.holds Tryd.pinned (OpenSpec.upto descendHoldsSpec)

/-- 'bandplanlaw29.DescendNew', WHERE WHAT IT READS IS OF BULK AT MOST 1048576: true; the input reads as it did. -/
def descendNewUptoRow : OpenClaim := { program := "ytfgobighpkemkaadoor", sum := "c41a29552ccea59ddb6ad4c82360987d591c43209aba74ff3659c97f958464f9", func := "bandplan/bandplanlaw29.DescendNew", spec := "descendNew", unfollowed := true, recurses := true, named := ["bandplan/score.worths"], apart := false, laid := [("bandplan/score.worths", laid_bandplan_score_worths)], narrowed := true }
def DescendNewUptoSaid : Prop := descendNewUptoRow.holds Tryd.pinned (OpenSpec.upto descendNewSpec)

end Rows
end Go.Proofs.YtfgobighpkemkaaDoor
