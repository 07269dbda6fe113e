/-
  DERIVED. GIVEN WITH THE SEED: THE CARDS: each row of YtfgobighpkemkaaDoorRows.lean that lists a variable, with what it lists TIED to the program's text (the seventh form; the later family's looks); each row that meets fmt, with fmt's text TOLD by the authors' own Lean function (tested against real Go, not proved from fmt's source: count such statements apart). THE CARD IS WHAT COUNTS. Prove the row's statement (the work); the ties are given (YtfgobighpkemkaaDoorTie.lean); close each card by the builder's one call (the guide's Derived/Test/ToyasCard.lean, 'card_holds'). Laid BY PROGRAM, IN A SANDBOX (cutbox-door.mjs). By AI agents, Wed Nov 11 2026. No macro, syntax, notation, axiom, sorry.
-/
import Derived.Test.YtfgobighpkemkaaDoorRows
import GoSem.ClaimSeven
namespace Go.Proofs.YtfgobighpkemkaaDoor
namespace Rows

/-- THE TIED CARD OF 'bandplanlaw29.DescendValid'. -/
def descendValidCard : Claim7 := { stood := { row := descendValidRow, standIns := [], harness := (true, "1fc48869bcfa273b276024c3467d12cb925749cf955d1d335e78ec6f1209dcf3"), looks := false }, kinds := [], alts := [], laidByText := true, laidKinds := [.data], laidTests := true, laidLooks := .later }
def DescendValidCardSaid : Prop := Claim7.holds Tryd.pinned (.plain (OpenSpec.ofChange descendValidSpec)) descendValidCard

/-- THE TIED CARD OF 'bandplanlaw29.DescendNext'. -/
def descendNextCard : Claim7 := { stood := { row := descendNextRow, standIns := [], harness := (true, "1fc48869bcfa273b276024c3467d12cb925749cf955d1d335e78ec6f1209dcf3"), looks := false }, kinds := [], alts := [], laidByText := true, laidKinds := [.data], laidTests := true, laidLooks := .later }
def DescendNextCardSaid : Prop := Claim7.holds Tryd.pinned (.plain (OpenSpec.ofChange descendNextSpec)) descendNextCard

/-- THE TIED CARD OF 'bandplanlaw29.DescendAfter'. -/
def descendAfterCard : Claim7 := { stood := { row := descendAfterRow, standIns := [], harness := (true, "1fc48869bcfa273b276024c3467d12cb925749cf955d1d335e78ec6f1209dcf3"), looks := false }, kinds := [], alts := [], laidByText := true, laidKinds := [.data], laidTests := true, laidLooks := .later }
def DescendAfterCardSaid : Prop := Claim7.holds Tryd.pinned (.plain (OpenSpec.ofChange descendAfterSpec)) descendAfterCard

/-- THE TIED CARD OF 'bandplanlaw29.DescendBases'. -/
def descendBasesCard : Claim7 := { stood := { row := descendBasesRow, standIns := [], harness := (true, "1fc48869bcfa273b276024c3467d12cb925749cf955d1d335e78ec6f1209dcf3"), looks := false }, kinds := [], alts := [], laidByText := true, laidKinds := [.data], laidTests := true, laidLooks := .later }
def DescendBasesCardSaid : Prop := Claim7.holds Tryd.pinned (.plain (OpenSpec.ofChange descendBasesSpec)) descendBasesCard

/-- THE TIED CARD OF 'bandplanlaw29.DescendPrice'. -/
def descendPriceCard : Claim7 := { stood := { row := descendPriceRow, standIns := [], harness := (true, "1fc48869bcfa273b276024c3467d12cb925749cf955d1d335e78ec6f1209dcf3"), looks := false }, kinds := [], alts := [], laidByText := true, laidKinds := [.data], laidTests := true, laidLooks := .later }
def DescendPriceCardSaid : Prop := Claim7.holds Tryd.pinned (.plain (OpenSpec.ofChange descendPriceSpec)) descendPriceCard

/-- THE TIED CARD OF 'bandplanlaw29.DescendHolds'. -/
def descendHoldsCard : Claim7 := { stood := { row := descendHoldsRow, standIns := [], harness := (true, "1fc48869bcfa273b276024c3467d12cb925749cf955d1d335e78ec6f1209dcf3"), looks := false }, kinds := [], alts := [], laidByText := true, laidKinds := [.data], laidTests := true, laidLooks := .later }
def DescendHoldsCardSaid : Prop := Claim7.holds Tryd.pinned (.plain (OpenSpec.ofChange descendHoldsSpec)) descendHoldsCard

/-- THE TIED CARD OF 'bandplanlaw29.DescendNew'. -/
def descendNewCard : Claim7 := { stood := { row := descendNewRow, standIns := [], harness := (true, "1fc48869bcfa273b276024c3467d12cb925749cf955d1d335e78ec6f1209dcf3"), looks := false }, kinds := [], alts := [], laidByText := true, laidKinds := [.data], laidTests := true, laidLooks := .later }
def DescendNewCardSaid : Prop := Claim7.holds Tryd.pinned (.plain (OpenSpec.ofChange descendNewSpec)) descendNewCard

/-- THE SECOND FORM's CARD OF 'bandplanlaw29.DescendValid'. -/
def descendValidUptoCard : Claim7 := { stood := { row := descendValidUptoRow, standIns := [], harness := (true, "1fc48869bcfa273b276024c3467d12cb925749cf955d1d335e78ec6f1209dcf3"), looks := false }, kinds := [], alts := [], laidByText := true, laidKinds := [.data], laidTests := true, laidLooks := .later }
def DescendValidUptoCardSaid : Prop := Claim7.holds Tryd.pinned (.plain (OpenSpec.upto descendValidSpec)) descendValidUptoCard

/-- THE SECOND FORM's CARD OF 'bandplanlaw29.DescendNext'. -/
def descendNextUptoCard : Claim7 := { stood := { row := descendNextUptoRow, standIns := [], harness := (true, "1fc48869bcfa273b276024c3467d12cb925749cf955d1d335e78ec6f1209dcf3"), looks := false }, kinds := [], alts := [], laidByText := true, laidKinds := [.data], laidTests := true, laidLooks := .later }
def DescendNextUptoCardSaid : Prop := Claim7.holds Tryd.pinned (.plain (OpenSpec.upto descendNextSpec)) descendNextUptoCard

/-- THE SECOND FORM's CARD OF 'bandplanlaw29.DescendAfter'. -/
def descendAfterUptoCard : Claim7 := { stood := { row := descendAfterUptoRow, standIns := [], harness := (true, "1fc48869bcfa273b276024c3467d12cb925749cf955d1d335e78ec6f1209dcf3"), looks := false }, kinds := [], alts := [], laidByText := true, laidKinds := [.data], laidTests := true, laidLooks := .later }
def DescendAfterUptoCardSaid : Prop := Claim7.holds Tryd.pinned (.plain (OpenSpec.upto descendAfterSpec)) descendAfterUptoCard

/-- THE SECOND FORM's CARD OF 'bandplanlaw29.DescendBases'. -/
def descendBasesUptoCard : Claim7 := { stood := { row := descendBasesUptoRow, standIns := [], harness := (true, "1fc48869bcfa273b276024c3467d12cb925749cf955d1d335e78ec6f1209dcf3"), looks := false }, kinds := [], alts := [], laidByText := true, laidKinds := [.data], laidTests := true, laidLooks := .later }
def DescendBasesUptoCardSaid : Prop := Claim7.holds Tryd.pinned (.plain (OpenSpec.upto descendBasesSpec)) descendBasesUptoCard

/-- THE SECOND FORM's CARD OF 'bandplanlaw29.DescendPrice'. -/
def descendPriceUptoCard : Claim7 := { stood := { row := descendPriceUptoRow, standIns := [], harness := (true, "1fc48869bcfa273b276024c3467d12cb925749cf955d1d335e78ec6f1209dcf3"), looks := false }, kinds := [], alts := [], laidByText := true, laidKinds := [.data], laidTests := true, laidLooks := .later }
def DescendPriceUptoCardSaid : Prop := Claim7.holds Tryd.pinned (.plain (OpenSpec.upto descendPriceSpec)) descendPriceUptoCard

/-- THE SECOND FORM's CARD OF 'bandplanlaw29.DescendHolds'. -/
def descendHoldsUptoCard : Claim7 := { stood := { row := descendHoldsUptoRow, standIns := [], harness := (true, "1fc48869bcfa273b276024c3467d12cb925749cf955d1d335e78ec6f1209dcf3"), looks := false }, kinds := [], alts := [], laidByText := true, laidKinds := [.data], laidTests := true, laidLooks := .later }
def DescendHoldsUptoCardSaid : Prop := Claim7.holds Tryd.pinned (.plain (OpenSpec.upto descendHoldsSpec)) descendHoldsUptoCard

/-- THE SECOND FORM's CARD OF 'bandplanlaw29.DescendNew'. -/
def descendNewUptoCard : Claim7 := { stood := { row := descendNewUptoRow, standIns := [], harness := (true, "1fc48869bcfa273b276024c3467d12cb925749cf955d1d335e78ec6f1209dcf3"), looks := false }, kinds := [], alts := [], laidByText := true, laidKinds := [.data], laidTests := true, laidLooks := .later }
def DescendNewUptoCardSaid : Prop := Claim7.holds Tryd.pinned (.plain (OpenSpec.upto descendNewSpec)) descendNewUptoCard
end Rows
end Go.Proofs.YtfgobighpkemkaaDoor
