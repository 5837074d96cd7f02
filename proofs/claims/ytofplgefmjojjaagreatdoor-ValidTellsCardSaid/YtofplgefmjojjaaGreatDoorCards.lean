/-
  DERIVED. GIVEN WITH THE SEED: THE CARDS: each row of YtofplgefmjojjaaGreatDoorRows.lean that lists a variable, with what it lists TIED to the program's text (the seventh form; the later family's looks); each row that meets fmt, with fmt's text TOLD by the authors' own Lean function (tested against real Go, not proved from fmt's source: count such statements apart). THE CARD IS WHAT COUNTS. Prove the row's statement (the work); the ties are given (YtofplgefmjojjaaGreatDoorTie.lean); close each card by the builder's one call (the guide's Derived/Test/ToyasCard.lean, 'card_holds'). Laid BY PROGRAM, IN A SANDBOX (cutbox-door.mjs). By AI agents, Wed Nov 11 2026. No macro, syntax, notation, axiom, sorry.
-/
import Derived.Test.YtofplgefmjojjaaGreatDoorRows
import GoSem.ClaimSeven
namespace Go.Proofs.YtofplgefmjojjaaGreatDoor
namespace Rows

/-- THE TIED CARD OF 'straitlaw13.SimpleTurns'. -/
def simpleTurnsCard : Claim7 := { stood := { row := simpleTurnsRow, standIns := [], harness := (true, "c7018ecceb6036b5a31e2e19f82237f403217957499646685f2a33348245497d"), looks := false }, kinds := [], alts := [], laidByText := true, laidKinds := [.data], laidTests := true, laidLooks := .later }
def SimpleTurnsCardSaid : Prop := Claim7.holds Tryz.pinned (.plain (OpenSpec.ofChange simpleTurnsSpec)) simpleTurnsCard

/-- THE TIED CARD OF 'straitlaw13.SimpleConvex'. -/
def simpleConvexCard : Claim7 := { stood := { row := simpleConvexRow, standIns := [], harness := (true, "c7018ecceb6036b5a31e2e19f82237f403217957499646685f2a33348245497d"), looks := false }, kinds := [], alts := [], laidByText := true, laidKinds := [.data], laidTests := true, laidLooks := .later }
def SimpleConvexCardSaid : Prop := Claim7.holds Tryz.pinned (.plain (OpenSpec.ofChange simpleConvexSpec)) simpleConvexCard

/-- THE TIED CARD OF 'straitlaw13.SimpleTwice'. -/
def simpleTwiceCard : Claim7 := { stood := { row := simpleTwiceRow, standIns := [], harness := (true, "c7018ecceb6036b5a31e2e19f82237f403217957499646685f2a33348245497d"), looks := false }, kinds := [], alts := [], laidByText := true, laidKinds := [.data], laidTests := true, laidLooks := .later }
def SimpleTwiceCardSaid : Prop := Claim7.holds Tryz.pinned (.plain (OpenSpec.ofChange simpleTwiceSpec)) simpleTwiceCard

/-- THE TIED CARD OF 'straitlaw14.ValidTells'. -/
def validTellsCard : Claim7 := { stood := { row := validTellsRow, standIns := [], harness := (true, "c7018ecceb6036b5a31e2e19f82237f403217957499646685f2a33348245497d"), looks := false }, kinds := [], alts := [], laidByText := true, laidKinds := [.data], laidTests := true, laidLooks := .later }
def ValidTellsCardSaid : Prop := Claim7.holds Tryz.pinned (.plain (OpenSpec.ofChange validTellsSpec)) validTellsCard

/-- THE TIED CARD OF 'straitlaw14.ValidTurns'. -/
def validTurnsCard : Claim7 := { stood := { row := validTurnsRow, standIns := [], harness := (true, "c7018ecceb6036b5a31e2e19f82237f403217957499646685f2a33348245497d"), looks := false }, kinds := [], alts := [], laidByText := true, laidKinds := [.data], laidTests := true, laidLooks := .later }
def ValidTurnsCardSaid : Prop := Claim7.holds Tryz.pinned (.plain (OpenSpec.ofChange validTurnsSpec)) validTurnsCard

/-- THE TIED CARD OF 'straitlaw14.ValidText'. -/
def validTextCard : Claim7 := { stood := { row := validTextRow, standIns := [], harness := (true, "c7018ecceb6036b5a31e2e19f82237f403217957499646685f2a33348245497d"), looks := false }, kinds := [], alts := [], laidByText := true, laidKinds := [.data], laidTests := true, laidLooks := .later }
def ValidTextCardSaid : Prop := Claim7.holds Tryz.pinned (.plain (OpenSpec.ofChange validTextSpec)) validTextCard

/-- THE TIED CARD OF 'straitlaw14.ValidFirst'. -/
def validFirstCard : Claim7 := { stood := { row := validFirstRow, standIns := [], harness := (true, "c7018ecceb6036b5a31e2e19f82237f403217957499646685f2a33348245497d"), looks := false }, kinds := [], alts := [], laidByText := true, laidKinds := [.data], laidTests := true, laidLooks := .later }
def ValidFirstCardSaid : Prop := Claim7.holds Tryz.pinned (.plain (OpenSpec.ofChange validFirstSpec)) validFirstCard

/-- THE TIED CARD OF 'straitlaw14.ValidCounts'. -/
def validCountsCard : Claim7 := { stood := { row := validCountsRow, standIns := [], harness := (true, "c7018ecceb6036b5a31e2e19f82237f403217957499646685f2a33348245497d"), looks := false }, kinds := [], alts := [], laidByText := true, laidKinds := [.data], laidTests := true, laidLooks := .later }
def ValidCountsCardSaid : Prop := Claim7.holds Tryz.pinned (.plain (OpenSpec.ofChange validCountsSpec)) validCountsCard

/-- THE SECOND FORM's CARD OF 'straitlaw13.SimpleTurns'. -/
def simpleTurnsUptoCard : Claim7 := { stood := { row := simpleTurnsUptoRow, standIns := [], harness := (true, "c7018ecceb6036b5a31e2e19f82237f403217957499646685f2a33348245497d"), looks := false }, kinds := [], alts := [], laidByText := true, laidKinds := [.data], laidTests := true, laidLooks := .later }
def SimpleTurnsUptoCardSaid : Prop := Claim7.holds Tryz.pinned (.plain (OpenSpec.upto simpleTurnsSpec)) simpleTurnsUptoCard

/-- THE SECOND FORM's CARD OF 'straitlaw13.SimpleConvex'. -/
def simpleConvexUptoCard : Claim7 := { stood := { row := simpleConvexUptoRow, standIns := [], harness := (true, "c7018ecceb6036b5a31e2e19f82237f403217957499646685f2a33348245497d"), looks := false }, kinds := [], alts := [], laidByText := true, laidKinds := [.data], laidTests := true, laidLooks := .later }
def SimpleConvexUptoCardSaid : Prop := Claim7.holds Tryz.pinned (.plain (OpenSpec.upto simpleConvexSpec)) simpleConvexUptoCard

/-- THE SECOND FORM's CARD OF 'straitlaw13.SimpleTwice'. -/
def simpleTwiceUptoCard : Claim7 := { stood := { row := simpleTwiceUptoRow, standIns := [], harness := (true, "c7018ecceb6036b5a31e2e19f82237f403217957499646685f2a33348245497d"), looks := false }, kinds := [], alts := [], laidByText := true, laidKinds := [.data], laidTests := true, laidLooks := .later }
def SimpleTwiceUptoCardSaid : Prop := Claim7.holds Tryz.pinned (.plain (OpenSpec.upto simpleTwiceSpec)) simpleTwiceUptoCard

/-- THE SECOND FORM's CARD OF 'straitlaw14.ValidTells'. -/
def validTellsUptoCard : Claim7 := { stood := { row := validTellsUptoRow, standIns := [], harness := (true, "c7018ecceb6036b5a31e2e19f82237f403217957499646685f2a33348245497d"), looks := false }, kinds := [], alts := [], laidByText := true, laidKinds := [.data], laidTests := true, laidLooks := .later }
def ValidTellsUptoCardSaid : Prop := Claim7.holds Tryz.pinned (.plain (OpenSpec.upto validTellsSpec)) validTellsUptoCard

/-- THE SECOND FORM's CARD OF 'straitlaw14.ValidTurns'. -/
def validTurnsUptoCard : Claim7 := { stood := { row := validTurnsUptoRow, standIns := [], harness := (true, "c7018ecceb6036b5a31e2e19f82237f403217957499646685f2a33348245497d"), looks := false }, kinds := [], alts := [], laidByText := true, laidKinds := [.data], laidTests := true, laidLooks := .later }
def ValidTurnsUptoCardSaid : Prop := Claim7.holds Tryz.pinned (.plain (OpenSpec.upto validTurnsSpec)) validTurnsUptoCard

/-- THE SECOND FORM's CARD OF 'straitlaw14.ValidText'. -/
def validTextUptoCard : Claim7 := { stood := { row := validTextUptoRow, standIns := [], harness := (true, "c7018ecceb6036b5a31e2e19f82237f403217957499646685f2a33348245497d"), looks := false }, kinds := [], alts := [], laidByText := true, laidKinds := [.data], laidTests := true, laidLooks := .later }
def ValidTextUptoCardSaid : Prop := Claim7.holds Tryz.pinned (.plain (OpenSpec.upto validTextSpec)) validTextUptoCard

/-- THE SECOND FORM's CARD OF 'straitlaw14.ValidFirst'. -/
def validFirstUptoCard : Claim7 := { stood := { row := validFirstUptoRow, standIns := [], harness := (true, "c7018ecceb6036b5a31e2e19f82237f403217957499646685f2a33348245497d"), looks := false }, kinds := [], alts := [], laidByText := true, laidKinds := [.data], laidTests := true, laidLooks := .later }
def ValidFirstUptoCardSaid : Prop := Claim7.holds Tryz.pinned (.plain (OpenSpec.upto validFirstSpec)) validFirstUptoCard

/-- THE SECOND FORM's CARD OF 'straitlaw14.ValidCounts'. -/
def validCountsUptoCard : Claim7 := { stood := { row := validCountsUptoRow, standIns := [], harness := (true, "c7018ecceb6036b5a31e2e19f82237f403217957499646685f2a33348245497d"), looks := false }, kinds := [], alts := [], laidByText := true, laidKinds := [.data], laidTests := true, laidLooks := .later }
def ValidCountsUptoCardSaid : Prop := Claim7.holds Tryz.pinned (.plain (OpenSpec.upto validCountsSpec)) validCountsUptoCard
end Rows
end Go.Proofs.YtofplgefmjojjaaGreatDoor
