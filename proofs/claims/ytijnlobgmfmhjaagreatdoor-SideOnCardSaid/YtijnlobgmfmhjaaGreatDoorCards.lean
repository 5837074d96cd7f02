/-
  DERIVED. GIVEN WITH THE SEED: THE CARDS: each row of YtijnlobgmfmhjaaGreatDoorRows.lean that lists a variable, with what it lists TIED to the program's text (the seventh form; the later family's looks); each row that meets fmt, with fmt's text TOLD by the authors' own Lean function (tested against real Go, not proved from fmt's source: count such statements apart). THE CARD IS WHAT COUNTS. Prove the row's statement (the work); the ties are given (YtijnlobgmfmhjaaGreatDoorTie.lean); close each card by the builder's one call (the guide's Derived/Test/ToyasCard.lean, 'card_holds'). Laid BY PROGRAM, IN A SANDBOX (cutbox-door.mjs). By AI agents, Wed Nov 11 2026. No macro, syntax, notation, axiom, sorry.
-/
import Derived.Test.YtijnlobgmfmhjaaGreatDoorRows
import GoSem.ClaimSeven
namespace Go.Proofs.YtijnlobgmfmhjaaGreatDoor
namespace Rows

/-- THE TIED CARD OF 'straitlaw09.SideTurns'. -/
def sideTurnsCard : Claim7 := { stood := { row := sideTurnsRow, standIns := [], harness := (true, "c7126f11000218ee103c2c90956d338c7a85847206aefba716ce4f6170bece97"), looks := false }, kinds := [], alts := [], laidByText := true, laidKinds := [.data], laidTests := true, laidLooks := .later }
def SideTurnsCardSaid : Prop := Claim7.holds Tryz.pinned (.plain (OpenSpec.ofChange sideTurnsSpec)) sideTurnsCard

/-- THE TIED CARD OF 'straitlaw09.SideOn'. -/
def sideOnCard : Claim7 := { stood := { row := sideOnRow, standIns := [], harness := (true, "c7126f11000218ee103c2c90956d338c7a85847206aefba716ce4f6170bece97"), looks := false }, kinds := [], alts := [], laidByText := true, laidKinds := [.data], laidTests := true, laidLooks := .later }
def SideOnCardSaid : Prop := Claim7.holds Tryz.pinned (.plain (OpenSpec.ofChange sideOnSpec)) sideOnCard

/-- THE TIED CARD OF 'straitlaw09.SideAlong'. -/
def sideAlongCard : Claim7 := { stood := { row := sideAlongRow, standIns := [], harness := (true, "c7126f11000218ee103c2c90956d338c7a85847206aefba716ce4f6170bece97"), looks := false }, kinds := [], alts := [], laidByText := true, laidKinds := [.data], laidTests := true, laidLooks := .later }
def SideAlongCardSaid : Prop := Claim7.holds Tryz.pinned (.plain (OpenSpec.ofChange sideAlongSpec)) sideAlongCard

/-- THE SECOND FORM's CARD OF 'straitlaw09.SideTurns'. -/
def sideTurnsUptoCard : Claim7 := { stood := { row := sideTurnsUptoRow, standIns := [], harness := (true, "c7126f11000218ee103c2c90956d338c7a85847206aefba716ce4f6170bece97"), looks := false }, kinds := [], alts := [], laidByText := true, laidKinds := [.data], laidTests := true, laidLooks := .later }
def SideTurnsUptoCardSaid : Prop := Claim7.holds Tryz.pinned (.plain (OpenSpec.upto sideTurnsSpec)) sideTurnsUptoCard

/-- THE SECOND FORM's CARD OF 'straitlaw09.SideOn'. -/
def sideOnUptoCard : Claim7 := { stood := { row := sideOnUptoRow, standIns := [], harness := (true, "c7126f11000218ee103c2c90956d338c7a85847206aefba716ce4f6170bece97"), looks := false }, kinds := [], alts := [], laidByText := true, laidKinds := [.data], laidTests := true, laidLooks := .later }
def SideOnUptoCardSaid : Prop := Claim7.holds Tryz.pinned (.plain (OpenSpec.upto sideOnSpec)) sideOnUptoCard

/-- THE SECOND FORM's CARD OF 'straitlaw09.SideAlong'. -/
def sideAlongUptoCard : Claim7 := { stood := { row := sideAlongUptoRow, standIns := [], harness := (true, "c7126f11000218ee103c2c90956d338c7a85847206aefba716ce4f6170bece97"), looks := false }, kinds := [], alts := [], laidByText := true, laidKinds := [.data], laidTests := true, laidLooks := .later }
def SideAlongUptoCardSaid : Prop := Claim7.holds Tryz.pinned (.plain (OpenSpec.upto sideAlongSpec)) sideAlongUptoCard
end Rows
end Go.Proofs.YtijnlobgmfmhjaaGreatDoor
