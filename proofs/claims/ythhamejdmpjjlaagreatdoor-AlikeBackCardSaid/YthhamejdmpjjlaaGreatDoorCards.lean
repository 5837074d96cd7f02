/-
  DERIVED. GIVEN WITH THE SEED: THE CARDS: each row of YthhamejdmpjjlaaGreatDoorRows.lean that lists a variable, with what it lists TIED to the program's text (the seventh form; the later family's looks); each row that meets fmt, with fmt's text TOLD by the authors' own Lean function (tested against real Go, not proved from fmt's source: count such statements apart). THE CARD IS WHAT COUNTS. Prove the row's statement (the work); the ties are given (YthhamejdmpjjlaaGreatDoorTie.lean); close each card by the builder's one call (the guide's Derived/Test/ToyasCard.lean, 'card_holds'). Laid BY PROGRAM, IN A SANDBOX (cutbox-door.mjs). By AI agents, Wed Nov 11 2026. No macro, syntax, notation, axiom, sorry.
-/
import Derived.Test.YthhamejdmpjjlaaGreatDoorRows
import GoSem.ClaimSeven
namespace Go.Proofs.YthhamejdmpjjlaaGreatDoor
namespace Rows

/-- THE TIED CARD OF 'straitlaw32.AlikeBack'. -/
def alikeBackCard : Claim7 := { stood := { row := alikeBackRow, standIns := [], harness := (true, "b89abd535ca1f40e83a80732f38eacdf0e2301b9f05b18f4d53ad7a00a08d481"), looks := true }, kinds := [], alts := [], laidByText := true, laidKinds := [.data, .data, .data, .data, .pinned], laidTests := true, laidLooks := .later }
def AlikeBackCardSaid : Prop := Claim7.holds Tryz.pinned (.plain (OpenSpec.ofChange alikeBackSpec)) alikeBackCard

/-- THE SECOND FORM's CARD OF 'straitlaw32.AlikeBack'. -/
def alikeBackUptoCard : Claim7 := { stood := { row := alikeBackUptoRow, standIns := [], harness := (true, "b89abd535ca1f40e83a80732f38eacdf0e2301b9f05b18f4d53ad7a00a08d481"), looks := true }, kinds := [], alts := [], laidByText := true, laidKinds := [.data, .data, .data, .data, .pinned], laidTests := true, laidLooks := .later }
def AlikeBackUptoCardSaid : Prop := Claim7.holds Tryz.pinned (.plain (OpenSpec.upto alikeBackSpec)) alikeBackUptoCard
end Rows
end Go.Proofs.YthhamejdmpjjlaaGreatDoor
