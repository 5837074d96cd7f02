/-
  DERIVED. GIVEN WITH THE SEED: THE CARDS: each row of YtendklcoeengaaaDoorRows.lean that lists a variable, with what it lists TIED to the program's text (the seventh form; the later family's looks); each row that meets fmt, with fmt's text TOLD by the authors' own Lean function (tested against real Go, not proved from fmt's source: count such statements apart). THE CARD IS WHAT COUNTS. Prove the row's statement (the work); the ties are given (YtendklcoeengaaaDoorTie.lean); close each card by the builder's one call (the guide's Derived/Test/ToyasCard.lean, 'card_holds'). Laid BY PROGRAM, IN A SANDBOX (cutbox-door.mjs). By AI agents, Wed Nov 11 2026. No macro, syntax, notation, axiom, sorry.
-/
import Derived.Test.YtendklcoeengaaaDoorRows
import GoSem.ClaimSeven
namespace Go.Proofs.YtendklcoeengaaaDoor
namespace Rows

/-- THE TIED CARD OF 'straitlaw06.DigitsBad'. -/
def digitsBadCard : Claim7 := { stood := { row := digitsBadRow, standIns := [], harness := (true, "aad463d08c7140835e3899514f4901c41a203cdab0281ca1c04cb47c7bf8a55c"), looks := false }, kinds := [], alts := [], laidByText := true, laidKinds := [.data, .data, .data, .data, .pinned], laidTests := true, laidLooks := .later }
def DigitsBadCardSaid : Prop := Claim7.holds Tryd.pinned (.plain (OpenSpec.ofChange digitsBadSpec)) digitsBadCard

/-- THE TIED CARD OF 'straitlaw06.DigitsOrder'. -/
def digitsOrderCard : Claim7 := { stood := { row := digitsOrderRow, standIns := [], harness := (true, "aad463d08c7140835e3899514f4901c41a203cdab0281ca1c04cb47c7bf8a55c"), looks := false }, kinds := [], alts := [], laidByText := true, laidKinds := [.data, .data, .data, .data, .pinned], laidTests := true, laidLooks := .later }
def DigitsOrderCardSaid : Prop := Claim7.holds Tryd.pinned (.plain (OpenSpec.ofChange digitsOrderSpec)) digitsOrderCard

/-- THE TIED CARD OF 'straitlaw06.DigitsParts'. -/
def digitsPartsCard : Claim7 := { stood := { row := digitsPartsRow, standIns := [], harness := (true, "aad463d08c7140835e3899514f4901c41a203cdab0281ca1c04cb47c7bf8a55c"), looks := false }, kinds := [], alts := [], laidByText := true, laidKinds := [.data, .data, .data, .data, .pinned], laidTests := true, laidLooks := .later }
def DigitsPartsCardSaid : Prop := Claim7.holds Tryd.pinned (.plain (OpenSpec.ofChange digitsPartsSpec)) digitsPartsCard

/-- THE TIED CARD OF 'straitlaw06.DigitsBack'. -/
def digitsBackCard : Claim7 := { stood := { row := digitsBackRow, standIns := [], harness := (true, "aad463d08c7140835e3899514f4901c41a203cdab0281ca1c04cb47c7bf8a55c"), looks := false }, kinds := [], alts := [], laidByText := true, laidKinds := [.data, .data, .data, .data, .pinned], laidTests := true, laidLooks := .later }
def DigitsBackCardSaid : Prop := Claim7.holds Tryd.pinned (.plain (OpenSpec.ofChange digitsBackSpec)) digitsBackCard

/-- THE SECOND FORM's CARD OF 'straitlaw06.DigitsBad'. -/
def digitsBadUptoCard : Claim7 := { stood := { row := digitsBadUptoRow, standIns := [], harness := (true, "aad463d08c7140835e3899514f4901c41a203cdab0281ca1c04cb47c7bf8a55c"), looks := false }, kinds := [], alts := [], laidByText := true, laidKinds := [.data, .data, .data, .data, .pinned], laidTests := true, laidLooks := .later }
def DigitsBadUptoCardSaid : Prop := Claim7.holds Tryd.pinned (.plain (OpenSpec.upto digitsBadSpec)) digitsBadUptoCard

/-- THE SECOND FORM's CARD OF 'straitlaw06.DigitsOrder'. -/
def digitsOrderUptoCard : Claim7 := { stood := { row := digitsOrderUptoRow, standIns := [], harness := (true, "aad463d08c7140835e3899514f4901c41a203cdab0281ca1c04cb47c7bf8a55c"), looks := false }, kinds := [], alts := [], laidByText := true, laidKinds := [.data, .data, .data, .data, .pinned], laidTests := true, laidLooks := .later }
def DigitsOrderUptoCardSaid : Prop := Claim7.holds Tryd.pinned (.plain (OpenSpec.upto digitsOrderSpec)) digitsOrderUptoCard

/-- THE SECOND FORM's CARD OF 'straitlaw06.DigitsParts'. -/
def digitsPartsUptoCard : Claim7 := { stood := { row := digitsPartsUptoRow, standIns := [], harness := (true, "aad463d08c7140835e3899514f4901c41a203cdab0281ca1c04cb47c7bf8a55c"), looks := false }, kinds := [], alts := [], laidByText := true, laidKinds := [.data, .data, .data, .data, .pinned], laidTests := true, laidLooks := .later }
def DigitsPartsUptoCardSaid : Prop := Claim7.holds Tryd.pinned (.plain (OpenSpec.upto digitsPartsSpec)) digitsPartsUptoCard

/-- THE SECOND FORM's CARD OF 'straitlaw06.DigitsBack'. -/
def digitsBackUptoCard : Claim7 := { stood := { row := digitsBackUptoRow, standIns := [], harness := (true, "aad463d08c7140835e3899514f4901c41a203cdab0281ca1c04cb47c7bf8a55c"), looks := false }, kinds := [], alts := [], laidByText := true, laidKinds := [.data, .data, .data, .data, .pinned], laidTests := true, laidLooks := .later }
def DigitsBackUptoCardSaid : Prop := Claim7.holds Tryd.pinned (.plain (OpenSpec.upto digitsBackSpec)) digitsBackUptoCard
end Rows
end Go.Proofs.YtendklcoeengaaaDoor
