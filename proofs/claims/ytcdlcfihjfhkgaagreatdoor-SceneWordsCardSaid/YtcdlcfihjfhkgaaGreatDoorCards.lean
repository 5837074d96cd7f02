/-
  DERIVED. GIVEN WITH THE SEED: THE CARDS: each row of YtcdlcfihjfhkgaaGreatDoorRows.lean that lists a variable, with what it lists TIED to the program's text (the seventh form; the later family's looks); each row that meets fmt, with fmt's text TOLD by the authors' own Lean function (tested against real Go, not proved from fmt's source: count such statements apart). THE CARD IS WHAT COUNTS. Prove the row's statement (the work); the ties are given (YtcdlcfihjfhkgaaGreatDoorTie.lean); close each card by the builder's one call (the guide's Derived/Test/ToyasCard.lean, 'card_holds'). Laid BY PROGRAM, IN A SANDBOX (cutbox-door.mjs). By AI agents, Wed Nov 11 2026. No macro, syntax, notation, axiom, sorry.
-/
import Derived.Test.YtcdlcfihjfhkgaaGreatDoorRows
import GoSem.ClaimSeven
namespace Go.Proofs.YtcdlcfihjfhkgaaGreatDoor
namespace Rows

/-- THE TIED CARD OF 'straitlaw11.LineTells'. -/
def lineTellsCard : Claim7 := { stood := { row := lineTellsRow, standIns := [], harness := (true, "7b54ad9db0e27925dce791cb1abd05886f51b1adc36e1a5ca233e7237305a956"), looks := false }, kinds := [], alts := [], laidByText := true, laidKinds := [.data, .data, .data, .data, .pinned], laidTests := true, laidLooks := .later }
def LineTellsCardSaid : Prop := Claim7.holds Tryz.pinned (.plain (OpenSpec.ofChange lineTellsSpec)) lineTellsCard

/-- THE TIED CARD OF 'straitlaw11.LineBack'. -/
def lineBackCard : Claim7 := { stood := { row := lineBackRow, standIns := [], harness := (true, "7b54ad9db0e27925dce791cb1abd05886f51b1adc36e1a5ca233e7237305a956"), looks := false }, kinds := [], alts := [], laidByText := true, laidKinds := [.data, .data, .data, .data, .pinned], laidTests := true, laidLooks := .later }
def LineBackCardSaid : Prop := Claim7.holds Tryz.pinned (.plain (OpenSpec.ofChange lineBackSpec)) lineBackCard

/-- THE TIED CARD OF 'straitlaw11.LineParts'. -/
def linePartsCard : Claim7 := { stood := { row := linePartsRow, standIns := [], harness := (true, "7b54ad9db0e27925dce791cb1abd05886f51b1adc36e1a5ca233e7237305a956"), looks := false }, kinds := [], alts := [], laidByText := true, laidKinds := [.data, .data, .data, .data, .pinned], laidTests := true, laidLooks := .later }
def LinePartsCardSaid : Prop := Claim7.holds Tryz.pinned (.plain (OpenSpec.ofChange linePartsSpec)) linePartsCard

/-- THE TIED CARD OF 'straitlaw11.LineNumbers'. -/
def lineNumbersCard : Claim7 := { stood := { row := lineNumbersRow, standIns := [], harness := (true, "7b54ad9db0e27925dce791cb1abd05886f51b1adc36e1a5ca233e7237305a956"), looks := false }, kinds := [], alts := [], laidByText := true, laidKinds := [.data, .data, .data, .data, .pinned], laidTests := true, laidLooks := .later }
def LineNumbersCardSaid : Prop := Claim7.holds Tryz.pinned (.plain (OpenSpec.ofChange lineNumbersSpec)) lineNumbersCard

/-- THE TIED CARD OF 'straitlaw12.SceneWords'. -/
def sceneWordsCard : Claim7 := { stood := { row := sceneWordsRow, standIns := [], harness := (true, "7b54ad9db0e27925dce791cb1abd05886f51b1adc36e1a5ca233e7237305a956"), looks := false }, kinds := [], alts := [], laidByText := true, laidKinds := [.data, .data, .data, .data, .pinned], laidTests := true, laidLooks := .later }
def SceneWordsCardSaid : Prop := Claim7.holds Tryz.pinned (.plain (OpenSpec.ofChange sceneWordsSpec)) sceneWordsCard

/-- THE TIED CARD OF 'straitlaw12.SceneBack'. -/
def sceneBackCard : Claim7 := { stood := { row := sceneBackRow, standIns := [], harness := (true, "7b54ad9db0e27925dce791cb1abd05886f51b1adc36e1a5ca233e7237305a956"), looks := false }, kinds := [], alts := [], laidByText := true, laidKinds := [.data, .data, .data, .data, .pinned], laidTests := true, laidLooks := .later }
def SceneBackCardSaid : Prop := Claim7.holds Tryz.pinned (.plain (OpenSpec.ofChange sceneBackSpec)) sceneBackCard

/-- THE TIED CARD OF 'straitlaw12.SceneSpells'. -/
def sceneSpellsCard : Claim7 := { stood := { row := sceneSpellsRow, standIns := [], harness := (true, "7b54ad9db0e27925dce791cb1abd05886f51b1adc36e1a5ca233e7237305a956"), looks := false }, kinds := [], alts := [], laidByText := true, laidKinds := [.data, .data, .data, .data, .pinned], laidTests := true, laidLooks := .later }
def SceneSpellsCardSaid : Prop := Claim7.holds Tryz.pinned (.plain (OpenSpec.ofChange sceneSpellsSpec)) sceneSpellsCard

/-- THE TIED CARD OF 'straitlaw12.SceneParts'. -/
def scenePartsCard : Claim7 := { stood := { row := scenePartsRow, standIns := [], harness := (true, "7b54ad9db0e27925dce791cb1abd05886f51b1adc36e1a5ca233e7237305a956"), looks := false }, kinds := [], alts := [], laidByText := true, laidKinds := [.data, .data, .data, .data, .pinned], laidTests := true, laidLooks := .later }
def ScenePartsCardSaid : Prop := Claim7.holds Tryz.pinned (.plain (OpenSpec.ofChange scenePartsSpec)) scenePartsCard

/-- THE SECOND FORM's CARD OF 'straitlaw11.LineTells'. -/
def lineTellsUptoCard : Claim7 := { stood := { row := lineTellsUptoRow, standIns := [], harness := (true, "7b54ad9db0e27925dce791cb1abd05886f51b1adc36e1a5ca233e7237305a956"), looks := false }, kinds := [], alts := [], laidByText := true, laidKinds := [.data, .data, .data, .data, .pinned], laidTests := true, laidLooks := .later }
def LineTellsUptoCardSaid : Prop := Claim7.holds Tryz.pinned (.plain (OpenSpec.upto lineTellsSpec)) lineTellsUptoCard

/-- THE SECOND FORM's CARD OF 'straitlaw11.LineBack'. -/
def lineBackUptoCard : Claim7 := { stood := { row := lineBackUptoRow, standIns := [], harness := (true, "7b54ad9db0e27925dce791cb1abd05886f51b1adc36e1a5ca233e7237305a956"), looks := false }, kinds := [], alts := [], laidByText := true, laidKinds := [.data, .data, .data, .data, .pinned], laidTests := true, laidLooks := .later }
def LineBackUptoCardSaid : Prop := Claim7.holds Tryz.pinned (.plain (OpenSpec.upto lineBackSpec)) lineBackUptoCard

/-- THE SECOND FORM's CARD OF 'straitlaw11.LineParts'. -/
def linePartsUptoCard : Claim7 := { stood := { row := linePartsUptoRow, standIns := [], harness := (true, "7b54ad9db0e27925dce791cb1abd05886f51b1adc36e1a5ca233e7237305a956"), looks := false }, kinds := [], alts := [], laidByText := true, laidKinds := [.data, .data, .data, .data, .pinned], laidTests := true, laidLooks := .later }
def LinePartsUptoCardSaid : Prop := Claim7.holds Tryz.pinned (.plain (OpenSpec.upto linePartsSpec)) linePartsUptoCard

/-- THE SECOND FORM's CARD OF 'straitlaw11.LineNumbers'. -/
def lineNumbersUptoCard : Claim7 := { stood := { row := lineNumbersUptoRow, standIns := [], harness := (true, "7b54ad9db0e27925dce791cb1abd05886f51b1adc36e1a5ca233e7237305a956"), looks := false }, kinds := [], alts := [], laidByText := true, laidKinds := [.data, .data, .data, .data, .pinned], laidTests := true, laidLooks := .later }
def LineNumbersUptoCardSaid : Prop := Claim7.holds Tryz.pinned (.plain (OpenSpec.upto lineNumbersSpec)) lineNumbersUptoCard

/-- THE SECOND FORM's CARD OF 'straitlaw12.SceneWords'. -/
def sceneWordsUptoCard : Claim7 := { stood := { row := sceneWordsUptoRow, standIns := [], harness := (true, "7b54ad9db0e27925dce791cb1abd05886f51b1adc36e1a5ca233e7237305a956"), looks := false }, kinds := [], alts := [], laidByText := true, laidKinds := [.data, .data, .data, .data, .pinned], laidTests := true, laidLooks := .later }
def SceneWordsUptoCardSaid : Prop := Claim7.holds Tryz.pinned (.plain (OpenSpec.upto sceneWordsSpec)) sceneWordsUptoCard

/-- THE SECOND FORM's CARD OF 'straitlaw12.SceneBack'. -/
def sceneBackUptoCard : Claim7 := { stood := { row := sceneBackUptoRow, standIns := [], harness := (true, "7b54ad9db0e27925dce791cb1abd05886f51b1adc36e1a5ca233e7237305a956"), looks := false }, kinds := [], alts := [], laidByText := true, laidKinds := [.data, .data, .data, .data, .pinned], laidTests := true, laidLooks := .later }
def SceneBackUptoCardSaid : Prop := Claim7.holds Tryz.pinned (.plain (OpenSpec.upto sceneBackSpec)) sceneBackUptoCard

/-- THE SECOND FORM's CARD OF 'straitlaw12.SceneSpells'. -/
def sceneSpellsUptoCard : Claim7 := { stood := { row := sceneSpellsUptoRow, standIns := [], harness := (true, "7b54ad9db0e27925dce791cb1abd05886f51b1adc36e1a5ca233e7237305a956"), looks := false }, kinds := [], alts := [], laidByText := true, laidKinds := [.data, .data, .data, .data, .pinned], laidTests := true, laidLooks := .later }
def SceneSpellsUptoCardSaid : Prop := Claim7.holds Tryz.pinned (.plain (OpenSpec.upto sceneSpellsSpec)) sceneSpellsUptoCard

/-- THE SECOND FORM's CARD OF 'straitlaw12.SceneParts'. -/
def scenePartsUptoCard : Claim7 := { stood := { row := scenePartsUptoRow, standIns := [], harness := (true, "7b54ad9db0e27925dce791cb1abd05886f51b1adc36e1a5ca233e7237305a956"), looks := false }, kinds := [], alts := [], laidByText := true, laidKinds := [.data, .data, .data, .data, .pinned], laidTests := true, laidLooks := .later }
def ScenePartsUptoCardSaid : Prop := Claim7.holds Tryz.pinned (.plain (OpenSpec.upto scenePartsSpec)) scenePartsUptoCard
end Rows
end Go.Proofs.YtcdlcfihjfhkgaaGreatDoor
