/-
  NARROWER THAN 'FOR EVERY INPUT', by the rows' own cells (each row's printed sentence says how): SimpleTurns: laid · SimpleConvex: laid · SimpleTwice: laid · ValidTells: laid · ValidTurns: laid · ValidText: laid · ValidFirst: laid · ValidCounts: laid.
  DERIVED. THE GIVEN ROWS OF THIS SEAT. 8 by the template 'for every input the law returns true; each argument reads behind the call as it read before'; 0 by the template 'total and deterministic' (their statements: YtofplgefmjojjaaGreatDoorTotals.lean).
  GIVEN WITH THE SEED: the statements are not yours to turn. If you find one false, say at which input.
  Laid BY PROGRAM, IN A SANDBOX (cutbox-rows.mjs): the forced cells as the released guide's own fill.sh prints them over the translation 7a81df1aaecb243a… (all of the seat's roots in one cut). By AI agents, Wed Nov 11 2026. No macro, syntax, notation, axiom, sorry.
-/
import Derived.Test.YtofplgefmjojjaaGreatDoorChecked
import GoSem.Claim
import GoSem.ClaimJoined
import GoSem.ClaimMapViews
import Derived.JoinedTies
import Derived.KernelRfl
namespace Go.Proofs.YtofplgefmjojjaaGreatDoor
/- THE CELL 'sum', in the pinned program and in every row, IS THE sha256 OF THE DUMP (.gsa) THAT YtofplgefmjojjaaGreatDoorProg.lean LOADS. Nothing in Lean hashes anything: it is a label: what it is worth is what the hold of that sum in a sandbox is worth. -/
noncomputable def Tryz.pinned : Pinned := { name := "ytofplgefmjojjaagreatdoor", sum := "7a81df1aaecb243ab6298512a506425658757a99e437bcecfca5f83cbf83c92d", checked := Tryz.checked }
namespace Rows
def none {H : Type} : Left H := { results := [], args := [] }

/- WHAT THE LISTED PACKAGE-LEVEL VARIABLES READ AS WHEN THE CALL BEGINS. Each datum BY PROGRAM (the guide's laid-datum.mjs) off the statement by which the dump's own 'gosem.cut.vars' lays the variable. In a bare row this is a premise. The card (YtofplgefmjojjaaGreatDoorCards.lean) ties it to the program's text. -/
def laid_math_bits_deBruijn64tab {H : Type} : DataW H := .agg [.lit (.int .u8 0), .lit (.int .u8 1), .lit (.int .u8 56), .lit (.int .u8 2), .lit (.int .u8 57), .lit (.int .u8 49), .lit (.int .u8 28), .lit (.int .u8 3), .lit (.int .u8 61), .lit (.int .u8 58), .lit (.int .u8 42), .lit (.int .u8 50), .lit (.int .u8 38), .lit (.int .u8 29), .lit (.int .u8 17), .lit (.int .u8 4), .lit (.int .u8 62), .lit (.int .u8 47), .lit (.int .u8 59), .lit (.int .u8 36), .lit (.int .u8 45), .lit (.int .u8 43), .lit (.int .u8 51), .lit (.int .u8 22), .lit (.int .u8 53), .lit (.int .u8 39), .lit (.int .u8 33), .lit (.int .u8 30), .lit (.int .u8 24), .lit (.int .u8 18), .lit (.int .u8 12), .lit (.int .u8 5), .lit (.int .u8 63), .lit (.int .u8 55), .lit (.int .u8 48), .lit (.int .u8 27), .lit (.int .u8 60), .lit (.int .u8 41), .lit (.int .u8 37), .lit (.int .u8 16), .lit (.int .u8 46), .lit (.int .u8 35), .lit (.int .u8 44), .lit (.int .u8 21), .lit (.int .u8 52), .lit (.int .u8 32), .lit (.int .u8 23), .lit (.int .u8 11), .lit (.int .u8 54), .lit (.int .u8 26), .lit (.int .u8 40), .lit (.int .u8 15), .lit (.int .u8 34), .lit (.int .u8 20), .lit (.int .u8 31), .lit (.int .u8 10), .lit (.int .u8 25), .lit (.int .u8 14), .lit (.int .u8 19), .lit (.int .u8 9), .lit (.int .u8 13), .lit (.int .u8 8), .lit (.int .u8 7), .lit (.int .u8 6)]

/-- 'straitlaw13.SimpleTurns': WHATEVER THE INPUT: true; the input reads as it did. -/
def simpleTurnsSpec : ChangeSpec := { name := "simpleTurns", fn := fun _ => fun
  | [d1, d2, d3] => { results := [.lit (.bool true)], args := [d1, d2, d3] }
  | _ => none }
def simpleTurnsRow : OpenClaim := { program := "ytofplgefmjojjaagreatdoor", sum := "7a81df1aaecb243ab6298512a506425658757a99e437bcecfca5f83cbf83c92d", func := "strait/straitlaw13.SimpleTurns", spec := "simpleTurns", inPlace := ["math/bits.Add64"], unfollowed := true, recurses := true, named := ["math/bits.deBruijn64tab"], apart := false, laid := [("math/bits.deBruijn64tab", laid_math_bits_deBruijn64tab)] }
def SimpleTurnsSaid : Prop := simpleTurnsRow.holds Tryz.pinned (OpenSpec.ofChange simpleTurnsSpec)

/-- ITS FALSE NEIGHBOUR: 'it returns false'. Refute it at one input. -/
def simpleTurnsWrong : ChangeSpec := { name := "simpleTurns", fn := fun _ => fun
  | [d1, d2, d3] => { results := [.lit (.bool false)], args := [d1, d2, d3] }
  | _ => none }
def SimpleTurnsWrongFalsely : Prop := simpleTurnsRow.holds Tryz.pinned (OpenSpec.ofChange simpleTurnsWrong)

/-- 'straitlaw13.SimpleConvex': WHATEVER THE INPUT: true; the input reads as it did. -/
def simpleConvexSpec : ChangeSpec := { name := "simpleConvex", fn := fun _ => fun
  | [d1, d2] => { results := [.lit (.bool true)], args := [d1, d2] }
  | _ => none }
def simpleConvexRow : OpenClaim := { program := "ytofplgefmjojjaagreatdoor", sum := "7a81df1aaecb243ab6298512a506425658757a99e437bcecfca5f83cbf83c92d", func := "strait/straitlaw13.SimpleConvex", spec := "simpleConvex", inPlace := ["math/bits.Add64"], unfollowed := true, recurses := true, named := ["math/bits.deBruijn64tab"], apart := false, laid := [("math/bits.deBruijn64tab", laid_math_bits_deBruijn64tab)] }
def SimpleConvexSaid : Prop := simpleConvexRow.holds Tryz.pinned (OpenSpec.ofChange simpleConvexSpec)

/-- ITS FALSE NEIGHBOUR: 'it returns false'. Refute it at one input. -/
def simpleConvexWrong : ChangeSpec := { name := "simpleConvex", fn := fun _ => fun
  | [d1, d2] => { results := [.lit (.bool false)], args := [d1, d2] }
  | _ => none }
def SimpleConvexWrongFalsely : Prop := simpleConvexRow.holds Tryz.pinned (OpenSpec.ofChange simpleConvexWrong)

/-- 'straitlaw13.SimpleTwice': WHATEVER THE INPUT: true; the input reads as it did. -/
def simpleTwiceSpec : ChangeSpec := { name := "simpleTwice", fn := fun _ => fun
  | [d1, d2, d3] => { results := [.lit (.bool true)], args := [d1, d2, d3] }
  | _ => none }
def simpleTwiceRow : OpenClaim := { program := "ytofplgefmjojjaagreatdoor", sum := "7a81df1aaecb243ab6298512a506425658757a99e437bcecfca5f83cbf83c92d", func := "strait/straitlaw13.SimpleTwice", spec := "simpleTwice", inPlace := ["math/bits.Add64"], unfollowed := true, recurses := true, named := ["math/bits.deBruijn64tab"], apart := false, laid := [("math/bits.deBruijn64tab", laid_math_bits_deBruijn64tab)] }
def SimpleTwiceSaid : Prop := simpleTwiceRow.holds Tryz.pinned (OpenSpec.ofChange simpleTwiceSpec)

/-- ITS FALSE NEIGHBOUR: 'it returns false'. Refute it at one input. -/
def simpleTwiceWrong : ChangeSpec := { name := "simpleTwice", fn := fun _ => fun
  | [d1, d2, d3] => { results := [.lit (.bool false)], args := [d1, d2, d3] }
  | _ => none }
def SimpleTwiceWrongFalsely : Prop := simpleTwiceRow.holds Tryz.pinned (OpenSpec.ofChange simpleTwiceWrong)

/-- 'straitlaw14.ValidTells': WHATEVER THE INPUT: true; the input reads as it did. -/
def validTellsSpec : ChangeSpec := { name := "validTells", fn := fun _ => fun
  | [d1, d2, d3] => { results := [.lit (.bool true)], args := [d1, d2, d3] }
  | _ => none }
def validTellsRow : OpenClaim := { program := "ytofplgefmjojjaagreatdoor", sum := "7a81df1aaecb243ab6298512a506425658757a99e437bcecfca5f83cbf83c92d", func := "strait/straitlaw14.ValidTells", spec := "validTells", inPlace := ["internal/bytealg.IndexByteString", "internal/bytealg.IndexString", "math/bits.Add64"], unfollowed := true, recurses := true, named := ["internal/bytealg.MaxLen", "math/bits.deBruijn64tab"], apart := false, laid := [("math/bits.deBruijn64tab", laid_math_bits_deBruijn64tab)] }
def ValidTellsSaid : Prop := validTellsRow.holds Tryz.pinned (OpenSpec.ofChange validTellsSpec)

/-- ITS FALSE NEIGHBOUR: 'it returns false'. Refute it at one input. -/
def validTellsWrong : ChangeSpec := { name := "validTells", fn := fun _ => fun
  | [d1, d2, d3] => { results := [.lit (.bool false)], args := [d1, d2, d3] }
  | _ => none }
def ValidTellsWrongFalsely : Prop := validTellsRow.holds Tryz.pinned (OpenSpec.ofChange validTellsWrong)

/-- 'straitlaw14.ValidTurns': WHATEVER THE INPUT: true; the input reads as it did. -/
def validTurnsSpec : ChangeSpec := { name := "validTurns", fn := fun _ => fun
  | [d1, d2, d3] => { results := [.lit (.bool true)], args := [d1, d2, d3] }
  | _ => none }
def validTurnsRow : OpenClaim := { program := "ytofplgefmjojjaagreatdoor", sum := "7a81df1aaecb243ab6298512a506425658757a99e437bcecfca5f83cbf83c92d", func := "strait/straitlaw14.ValidTurns", spec := "validTurns", inPlace := ["internal/bytealg.IndexByteString", "internal/bytealg.IndexString", "math/bits.Add64"], unfollowed := true, recurses := true, named := ["internal/bytealg.MaxLen", "math/bits.deBruijn64tab"], apart := false, laid := [("math/bits.deBruijn64tab", laid_math_bits_deBruijn64tab)] }
def ValidTurnsSaid : Prop := validTurnsRow.holds Tryz.pinned (OpenSpec.ofChange validTurnsSpec)

/-- ITS FALSE NEIGHBOUR: 'it returns false'. Refute it at one input. -/
def validTurnsWrong : ChangeSpec := { name := "validTurns", fn := fun _ => fun
  | [d1, d2, d3] => { results := [.lit (.bool false)], args := [d1, d2, d3] }
  | _ => none }
def ValidTurnsWrongFalsely : Prop := validTurnsRow.holds Tryz.pinned (OpenSpec.ofChange validTurnsWrong)

/-- 'straitlaw14.ValidText': WHATEVER THE INPUT: true; the input reads as it did. -/
def validTextSpec : ChangeSpec := { name := "validText", fn := fun _ => fun
  | [d1, d2] => { results := [.lit (.bool true)], args := [d1, d2] }
  | _ => none }
def validTextRow : OpenClaim := { program := "ytofplgefmjojjaagreatdoor", sum := "7a81df1aaecb243ab6298512a506425658757a99e437bcecfca5f83cbf83c92d", func := "strait/straitlaw14.ValidText", spec := "validText", inPlace := ["internal/bytealg.IndexByteString", "internal/bytealg.IndexString", "math/bits.Add64"], unfollowed := true, recurses := true, named := ["internal/bytealg.MaxLen", "math/bits.deBruijn64tab"], apart := false, laid := [("math/bits.deBruijn64tab", laid_math_bits_deBruijn64tab)] }
def ValidTextSaid : Prop := validTextRow.holds Tryz.pinned (OpenSpec.ofChange validTextSpec)

/-- ITS FALSE NEIGHBOUR: 'it returns false'. Refute it at one input. -/
def validTextWrong : ChangeSpec := { name := "validText", fn := fun _ => fun
  | [d1, d2] => { results := [.lit (.bool false)], args := [d1, d2] }
  | _ => none }
def ValidTextWrongFalsely : Prop := validTextRow.holds Tryz.pinned (OpenSpec.ofChange validTextWrong)

/-- 'straitlaw14.ValidFirst': WHATEVER THE INPUT: true; the input reads as it did. -/
def validFirstSpec : ChangeSpec := { name := "validFirst", fn := fun _ => fun
  | [d1, d2] => { results := [.lit (.bool true)], args := [d1, d2] }
  | _ => none }
def validFirstRow : OpenClaim := { program := "ytofplgefmjojjaagreatdoor", sum := "7a81df1aaecb243ab6298512a506425658757a99e437bcecfca5f83cbf83c92d", func := "strait/straitlaw14.ValidFirst", spec := "validFirst", inPlace := ["internal/bytealg.IndexByteString", "internal/bytealg.IndexString", "math/bits.Add64"], unfollowed := true, recurses := true, named := ["internal/bytealg.MaxLen", "math/bits.deBruijn64tab"], apart := false, laid := [("math/bits.deBruijn64tab", laid_math_bits_deBruijn64tab)] }
def ValidFirstSaid : Prop := validFirstRow.holds Tryz.pinned (OpenSpec.ofChange validFirstSpec)

/-- ITS FALSE NEIGHBOUR: 'it returns false'. Refute it at one input. -/
def validFirstWrong : ChangeSpec := { name := "validFirst", fn := fun _ => fun
  | [d1, d2] => { results := [.lit (.bool false)], args := [d1, d2] }
  | _ => none }
def ValidFirstWrongFalsely : Prop := validFirstRow.holds Tryz.pinned (OpenSpec.ofChange validFirstWrong)

/-- 'straitlaw14.ValidCounts': WHATEVER THE INPUT: true; the input reads as it did. -/
def validCountsSpec : ChangeSpec := { name := "validCounts", fn := fun _ => fun
  | [d] => { results := [.lit (.bool true)], args := [d] }
  | _ => none }
def validCountsRow : OpenClaim := { program := "ytofplgefmjojjaagreatdoor", sum := "7a81df1aaecb243ab6298512a506425658757a99e437bcecfca5f83cbf83c92d", func := "strait/straitlaw14.ValidCounts", spec := "validCounts", inPlace := ["math/bits.Add64", "internal/bytealg.IndexByteString", "internal/bytealg.IndexString"], unfollowed := true, recurses := true, named := ["math/bits.deBruijn64tab", "internal/bytealg.MaxLen"], apart := false, laid := [("math/bits.deBruijn64tab", laid_math_bits_deBruijn64tab)] }
def ValidCountsSaid : Prop := validCountsRow.holds Tryz.pinned (OpenSpec.ofChange validCountsSpec)

/-- ITS FALSE NEIGHBOUR: 'it returns false'. Refute it at one input. -/
def validCountsWrong : ChangeSpec := { name := "validCounts", fn := fun _ => fun
  | [d] => { results := [.lit (.bool false)], args := [d] }
  | _ => none }
def ValidCountsWrongFalsely : Prop := validCountsRow.holds Tryz.pinned (OpenSpec.ofChange validCountsWrong)

/- THE SECOND FORM. 'bulk': how many values and letters a reading holds, each counted each time it is reached (what is shared counts as often as it is met; a slice's spare places count too). A statement '..UptoSaid' is the law's where the arguments, and the package variables that the reading takes, are together of bulk at most 1048576: NARROWER than '..Said'. Prove '..Said' where nothing that the law and all that it calls make is longer than what came in: it says more and counts as full. Else prove '..UptoSaid'. A law counts once. -/
mutual
def uptoBulk {H : Type} : DataW H → Nat
  | .lit (.string bytes) => bytes.length + 1
  | .lit _ => 1
  | .nil => 1
  | .ptr d => uptoBulk d + 1
  | .slice elems spare => uptoBulkAll elems + uptoBulkAll spare + 1
  | .agg parts => uptoBulkAll parts + 1
  | .iface _ d => uptoBulk d + 1
  | .map entries => uptoBulkEntries entries + 1
  | .held _ => 1
def uptoBulkAll {H : Type} : List (DataW H) → Nat
  | [] => 0
  | d :: r => uptoBulk d + uptoBulkAll r
def uptoBulkEntries {H : Type} : List (Lit × DataW H) → Nat
  | [] => 0
  | x :: r => uptoBulkEntry x + uptoBulkEntries r
def uptoBulkEntry {H : Type} : Lit × DataW H → Nat
  | (.string bytes, d) => bytes.length + uptoBulk d + 1
  | (_, d) => uptoBulk d + 1
 end
def uptoSmall : (H : Type) → List (DataW H) → Bool := fun _ ds => decide (uptoBulkAll ds ≤ 1048576)
def OpenSpec.upto (s : _root_.Go.ChangeSpec) : _root_.Go.OpenSpec := { _root_.Go.OpenSpec.ofChange s with cond := some uptoSmall }

/-- 'straitlaw13.SimpleTurns', WHERE WHAT IT READS IS OF BULK AT MOST 1048576: true; the input reads as it did. -/
def simpleTurnsUptoRow : OpenClaim := { program := "ytofplgefmjojjaagreatdoor", sum := "7a81df1aaecb243ab6298512a506425658757a99e437bcecfca5f83cbf83c92d", func := "strait/straitlaw13.SimpleTurns", spec := "simpleTurns", inPlace := ["math/bits.Add64"], unfollowed := true, recurses := true, named := ["math/bits.deBruijn64tab"], apart := false, laid := [("math/bits.deBruijn64tab", laid_math_bits_deBruijn64tab)], narrowed := true }
def SimpleTurnsUptoSaid : Prop := simpleTurnsUptoRow.holds Tryz.pinned (OpenSpec.upto simpleTurnsSpec)

/-- 'straitlaw13.SimpleConvex', WHERE WHAT IT READS IS OF BULK AT MOST 1048576: true; the input reads as it did. -/
def simpleConvexUptoRow : OpenClaim := { program := "ytofplgefmjojjaagreatdoor", sum := "7a81df1aaecb243ab6298512a506425658757a99e437bcecfca5f83cbf83c92d", func := "strait/straitlaw13.SimpleConvex", spec := "simpleConvex", inPlace := ["math/bits.Add64"], unfollowed := true, recurses := true, named := ["math/bits.deBruijn64tab"], apart := false, laid := [("math/bits.deBruijn64tab", laid_math_bits_deBruijn64tab)], narrowed := true }
def SimpleConvexUptoSaid : Prop := simpleConvexUptoRow.holds Tryz.pinned (OpenSpec.upto simpleConvexSpec)

/-- 'straitlaw13.SimpleTwice', WHERE WHAT IT READS IS OF BULK AT MOST 1048576: true; the input reads as it did. -/
def simpleTwiceUptoRow : OpenClaim := { program := "ytofplgefmjojjaagreatdoor", sum := "7a81df1aaecb243ab6298512a506425658757a99e437bcecfca5f83cbf83c92d", func := "strait/straitlaw13.SimpleTwice", spec := "simpleTwice", inPlace := ["math/bits.Add64"], unfollowed := true, recurses := true, named := ["math/bits.deBruijn64tab"], apart := false, laid := [("math/bits.deBruijn64tab", laid_math_bits_deBruijn64tab)], narrowed := true }
def SimpleTwiceUptoSaid : Prop := simpleTwiceUptoRow.holds Tryz.pinned (OpenSpec.upto simpleTwiceSpec)

/-- 'straitlaw14.ValidTells', WHERE WHAT IT READS IS OF BULK AT MOST 1048576: true; the input reads as it did. -/
def validTellsUptoRow : OpenClaim := { program := "ytofplgefmjojjaagreatdoor", sum := "7a81df1aaecb243ab6298512a506425658757a99e437bcecfca5f83cbf83c92d", func := "strait/straitlaw14.ValidTells", spec := "validTells", inPlace := ["internal/bytealg.IndexByteString", "internal/bytealg.IndexString", "math/bits.Add64"], unfollowed := true, recurses := true, named := ["internal/bytealg.MaxLen", "math/bits.deBruijn64tab"], apart := false, laid := [("math/bits.deBruijn64tab", laid_math_bits_deBruijn64tab)], narrowed := true }
def ValidTellsUptoSaid : Prop := validTellsUptoRow.holds Tryz.pinned (OpenSpec.upto validTellsSpec)

/-- 'straitlaw14.ValidTurns', WHERE WHAT IT READS IS OF BULK AT MOST 1048576: true; the input reads as it did. -/
def validTurnsUptoRow : OpenClaim := { program := "ytofplgefmjojjaagreatdoor", sum := "7a81df1aaecb243ab6298512a506425658757a99e437bcecfca5f83cbf83c92d", func := "strait/straitlaw14.ValidTurns", spec := "validTurns", inPlace := ["internal/bytealg.IndexByteString", "internal/bytealg.IndexString", "math/bits.Add64"], unfollowed := true, recurses := true, named := ["internal/bytealg.MaxLen", "math/bits.deBruijn64tab"], apart := false, laid := [("math/bits.deBruijn64tab", laid_math_bits_deBruijn64tab)], narrowed := true }
def ValidTurnsUptoSaid : Prop := validTurnsUptoRow.holds Tryz.pinned (OpenSpec.upto validTurnsSpec)

/-- 'straitlaw14.ValidText', WHERE WHAT IT READS IS OF BULK AT MOST 1048576: true; the input reads as it did. -/
def validTextUptoRow : OpenClaim := { program := "ytofplgefmjojjaagreatdoor", sum := "7a81df1aaecb243ab6298512a506425658757a99e437bcecfca5f83cbf83c92d", func := "strait/straitlaw14.ValidText", spec := "validText", inPlace := ["internal/bytealg.IndexByteString", "internal/bytealg.IndexString", "math/bits.Add64"], unfollowed := true, recurses := true, named := ["internal/bytealg.MaxLen", "math/bits.deBruijn64tab"], apart := false, laid := [("math/bits.deBruijn64tab", laid_math_bits_deBruijn64tab)], narrowed := true }
def ValidTextUptoSaid : Prop := validTextUptoRow.holds Tryz.pinned (OpenSpec.upto validTextSpec)

/-- 'straitlaw14.ValidFirst', WHERE WHAT IT READS IS OF BULK AT MOST 1048576: true; the input reads as it did. -/
def validFirstUptoRow : OpenClaim := { program := "ytofplgefmjojjaagreatdoor", sum := "7a81df1aaecb243ab6298512a506425658757a99e437bcecfca5f83cbf83c92d", func := "strait/straitlaw14.ValidFirst", spec := "validFirst", inPlace := ["internal/bytealg.IndexByteString", "internal/bytealg.IndexString", "math/bits.Add64"], unfollowed := true, recurses := true, named := ["internal/bytealg.MaxLen", "math/bits.deBruijn64tab"], apart := false, laid := [("math/bits.deBruijn64tab", laid_math_bits_deBruijn64tab)], narrowed := true }
def ValidFirstUptoSaid : Prop := validFirstUptoRow.holds Tryz.pinned (OpenSpec.upto validFirstSpec)

/-- 'straitlaw14.ValidCounts', WHERE WHAT IT READS IS OF BULK AT MOST 1048576: true; the input reads as it did. -/
def validCountsUptoRow : OpenClaim := { program := "ytofplgefmjojjaagreatdoor", sum := "7a81df1aaecb243ab6298512a506425658757a99e437bcecfca5f83cbf83c92d", func := "strait/straitlaw14.ValidCounts", spec := "validCounts", inPlace := ["math/bits.Add64", "internal/bytealg.IndexByteString", "internal/bytealg.IndexString"], unfollowed := true, recurses := true, named := ["math/bits.deBruijn64tab", "internal/bytealg.MaxLen"], apart := false, laid := [("math/bits.deBruijn64tab", laid_math_bits_deBruijn64tab)], narrowed := true }
def ValidCountsUptoSaid : Prop := validCountsUptoRow.holds Tryz.pinned (OpenSpec.upto validCountsSpec)

end Rows
end Go.Proofs.YtofplgefmjojjaaGreatDoor
