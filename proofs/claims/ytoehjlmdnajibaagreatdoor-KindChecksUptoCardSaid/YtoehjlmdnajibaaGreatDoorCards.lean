/-
  DERIVED. GIVEN WITH THE SEED: THE CARDS: each row of YtoehjlmdnajibaaGreatDoorRows.lean that lists a variable, with what it lists TIED to the program's text (the seventh form; the later family's looks); each row that meets fmt, with fmt's text TOLD by the authors' own Lean function (tested against real Go, not proved from fmt's source: count such statements apart). THE CARD IS WHAT COUNTS. Prove the row's statement (the work); the ties are given (YtoehjlmdnajibaaGreatDoorTie.lean); close each card by the builder's one call (the guide's Derived/Test/ToyasCard.lean, 'card_holds'). Laid BY PROGRAM, IN A SANDBOX (cutbox-door.mjs). By AI agents, Wed Nov 11 2026. No macro, syntax, notation, axiom, sorry.
-/
import Derived.Test.YtoehjlmdnajibaaGreatDoorRows
import GoSem.ClaimSeven
namespace Go.Proofs.YtoehjlmdnajibaaGreatDoor
namespace Rows

/-- THE TIED CARD OF 'stepstonelaw15.KindDiscrete'. -/
def kindDiscreteCard : Claim7 := { stood := { row := kindDiscreteRow, standIns := [], harness := (true, "65e2bdec9cfab438602a072c417bd6688cb10ffb3f463ce8d6a4e5789ff575b6"), looks := true }, kinds := [], alts := [], laidByText := true, laidKinds := [.listed, .data], laidTests := true, laidLooks := .later }
def KindDiscreteCardSaid : Prop := Claim7.holds Tryz.pinned (.plain (OpenSpec.ofChange kindDiscreteSpec)) kindDiscreteCard

/-- THE TIED CARD OF 'stepstonelaw15.KindChecks'. -/
def kindChecksCard : Claim7 := { stood := { row := kindChecksRow, standIns := [], harness := (true, "65e2bdec9cfab438602a072c417bd6688cb10ffb3f463ce8d6a4e5789ff575b6"), looks := true }, kinds := [], alts := [], laidByText := true, laidKinds := [.listed, .data], laidTests := true, laidLooks := .later }
def KindChecksCardSaid : Prop := Claim7.holds Tryz.pinned (.plain (OpenSpec.ofChange kindChecksSpec)) kindChecksCard

/-- THE TIED CARD OF 'stepstonelaw15.KindBegins'. -/
def kindBeginsCard : Claim7 := { stood := { row := kindBeginsRow, standIns := [], harness := (true, "65e2bdec9cfab438602a072c417bd6688cb10ffb3f463ce8d6a4e5789ff575b6"), looks := true }, kinds := [], alts := [], laidByText := true, laidKinds := [.listed, .data], laidTests := true, laidLooks := .later }
def KindBeginsCardSaid : Prop := Claim7.holds Tryz.pinned (.plain (OpenSpec.ofChange kindBeginsSpec)) kindBeginsCard

/-- THE TIED CARD OF 'stepstonelaw15.KindLevels'. -/
def kindLevelsCard : Claim7 := { stood := { row := kindLevelsRow, standIns := [], harness := (true, "65e2bdec9cfab438602a072c417bd6688cb10ffb3f463ce8d6a4e5789ff575b6"), looks := true }, kinds := [], alts := [], laidByText := true, laidKinds := [.listed, .data], laidTests := true, laidLooks := .later }
def KindLevelsCardSaid : Prop := Claim7.holds Tryz.pinned (.plain (OpenSpec.ofChange kindLevelsSpec)) kindLevelsCard

/-- THE TIED CARD OF 'stepstonelaw15.KindOf'. -/
def kindOfCard : Claim7 := { stood := { row := kindOfRow, standIns := [], harness := (true, "65e2bdec9cfab438602a072c417bd6688cb10ffb3f463ce8d6a4e5789ff575b6"), looks := true }, kinds := [], alts := [], laidByText := true, laidKinds := [.listed, .data], laidTests := true, laidLooks := .later }
def KindOfCardSaid : Prop := Claim7.holds Tryz.pinned (.plain (OpenSpec.ofChange kindOfSpec)) kindOfCard

/-- THE TIED CARD OF 'stepstonelaw15.KindMore'. -/
def kindMoreCard : Claim7 := { stood := { row := kindMoreRow, standIns := [], harness := (true, "65e2bdec9cfab438602a072c417bd6688cb10ffb3f463ce8d6a4e5789ff575b6"), looks := true }, kinds := [], alts := [], laidByText := true, laidKinds := [.listed, .data], laidTests := true, laidLooks := .later }
def KindMoreCardSaid : Prop := Claim7.holds Tryz.pinned (.plain (OpenSpec.ofChange kindMoreSpec)) kindMoreCard

/-- THE SECOND FORM's CARD OF 'stepstonelaw15.KindDiscrete'. -/
def kindDiscreteUptoCard : Claim7 := { stood := { row := kindDiscreteUptoRow, standIns := [], harness := (true, "65e2bdec9cfab438602a072c417bd6688cb10ffb3f463ce8d6a4e5789ff575b6"), looks := true }, kinds := [], alts := [], laidByText := true, laidKinds := [.listed, .data], laidTests := true, laidLooks := .later }
def KindDiscreteUptoCardSaid : Prop := Claim7.holds Tryz.pinned (.plain (OpenSpec.upto kindDiscreteSpec)) kindDiscreteUptoCard

/-- THE SECOND FORM's CARD OF 'stepstonelaw15.KindChecks'. -/
def kindChecksUptoCard : Claim7 := { stood := { row := kindChecksUptoRow, standIns := [], harness := (true, "65e2bdec9cfab438602a072c417bd6688cb10ffb3f463ce8d6a4e5789ff575b6"), looks := true }, kinds := [], alts := [], laidByText := true, laidKinds := [.listed, .data], laidTests := true, laidLooks := .later }
def KindChecksUptoCardSaid : Prop := Claim7.holds Tryz.pinned (.plain (OpenSpec.upto kindChecksSpec)) kindChecksUptoCard

/-- THE SECOND FORM's CARD OF 'stepstonelaw15.KindBegins'. -/
def kindBeginsUptoCard : Claim7 := { stood := { row := kindBeginsUptoRow, standIns := [], harness := (true, "65e2bdec9cfab438602a072c417bd6688cb10ffb3f463ce8d6a4e5789ff575b6"), looks := true }, kinds := [], alts := [], laidByText := true, laidKinds := [.listed, .data], laidTests := true, laidLooks := .later }
def KindBeginsUptoCardSaid : Prop := Claim7.holds Tryz.pinned (.plain (OpenSpec.upto kindBeginsSpec)) kindBeginsUptoCard

/-- THE SECOND FORM's CARD OF 'stepstonelaw15.KindLevels'. -/
def kindLevelsUptoCard : Claim7 := { stood := { row := kindLevelsUptoRow, standIns := [], harness := (true, "65e2bdec9cfab438602a072c417bd6688cb10ffb3f463ce8d6a4e5789ff575b6"), looks := true }, kinds := [], alts := [], laidByText := true, laidKinds := [.listed, .data], laidTests := true, laidLooks := .later }
def KindLevelsUptoCardSaid : Prop := Claim7.holds Tryz.pinned (.plain (OpenSpec.upto kindLevelsSpec)) kindLevelsUptoCard

/-- THE SECOND FORM's CARD OF 'stepstonelaw15.KindOf'. -/
def kindOfUptoCard : Claim7 := { stood := { row := kindOfUptoRow, standIns := [], harness := (true, "65e2bdec9cfab438602a072c417bd6688cb10ffb3f463ce8d6a4e5789ff575b6"), looks := true }, kinds := [], alts := [], laidByText := true, laidKinds := [.listed, .data], laidTests := true, laidLooks := .later }
def KindOfUptoCardSaid : Prop := Claim7.holds Tryz.pinned (.plain (OpenSpec.upto kindOfSpec)) kindOfUptoCard

/-- THE SECOND FORM's CARD OF 'stepstonelaw15.KindMore'. -/
def kindMoreUptoCard : Claim7 := { stood := { row := kindMoreUptoRow, standIns := [], harness := (true, "65e2bdec9cfab438602a072c417bd6688cb10ffb3f463ce8d6a4e5789ff575b6"), looks := true }, kinds := [], alts := [], laidByText := true, laidKinds := [.listed, .data], laidTests := true, laidLooks := .later }
def KindMoreUptoCardSaid : Prop := Claim7.holds Tryz.pinned (.plain (OpenSpec.upto kindMoreSpec)) kindMoreUptoCard
end Rows
end Go.Proofs.YtoehjlmdnajibaaGreatDoor
