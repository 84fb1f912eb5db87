/-
  DERIVED. GIVEN WITH THE SEED: THE CARDS: each row of YtoapegnngbhkbaaGreatDoorRows.lean that lists a variable, with what it lists TIED to the program's text (the seventh form; the later family's looks); each row that meets fmt, with fmt's text TOLD by the authors' own Lean function (tested against real Go, not proved from fmt's source: count such statements apart). THE CARD IS WHAT COUNTS. Prove the row's statement (the work); the ties are given (YtoapegnngbhkbaaGreatDoorTie.lean); close each card by the builder's one call (the guide's Derived/Test/ToyasCard.lean, 'card_holds'). Laid BY PROGRAM, IN A SANDBOX (cutbox-door.mjs). By AI agents, Wed Nov 11 2026. No macro, syntax, notation, axiom, sorry.
-/
import Derived.Test.YtoapegnngbhkbaaGreatDoorRows
import GoSem.ClaimSeven
namespace Go.Proofs.YtoapegnngbhkbaaGreatDoor
namespace Rows

/-- THE TIED CARD OF 'stepstonelaw05.DyadTexts'. -/
def dyadTextsCard : Claim7 := { stood := { row := dyadTextsRow, standIns := [], harness := (true, "65eefca07c8a0b6431abd45faa018bc5804f53caed0b7d4ce78f6050a5bfc3ba"), looks := true }, kinds := [], alts := [], laidByText := true, laidKinds := [.data, .data, .data, .sentinel, .sentinel], laidTests := true, laidLooks := .later }
def DyadTextsCardSaid : Prop := Claim7.holds Tryz.pinned (.plain (OpenSpec.ofChange dyadTextsSpec)) dyadTextsCard

/-- THE TIED CARD OF 'stepstonelaw05.DyadRounds'. -/
def dyadRoundsCard : Claim7 := { stood := { row := dyadRoundsRow, standIns := [], harness := (true, "65eefca07c8a0b6431abd45faa018bc5804f53caed0b7d4ce78f6050a5bfc3ba"), looks := true }, kinds := [], alts := [], laidByText := true, laidKinds := [.data, .data, .data, .sentinel, .sentinel], laidTests := true, laidLooks := .later }
def DyadRoundsCardSaid : Prop := Claim7.holds Tryz.pinned (.plain (OpenSpec.ofChange dyadRoundsSpec)) dyadRoundsCard

/-- THE SECOND FORM's CARD OF 'stepstonelaw05.DyadTexts'. -/
def dyadTextsUptoCard : Claim7 := { stood := { row := dyadTextsUptoRow, standIns := [], harness := (true, "65eefca07c8a0b6431abd45faa018bc5804f53caed0b7d4ce78f6050a5bfc3ba"), looks := true }, kinds := [], alts := [], laidByText := true, laidKinds := [.data, .data, .data, .sentinel, .sentinel], laidTests := true, laidLooks := .later }
def DyadTextsUptoCardSaid : Prop := Claim7.holds Tryz.pinned (.plain (OpenSpec.upto dyadTextsSpec)) dyadTextsUptoCard

/-- THE SECOND FORM's CARD OF 'stepstonelaw05.DyadRounds'. -/
def dyadRoundsUptoCard : Claim7 := { stood := { row := dyadRoundsUptoRow, standIns := [], harness := (true, "65eefca07c8a0b6431abd45faa018bc5804f53caed0b7d4ce78f6050a5bfc3ba"), looks := true }, kinds := [], alts := [], laidByText := true, laidKinds := [.data, .data, .data, .sentinel, .sentinel], laidTests := true, laidLooks := .later }
def DyadRoundsUptoCardSaid : Prop := Claim7.holds Tryz.pinned (.plain (OpenSpec.upto dyadRoundsSpec)) dyadRoundsUptoCard
end Rows
end Go.Proofs.YtoapegnngbhkbaaGreatDoor
