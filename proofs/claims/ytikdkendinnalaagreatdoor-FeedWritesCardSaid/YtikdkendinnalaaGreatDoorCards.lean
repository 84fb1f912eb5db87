/-
  DERIVED. GIVEN WITH THE SEED: THE CARDS: each row of YtikdkendinnalaaGreatDoorRows.lean that lists a variable, with what it lists TIED to the program's text (the seventh form; the later family's looks); each row that meets fmt, with fmt's text TOLD by the authors' own Lean function (tested against real Go, not proved from fmt's source: count such statements apart). THE CARD IS WHAT COUNTS. Prove the row's statement (the work); the ties are given (YtikdkendinnalaaGreatDoorTie.lean); close each card by the builder's one call (the guide's Derived/Test/ToyasCard.lean, 'card_holds'). Laid BY PROGRAM, IN A SANDBOX (cutbox-door.mjs). By AI agents, Wed Nov 11 2026. No macro, syntax, notation, axiom, sorry.
-/
import Derived.Test.YtikdkendinnalaaGreatDoorRows
import GoSem.ClaimSeven
namespace Go.Proofs.YtikdkendinnalaaGreatDoor
namespace Rows

/-- THE TIED CARD OF 'stepstonelaw14.FeedReads'. -/
def feedReadsCard : Claim7 := { stood := { row := feedReadsRow, standIns := [], harness := (true, "842466c98ea963c4a55eba32da679b0dc1f92c4c9876d2b292df2662035746fb"), looks := true }, kinds := [], alts := [], laidByText := true, laidKinds := [.data, .data, .data, .sentinel, .sentinel, .listed, .data], laidTests := true, laidLooks := .later }
def FeedReadsCardSaid : Prop := Claim7.holds Tryz.pinned (.plain (OpenSpec.ofChange feedReadsSpec)) feedReadsCard

/-- THE TIED CARD OF 'stepstonelaw14.FeedParts'. -/
def feedPartsCard : Claim7 := { stood := { row := feedPartsRow, standIns := [], harness := (true, "842466c98ea963c4a55eba32da679b0dc1f92c4c9876d2b292df2662035746fb"), looks := true }, kinds := [], alts := [], laidByText := true, laidKinds := [.data, .data, .data, .sentinel, .sentinel, .listed, .data], laidTests := true, laidLooks := .later }
def FeedPartsCardSaid : Prop := Claim7.holds Tryz.pinned (.plain (OpenSpec.ofChange feedPartsSpec)) feedPartsCard

/-- THE TIED CARD OF 'stepstonelaw14.FeedTwice'. -/
def feedTwiceCard : Claim7 := { stood := { row := feedTwiceRow, standIns := [], harness := (true, "842466c98ea963c4a55eba32da679b0dc1f92c4c9876d2b292df2662035746fb"), looks := true }, kinds := [], alts := [], laidByText := true, laidKinds := [.data, .data, .data, .sentinel, .sentinel, .listed, .data], laidTests := true, laidLooks := .later }
def FeedTwiceCardSaid : Prop := Claim7.holds Tryz.pinned (.plain (OpenSpec.ofChange feedTwiceSpec)) feedTwiceCard

/-- THE TIED CARD OF 'stepstonelaw14.FeedWrites'. -/
def feedWritesCard : Claim7 := { stood := { row := feedWritesRow, standIns := [], harness := (true, "842466c98ea963c4a55eba32da679b0dc1f92c4c9876d2b292df2662035746fb"), looks := true }, kinds := [], alts := [], laidByText := true, laidKinds := [.data, .data, .data, .sentinel, .sentinel, .listed, .data], laidTests := true, laidLooks := .later }
def FeedWritesCardSaid : Prop := Claim7.holds Tryz.pinned (.plain (OpenSpec.ofChange feedWritesSpec)) feedWritesCard

/-- THE SECOND FORM's CARD OF 'stepstonelaw14.FeedReads'. -/
def feedReadsUptoCard : Claim7 := { stood := { row := feedReadsUptoRow, standIns := [], harness := (true, "842466c98ea963c4a55eba32da679b0dc1f92c4c9876d2b292df2662035746fb"), looks := true }, kinds := [], alts := [], laidByText := true, laidKinds := [.data, .data, .data, .sentinel, .sentinel, .listed, .data], laidTests := true, laidLooks := .later }
def FeedReadsUptoCardSaid : Prop := Claim7.holds Tryz.pinned (.plain (OpenSpec.upto feedReadsSpec)) feedReadsUptoCard

/-- THE SECOND FORM's CARD OF 'stepstonelaw14.FeedParts'. -/
def feedPartsUptoCard : Claim7 := { stood := { row := feedPartsUptoRow, standIns := [], harness := (true, "842466c98ea963c4a55eba32da679b0dc1f92c4c9876d2b292df2662035746fb"), looks := true }, kinds := [], alts := [], laidByText := true, laidKinds := [.data, .data, .data, .sentinel, .sentinel, .listed, .data], laidTests := true, laidLooks := .later }
def FeedPartsUptoCardSaid : Prop := Claim7.holds Tryz.pinned (.plain (OpenSpec.upto feedPartsSpec)) feedPartsUptoCard

/-- THE SECOND FORM's CARD OF 'stepstonelaw14.FeedTwice'. -/
def feedTwiceUptoCard : Claim7 := { stood := { row := feedTwiceUptoRow, standIns := [], harness := (true, "842466c98ea963c4a55eba32da679b0dc1f92c4c9876d2b292df2662035746fb"), looks := true }, kinds := [], alts := [], laidByText := true, laidKinds := [.data, .data, .data, .sentinel, .sentinel, .listed, .data], laidTests := true, laidLooks := .later }
def FeedTwiceUptoCardSaid : Prop := Claim7.holds Tryz.pinned (.plain (OpenSpec.upto feedTwiceSpec)) feedTwiceUptoCard

/-- THE SECOND FORM's CARD OF 'stepstonelaw14.FeedWrites'. -/
def feedWritesUptoCard : Claim7 := { stood := { row := feedWritesUptoRow, standIns := [], harness := (true, "842466c98ea963c4a55eba32da679b0dc1f92c4c9876d2b292df2662035746fb"), looks := true }, kinds := [], alts := [], laidByText := true, laidKinds := [.data, .data, .data, .sentinel, .sentinel, .listed, .data], laidTests := true, laidLooks := .later }
def FeedWritesUptoCardSaid : Prop := Claim7.holds Tryz.pinned (.plain (OpenSpec.upto feedWritesSpec)) feedWritesUptoCard
end Rows
end Go.Proofs.YtikdkendinnalaaGreatDoor
