/-
  DERIVED. GIVEN WITH THE SEED: THE CARDS: each row of YtmcajoiembfjiaaDoorRows.lean that lists a variable, with what it lists TIED to the program's text (the seventh form; the later family's looks); each row that meets fmt, with fmt's text TOLD by the authors' own Lean function (tested against real Go, not proved from fmt's source: count such statements apart). THE CARD IS WHAT COUNTS. Prove the row's statement (the work); the ties are given (YtmcajoiembfjiaaDoorTie.lean); close each card by the builder's one call (the guide's Derived/Test/ToyasCard.lean, 'card_holds'). Laid BY PROGRAM, IN A SANDBOX (cutbox-door.mjs). By AI agents, Wed Nov 11 2026. No macro, syntax, notation, axiom, sorry.
-/
import Derived.Test.YtmcajoiembfjiaaDoorRows
import GoSem.ClaimSeven
namespace Go.Proofs.YtmcajoiembfjiaaDoor
namespace Rows

/-- THE TIED CARD OF 'stepstonelaw11.TokenReads'. -/
def tokenReadsCard : Claim7 := { stood := { row := tokenReadsRow, standIns := [], harness := (true, "4d41360e6970d9a975161b0d21f2a03cf6720ea4204e92fa180e7650a9b7b946"), looks := false }, kinds := [], alts := [], laidByText := true, laidKinds := [.listed, .data], laidTests := true, laidLooks := .later }
def TokenReadsCardSaid : Prop := Claim7.holds Tryd.pinned (.plain (OpenSpec.ofChange tokenReadsSpec)) tokenReadsCard

/-- THE TIED CARD OF 'stepstonelaw11.TokenPlace'. -/
def tokenPlaceCard : Claim7 := { stood := { row := tokenPlaceRow, standIns := [], harness := (true, "4d41360e6970d9a975161b0d21f2a03cf6720ea4204e92fa180e7650a9b7b946"), looks := false }, kinds := [], alts := [], laidByText := true, laidKinds := [.listed, .data], laidTests := true, laidLooks := .later }
def TokenPlaceCardSaid : Prop := Claim7.holds Tryd.pinned (.plain (OpenSpec.ofChange tokenPlaceSpec)) tokenPlaceCard

/-- THE TIED CARD OF 'stepstonelaw11.TokenRises'. -/
def tokenRisesCard : Claim7 := { stood := { row := tokenRisesRow, standIns := [], harness := (true, "4d41360e6970d9a975161b0d21f2a03cf6720ea4204e92fa180e7650a9b7b946"), looks := false }, kinds := [], alts := [], laidByText := true, laidKinds := [.listed, .data], laidTests := true, laidLooks := .later }
def TokenRisesCardSaid : Prop := Claim7.holds Tryd.pinned (.plain (OpenSpec.ofChange tokenRisesSpec)) tokenRisesCard

/-- THE TIED CARD OF 'stepstonelaw11.TokenMany'. -/
def tokenManyCard : Claim7 := { stood := { row := tokenManyRow, standIns := [], harness := (true, "4d41360e6970d9a975161b0d21f2a03cf6720ea4204e92fa180e7650a9b7b946"), looks := false }, kinds := [], alts := [], laidByText := true, laidKinds := [.listed, .data], laidTests := true, laidLooks := .later }
def TokenManyCardSaid : Prop := Claim7.holds Tryd.pinned (.plain (OpenSpec.ofChange tokenManySpec)) tokenManyCard

/-- THE TIED CARD OF 'stepstonelaw11.TokenJoins'. -/
def tokenJoinsCard : Claim7 := { stood := { row := tokenJoinsRow, standIns := [], harness := (true, "4d41360e6970d9a975161b0d21f2a03cf6720ea4204e92fa180e7650a9b7b946"), looks := false }, kinds := [], alts := [], laidByText := true, laidKinds := [.listed, .data], laidTests := true, laidLooks := .later }
def TokenJoinsCardSaid : Prop := Claim7.holds Tryd.pinned (.plain (OpenSpec.ofChange tokenJoinsSpec)) tokenJoinsCard

/-- THE SECOND FORM's CARD OF 'stepstonelaw11.TokenReads'. -/
def tokenReadsUptoCard : Claim7 := { stood := { row := tokenReadsUptoRow, standIns := [], harness := (true, "4d41360e6970d9a975161b0d21f2a03cf6720ea4204e92fa180e7650a9b7b946"), looks := false }, kinds := [], alts := [], laidByText := true, laidKinds := [.listed, .data], laidTests := true, laidLooks := .later }
def TokenReadsUptoCardSaid : Prop := Claim7.holds Tryd.pinned (.plain (OpenSpec.upto tokenReadsSpec)) tokenReadsUptoCard

/-- THE SECOND FORM's CARD OF 'stepstonelaw11.TokenPlace'. -/
def tokenPlaceUptoCard : Claim7 := { stood := { row := tokenPlaceUptoRow, standIns := [], harness := (true, "4d41360e6970d9a975161b0d21f2a03cf6720ea4204e92fa180e7650a9b7b946"), looks := false }, kinds := [], alts := [], laidByText := true, laidKinds := [.listed, .data], laidTests := true, laidLooks := .later }
def TokenPlaceUptoCardSaid : Prop := Claim7.holds Tryd.pinned (.plain (OpenSpec.upto tokenPlaceSpec)) tokenPlaceUptoCard

/-- THE SECOND FORM's CARD OF 'stepstonelaw11.TokenRises'. -/
def tokenRisesUptoCard : Claim7 := { stood := { row := tokenRisesUptoRow, standIns := [], harness := (true, "4d41360e6970d9a975161b0d21f2a03cf6720ea4204e92fa180e7650a9b7b946"), looks := false }, kinds := [], alts := [], laidByText := true, laidKinds := [.listed, .data], laidTests := true, laidLooks := .later }
def TokenRisesUptoCardSaid : Prop := Claim7.holds Tryd.pinned (.plain (OpenSpec.upto tokenRisesSpec)) tokenRisesUptoCard

/-- THE SECOND FORM's CARD OF 'stepstonelaw11.TokenMany'. -/
def tokenManyUptoCard : Claim7 := { stood := { row := tokenManyUptoRow, standIns := [], harness := (true, "4d41360e6970d9a975161b0d21f2a03cf6720ea4204e92fa180e7650a9b7b946"), looks := false }, kinds := [], alts := [], laidByText := true, laidKinds := [.listed, .data], laidTests := true, laidLooks := .later }
def TokenManyUptoCardSaid : Prop := Claim7.holds Tryd.pinned (.plain (OpenSpec.upto tokenManySpec)) tokenManyUptoCard

/-- THE SECOND FORM's CARD OF 'stepstonelaw11.TokenJoins'. -/
def tokenJoinsUptoCard : Claim7 := { stood := { row := tokenJoinsUptoRow, standIns := [], harness := (true, "4d41360e6970d9a975161b0d21f2a03cf6720ea4204e92fa180e7650a9b7b946"), looks := false }, kinds := [], alts := [], laidByText := true, laidKinds := [.listed, .data], laidTests := true, laidLooks := .later }
def TokenJoinsUptoCardSaid : Prop := Claim7.holds Tryd.pinned (.plain (OpenSpec.upto tokenJoinsSpec)) tokenJoinsUptoCard
end Rows
end Go.Proofs.YtmcajoiembfjiaaDoor
