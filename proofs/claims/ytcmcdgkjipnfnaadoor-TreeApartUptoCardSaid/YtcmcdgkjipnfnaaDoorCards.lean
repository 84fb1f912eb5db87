/-
  DERIVED. GIVEN WITH THE SEED: THE CARDS: each row of YtcmcdgkjipnfnaaDoorRows.lean that lists a variable, with what it lists TIED to the program's text (the seventh form; the later family's looks); each row that meets fmt, with fmt's text TOLD by the authors' own Lean function (tested against real Go, not proved from fmt's source: count such statements apart). THE CARD IS WHAT COUNTS. Prove the row's statement (the work); the ties are given (YtcmcdgkjipnfnaaDoorTie.lean); close each card by the builder's one call (the guide's Derived/Test/ToyasCard.lean, 'card_holds'). Laid BY PROGRAM, IN A SANDBOX (cutbox-door.mjs). By AI agents, Wed Nov 11 2026. No macro, syntax, notation, axiom, sorry.
-/
import Derived.Test.YtcmcdgkjipnfnaaDoorRows
import GoSem.ClaimSeven
namespace Go.Proofs.YtcmcdgkjipnfnaaDoor
namespace Rows

/-- THE TIED CARD OF 'stepstonelaw12.TreeName'. -/
def treeNameCard : Claim7 := { stood := { row := treeNameRow, standIns := [], harness := (true, "614634e4812a1ceafbd0abe881a854bc591947a8d3d568739848297dd729f6be"), looks := false }, kinds := [], alts := [], laidByText := true, laidKinds := [.listed, .data], laidTests := true, laidLooks := .later }
def TreeNameCardSaid : Prop := Claim7.holds Tryd.pinned (.plain (OpenSpec.ofChange treeNameSpec)) treeNameCard

/-- THE TIED CARD OF 'stepstonelaw12.TreeApart'. -/
def treeApartCard : Claim7 := { stood := { row := treeApartRow, standIns := [], harness := (true, "614634e4812a1ceafbd0abe881a854bc591947a8d3d568739848297dd729f6be"), looks := false }, kinds := [], alts := [], laidByText := true, laidKinds := [.listed, .data], laidTests := true, laidLooks := .later }
def TreeApartCardSaid : Prop := Claim7.holds Tryd.pinned (.plain (OpenSpec.ofChange treeApartSpec)) treeApartCard

/-- THE TIED CARD OF 'stepstonelaw12.TreeOwn'. -/
def treeOwnCard : Claim7 := { stood := { row := treeOwnRow, standIns := [], harness := (true, "614634e4812a1ceafbd0abe881a854bc591947a8d3d568739848297dd729f6be"), looks := false }, kinds := [], alts := [], laidByText := true, laidKinds := [.listed, .data], laidTests := true, laidLooks := .later }
def TreeOwnCardSaid : Prop := Claim7.holds Tryd.pinned (.plain (OpenSpec.ofChange treeOwnSpec)) treeOwnCard

/-- THE SECOND FORM's CARD OF 'stepstonelaw12.TreeName'. -/
def treeNameUptoCard : Claim7 := { stood := { row := treeNameUptoRow, standIns := [], harness := (true, "614634e4812a1ceafbd0abe881a854bc591947a8d3d568739848297dd729f6be"), looks := false }, kinds := [], alts := [], laidByText := true, laidKinds := [.listed, .data], laidTests := true, laidLooks := .later }
def TreeNameUptoCardSaid : Prop := Claim7.holds Tryd.pinned (.plain (OpenSpec.upto treeNameSpec)) treeNameUptoCard

/-- THE SECOND FORM's CARD OF 'stepstonelaw12.TreeApart'. -/
def treeApartUptoCard : Claim7 := { stood := { row := treeApartUptoRow, standIns := [], harness := (true, "614634e4812a1ceafbd0abe881a854bc591947a8d3d568739848297dd729f6be"), looks := false }, kinds := [], alts := [], laidByText := true, laidKinds := [.listed, .data], laidTests := true, laidLooks := .later }
def TreeApartUptoCardSaid : Prop := Claim7.holds Tryd.pinned (.plain (OpenSpec.upto treeApartSpec)) treeApartUptoCard

/-- THE SECOND FORM's CARD OF 'stepstonelaw12.TreeOwn'. -/
def treeOwnUptoCard : Claim7 := { stood := { row := treeOwnUptoRow, standIns := [], harness := (true, "614634e4812a1ceafbd0abe881a854bc591947a8d3d568739848297dd729f6be"), looks := false }, kinds := [], alts := [], laidByText := true, laidKinds := [.listed, .data], laidTests := true, laidLooks := .later }
def TreeOwnUptoCardSaid : Prop := Claim7.holds Tryd.pinned (.plain (OpenSpec.upto treeOwnSpec)) treeOwnUptoCard
end Rows
end Go.Proofs.YtcmcdgkjipnfnaaDoor
