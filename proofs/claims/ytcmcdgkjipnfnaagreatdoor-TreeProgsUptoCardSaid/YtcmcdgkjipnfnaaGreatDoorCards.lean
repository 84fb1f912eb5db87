/-
  DERIVED. GIVEN WITH THE SEED: THE CARDS: each row of YtcmcdgkjipnfnaaGreatDoorRows.lean that lists a variable, with what it lists TIED to the program's text (the seventh form; the later family's looks); each row that meets fmt, with fmt's text TOLD by the authors' own Lean function (tested against real Go, not proved from fmt's source: count such statements apart). THE CARD IS WHAT COUNTS. Prove the row's statement (the work); the ties are given (YtcmcdgkjipnfnaaGreatDoorTie.lean); close each card by the builder's one call (the guide's Derived/Test/ToyasCard.lean, 'card_holds'). Laid BY PROGRAM, IN A SANDBOX (cutbox-door.mjs). By AI agents, Wed Nov 11 2026. No macro, syntax, notation, axiom, sorry.
-/
import Derived.Test.YtcmcdgkjipnfnaaGreatDoorRows
import GoSem.ClaimSeven
namespace Go.Proofs.YtcmcdgkjipnfnaaGreatDoor
namespace Rows

/-- THE TIED CARD OF 'stepstonelaw12.TreeExprs'. -/
def treeExprsCard : Claim7 := { stood := { row := treeExprsRow, standIns := [], harness := (true, "7d4a0ebfc5f275a7e0fb9a7fdef8d95e5cf8e9c7f639edc960f1c50edf07979c"), looks := false }, kinds := [], alts := [], laidByText := true, laidKinds := [.listed, .data], laidTests := true, laidLooks := .later }
def TreeExprsCardSaid : Prop := Claim7.holds Tryz.pinned (.plain (OpenSpec.ofChange treeExprsSpec)) treeExprsCard

/-- THE TIED CARD OF 'stepstonelaw12.TreeProgs'. -/
def treeProgsCard : Claim7 := { stood := { row := treeProgsRow, standIns := [], harness := (true, "7d4a0ebfc5f275a7e0fb9a7fdef8d95e5cf8e9c7f639edc960f1c50edf07979c"), looks := false }, kinds := [], alts := [], laidByText := true, laidKinds := [.listed, .data], laidTests := true, laidLooks := .later }
def TreeProgsCardSaid : Prop := Claim7.holds Tryz.pinned (.plain (OpenSpec.ofChange treeProgsSpec)) treeProgsCard

/-- THE SECOND FORM's CARD OF 'stepstonelaw12.TreeExprs'. -/
def treeExprsUptoCard : Claim7 := { stood := { row := treeExprsUptoRow, standIns := [], harness := (true, "7d4a0ebfc5f275a7e0fb9a7fdef8d95e5cf8e9c7f639edc960f1c50edf07979c"), looks := false }, kinds := [], alts := [], laidByText := true, laidKinds := [.listed, .data], laidTests := true, laidLooks := .later }
def TreeExprsUptoCardSaid : Prop := Claim7.holds Tryz.pinned (.plain (OpenSpec.upto treeExprsSpec)) treeExprsUptoCard

/-- THE SECOND FORM's CARD OF 'stepstonelaw12.TreeProgs'. -/
def treeProgsUptoCard : Claim7 := { stood := { row := treeProgsUptoRow, standIns := [], harness := (true, "7d4a0ebfc5f275a7e0fb9a7fdef8d95e5cf8e9c7f639edc960f1c50edf07979c"), looks := false }, kinds := [], alts := [], laidByText := true, laidKinds := [.listed, .data], laidTests := true, laidLooks := .later }
def TreeProgsUptoCardSaid : Prop := Claim7.holds Tryz.pinned (.plain (OpenSpec.upto treeProgsSpec)) treeProgsUptoCard
end Rows
end Go.Proofs.YtcmcdgkjipnfnaaGreatDoor
