/-
  DERIVED. GIVEN WITH THE SEED: THE CARDS: each row of YtakplnceiibmlaaGreatDoorRows.lean that lists a variable, with what it lists TIED to the program's text (the seventh form; the later family's looks); each row that meets fmt, with fmt's text TOLD by the authors' own Lean function (tested against real Go, not proved from fmt's source: count such statements apart). THE CARD IS WHAT COUNTS. Prove the row's statement (the work); the ties are given (YtakplnceiibmlaaGreatDoorTie.lean); close each card by the builder's one call (the guide's Derived/Test/ToyasCard.lean, 'card_holds'). Laid BY PROGRAM, IN A SANDBOX (cutbox-door.mjs). By AI agents, Wed Nov 11 2026. No macro, syntax, notation, axiom, sorry.
-/
import Derived.Test.YtakplnceiibmlaaGreatDoorRows
import GoSem.ClaimSeven
namespace Go.Proofs.YtakplnceiibmlaaGreatDoor
namespace Rows

/-- THE TIED CARD OF 'tollgatelaw08.MarkupPlaces'. -/
def markupPlacesCard : Claim7 := { stood := { row := markupPlacesRow, standIns := [], harness := (true, "43d63ac0c699fe479dd6200e3232f19c3c50c50061e7d2bb233055fd1a84f180"), looks := true }, kinds := [], alts := [], laidByText := true, laidKinds := [.data, .data, .data, .data, .sentinel, .sentinel, .pinned], laidTests := true, laidLooks := .later }
def MarkupPlacesCardSaid : Prop := Claim7.holds Tryz.pinned (.plain (OpenSpec.ofChange markupPlacesSpec)) markupPlacesCard

/-- THE TIED CARD OF 'tollgatelaw08.MarkupEscapes'. -/
def markupEscapesCard : Claim7 := { stood := { row := markupEscapesRow, standIns := [], harness := (true, "43d63ac0c699fe479dd6200e3232f19c3c50c50061e7d2bb233055fd1a84f180"), looks := true }, kinds := [], alts := [], laidByText := true, laidKinds := [.data, .data, .data, .data, .sentinel, .sentinel, .pinned], laidTests := true, laidLooks := .later }
def MarkupEscapesCardSaid : Prop := Claim7.holds Tryz.pinned (.plain (OpenSpec.ofChange markupEscapesSpec)) markupEscapesCard

/-- THE TIED CARD OF 'tollgatelaw08.MarkupBack'. -/
def markupBackCard : Claim7 := { stood := { row := markupBackRow, standIns := [], harness := (true, "43d63ac0c699fe479dd6200e3232f19c3c50c50061e7d2bb233055fd1a84f180"), looks := true }, kinds := [], alts := [], laidByText := true, laidKinds := [.data, .data, .data, .data, .sentinel, .sentinel, .pinned], laidTests := true, laidLooks := .later }
def MarkupBackCardSaid : Prop := Claim7.holds Tryz.pinned (.plain (OpenSpec.ofChange markupBackSpec)) markupBackCard

/-- THE SECOND FORM's CARD OF 'tollgatelaw08.MarkupPlaces'. -/
def markupPlacesUptoCard : Claim7 := { stood := { row := markupPlacesUptoRow, standIns := [], harness := (true, "43d63ac0c699fe479dd6200e3232f19c3c50c50061e7d2bb233055fd1a84f180"), looks := true }, kinds := [], alts := [], laidByText := true, laidKinds := [.data, .data, .data, .data, .sentinel, .sentinel, .pinned], laidTests := true, laidLooks := .later }
def MarkupPlacesUptoCardSaid : Prop := Claim7.holds Tryz.pinned (.plain (OpenSpec.upto markupPlacesSpec)) markupPlacesUptoCard

/-- THE SECOND FORM's CARD OF 'tollgatelaw08.MarkupEscapes'. -/
def markupEscapesUptoCard : Claim7 := { stood := { row := markupEscapesUptoRow, standIns := [], harness := (true, "43d63ac0c699fe479dd6200e3232f19c3c50c50061e7d2bb233055fd1a84f180"), looks := true }, kinds := [], alts := [], laidByText := true, laidKinds := [.data, .data, .data, .data, .sentinel, .sentinel, .pinned], laidTests := true, laidLooks := .later }
def MarkupEscapesUptoCardSaid : Prop := Claim7.holds Tryz.pinned (.plain (OpenSpec.upto markupEscapesSpec)) markupEscapesUptoCard

/-- THE SECOND FORM's CARD OF 'tollgatelaw08.MarkupBack'. -/
def markupBackUptoCard : Claim7 := { stood := { row := markupBackUptoRow, standIns := [], harness := (true, "43d63ac0c699fe479dd6200e3232f19c3c50c50061e7d2bb233055fd1a84f180"), looks := true }, kinds := [], alts := [], laidByText := true, laidKinds := [.data, .data, .data, .data, .sentinel, .sentinel, .pinned], laidTests := true, laidLooks := .later }
def MarkupBackUptoCardSaid : Prop := Claim7.holds Tryz.pinned (.plain (OpenSpec.upto markupBackSpec)) markupBackUptoCard
end Rows
end Go.Proofs.YtakplnceiibmlaaGreatDoor
