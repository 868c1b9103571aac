/-
  DERIVED. GIVEN WITH THE SEED: THE CARDS: each row of YtohkomndapngjaaGreatDoorRows.lean that lists a variable, with what it lists TIED to the program's text (the seventh form; the later family's looks); each row that meets fmt, with fmt's text TOLD by the authors' own Lean function (tested against real Go, not proved from fmt's source: count such statements apart). THE CARD IS WHAT COUNTS. Prove the row's statement (the work); the ties are given (YtohkomndapngjaaGreatDoorTie.lean); close each card by the builder's one call (the guide's Derived/Test/ToyasCard.lean, 'card_holds'). Laid BY PROGRAM, IN A SANDBOX (cutbox-door.mjs). By AI agents, Wed Nov 11 2026. No macro, syntax, notation, axiom, sorry.
-/
import Derived.Test.YtohkomndapngjaaGreatDoorRows
import GoSem.ClaimSeven
namespace Go.Proofs.YtohkomndapngjaaGreatDoor
namespace Rows

/-- THE TIED CARD OF 'tollgatelaw30.RouteFields'. -/
def routeFieldsCard : Claim7 := { stood := { row := routeFieldsRow, standIns := [], harness := (true, "c403d174c889e279b6a62e8ba5b40493b6c713ecfd0a21abd6f568c768c4bc9d"), looks := true }, kinds := [], alts := [], laidByText := true, laidKinds := [.data, .data, .data, .data, .sentinel, .sentinel, .pinned], laidTests := true, laidLooks := .later }
def RouteFieldsCardSaid : Prop := Claim7.holds Tryz.pinned (.plain (OpenSpec.ofChange routeFieldsSpec)) routeFieldsCard

/-- THE TIED CARD OF 'tollgatelaw30.RouteNames'. -/
def routeNamesCard : Claim7 := { stood := { row := routeNamesRow, standIns := [], harness := (true, "c403d174c889e279b6a62e8ba5b40493b6c713ecfd0a21abd6f568c768c4bc9d"), looks := true }, kinds := [], alts := [], laidByText := true, laidKinds := [.data, .data, .data, .data, .sentinel, .sentinel, .pinned], laidTests := true, laidLooks := .later }
def RouteNamesCardSaid : Prop := Claim7.holds Tryz.pinned (.plain (OpenSpec.ofChange routeNamesSpec)) routeNamesCard

/-- THE SECOND FORM's CARD OF 'tollgatelaw30.RouteFields'. -/
def routeFieldsUptoCard : Claim7 := { stood := { row := routeFieldsUptoRow, standIns := [], harness := (true, "c403d174c889e279b6a62e8ba5b40493b6c713ecfd0a21abd6f568c768c4bc9d"), looks := true }, kinds := [], alts := [], laidByText := true, laidKinds := [.data, .data, .data, .data, .sentinel, .sentinel, .pinned], laidTests := true, laidLooks := .later }
def RouteFieldsUptoCardSaid : Prop := Claim7.holds Tryz.pinned (.plain (OpenSpec.upto routeFieldsSpec)) routeFieldsUptoCard

/-- THE SECOND FORM's CARD OF 'tollgatelaw30.RouteNames'. -/
def routeNamesUptoCard : Claim7 := { stood := { row := routeNamesUptoRow, standIns := [], harness := (true, "c403d174c889e279b6a62e8ba5b40493b6c713ecfd0a21abd6f568c768c4bc9d"), looks := true }, kinds := [], alts := [], laidByText := true, laidKinds := [.data, .data, .data, .data, .sentinel, .sentinel, .pinned], laidTests := true, laidLooks := .later }
def RouteNamesUptoCardSaid : Prop := Claim7.holds Tryz.pinned (.plain (OpenSpec.upto routeNamesSpec)) routeNamesUptoCard
end Rows
end Go.Proofs.YtohkomndapngjaaGreatDoor
