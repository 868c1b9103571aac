/-
  DERIVED. GIVEN WITH THE SEED: THE CARDS: each row of YtohdifffdgoaaaaDoorRows.lean that lists a variable, with what it lists TIED to the program's text (the seventh form; the later family's looks); each row that meets fmt, with fmt's text TOLD by the authors' own Lean function (tested against real Go, not proved from fmt's source: count such statements apart). THE CARD IS WHAT COUNTS. Prove the row's statement (the work); the ties are given (YtohdifffdgoaaaaDoorTie.lean); close each card by the builder's one call (the guide's Derived/Test/ToyasCard.lean, 'card_holds'). Laid BY PROGRAM, IN A SANDBOX (cutbox-door.mjs). By AI agents, Wed Nov 11 2026. No macro, syntax, notation, axiom, sorry.
-/
import Derived.Test.YtohdifffdgoaaaaDoorRows
import GoSem.ClaimSeven
namespace Go.Proofs.YtohdifffdgoaaaaDoor
namespace Rows

/-- THE TIED CARD OF 'tollgatelaw09.ValueReckons'. -/
def valueReckonsCard : Claim7 := { stood := { row := valueReckonsRow, standIns := [], harness := (true, "f4145b659aa399118064d4eb4d7734aaf07bbc5ed4a20a710a4ae273316e242d"), looks := true }, kinds := [], alts := [], laidByText := true, laidKinds := [.data, .pinned], laidTests := true, laidLooks := .later }
def ValueReckonsCardSaid : Prop := Claim7.holds Tryd.pinned (.plain (OpenSpec.ofChange valueReckonsSpec)) valueReckonsCard

/-- THE TIED CARD OF 'tollgatelaw09.ValueBinds'. -/
def valueBindsCard : Claim7 := { stood := { row := valueBindsRow, standIns := [], harness := (true, "f4145b659aa399118064d4eb4d7734aaf07bbc5ed4a20a710a4ae273316e242d"), looks := true }, kinds := [], alts := [], laidByText := true, laidKinds := [.data, .pinned], laidTests := true, laidLooks := .later }
def ValueBindsCardSaid : Prop := Claim7.holds Tryd.pinned (.plain (OpenSpec.ofChange valueBindsSpec)) valueBindsCard

/-- THE TIED CARD OF 'tollgatelaw09.ValueTells'. -/
def valueTellsCard : Claim7 := { stood := { row := valueTellsRow, standIns := [], harness := (true, "f4145b659aa399118064d4eb4d7734aaf07bbc5ed4a20a710a4ae273316e242d"), looks := true }, kinds := [], alts := [], laidByText := true, laidKinds := [.data, .data, .data, .data, .sentinel, .sentinel, .pinned], laidTests := true, laidLooks := .later }
def ValueTellsCardSaid : Prop := Claim7.holds Tryd.pinned (.plain (OpenSpec.ofChange valueTellsSpec)) valueTellsCard

/-- THE TIED CARD OF 'tollgatelaw09.ValuePatched'. -/
def valuePatchedCard : Claim7 := { stood := { row := valuePatchedRow, standIns := [], harness := (true, "f4145b659aa399118064d4eb4d7734aaf07bbc5ed4a20a710a4ae273316e242d"), looks := true }, kinds := [], alts := [], laidByText := true, laidKinds := [.data, .data, .data, .data, .sentinel, .sentinel, .pinned], laidTests := true, laidLooks := .later }
def ValuePatchedCardSaid : Prop := Claim7.holds Tryd.pinned (.plain (OpenSpec.ofChange valuePatchedSpec)) valuePatchedCard

/-- THE TIED CARD OF 'tollgatelaw09.ValueTwoPatches'. -/
def valueTwoPatchesCard : Claim7 := { stood := { row := valueTwoPatchesRow, standIns := [], harness := (true, "f4145b659aa399118064d4eb4d7734aaf07bbc5ed4a20a710a4ae273316e242d"), looks := true }, kinds := [], alts := [], laidByText := true, laidKinds := [.data, .data, .data, .data, .sentinel, .sentinel, .pinned], laidTests := true, laidLooks := .later }
def ValueTwoPatchesCardSaid : Prop := Claim7.holds Tryd.pinned (.plain (OpenSpec.ofChange valueTwoPatchesSpec)) valueTwoPatchesCard

/-- THE TIED CARD OF 'tollgatelaw09.ValueOrder'. -/
def valueOrderCard : Claim7 := { stood := { row := valueOrderRow, standIns := [], harness := (true, "f4145b659aa399118064d4eb4d7734aaf07bbc5ed4a20a710a4ae273316e242d"), looks := true }, kinds := [], alts := [], laidByText := true, laidKinds := [.data, .data, .data, .data, .sentinel, .sentinel, .pinned], laidTests := true, laidLooks := .later }
def ValueOrderCardSaid : Prop := Claim7.holds Tryd.pinned (.plain (OpenSpec.ofChange valueOrderSpec)) valueOrderCard

/-- THE TIED CARD OF 'tollgatelaw09.ValueRings'. -/
def valueRingsCard : Claim7 := { stood := { row := valueRingsRow, standIns := [], harness := (true, "f4145b659aa399118064d4eb4d7734aaf07bbc5ed4a20a710a4ae273316e242d"), looks := true }, kinds := [], alts := [], laidByText := true, laidKinds := [.data, .data, .data, .data, .sentinel, .sentinel, .pinned], laidTests := true, laidLooks := .later }
def ValueRingsCardSaid : Prop := Claim7.holds Tryd.pinned (.plain (OpenSpec.ofChange valueRingsSpec)) valueRingsCard

/-- THE TIED CARD OF 'tollgatelaw09.ValueNames'. -/
def valueNamesCard : Claim7 := { stood := { row := valueNamesRow, standIns := [], harness := (true, "f4145b659aa399118064d4eb4d7734aaf07bbc5ed4a20a710a4ae273316e242d"), looks := true }, kinds := [], alts := [], laidByText := true, laidKinds := [.data, .data, .data, .data, .sentinel, .sentinel, .pinned], laidTests := true, laidLooks := .later }
def ValueNamesCardSaid : Prop := Claim7.holds Tryd.pinned (.plain (OpenSpec.ofChange valueNamesSpec)) valueNamesCard

/-- THE TIED CARD OF 'tollgatelaw09.ValueSorted'. -/
def valueSortedCard : Claim7 := { stood := { row := valueSortedRow, standIns := [], harness := (true, "f4145b659aa399118064d4eb4d7734aaf07bbc5ed4a20a710a4ae273316e242d"), looks := true }, kinds := [], alts := [], laidByText := true, laidKinds := [.data, .data, .data, .data, .sentinel, .sentinel, .pinned], laidTests := true, laidLooks := .later }
def ValueSortedCardSaid : Prop := Claim7.holds Tryd.pinned (.plain (OpenSpec.ofChange valueSortedSpec)) valueSortedCard

/-- THE SECOND FORM's CARD OF 'tollgatelaw09.ValueReckons'. -/
def valueReckonsUptoCard : Claim7 := { stood := { row := valueReckonsUptoRow, standIns := [], harness := (true, "f4145b659aa399118064d4eb4d7734aaf07bbc5ed4a20a710a4ae273316e242d"), looks := true }, kinds := [], alts := [], laidByText := true, laidKinds := [.data, .pinned], laidTests := true, laidLooks := .later }
def ValueReckonsUptoCardSaid : Prop := Claim7.holds Tryd.pinned (.plain (OpenSpec.upto valueReckonsSpec)) valueReckonsUptoCard

/-- THE SECOND FORM's CARD OF 'tollgatelaw09.ValueBinds'. -/
def valueBindsUptoCard : Claim7 := { stood := { row := valueBindsUptoRow, standIns := [], harness := (true, "f4145b659aa399118064d4eb4d7734aaf07bbc5ed4a20a710a4ae273316e242d"), looks := true }, kinds := [], alts := [], laidByText := true, laidKinds := [.data, .pinned], laidTests := true, laidLooks := .later }
def ValueBindsUptoCardSaid : Prop := Claim7.holds Tryd.pinned (.plain (OpenSpec.upto valueBindsSpec)) valueBindsUptoCard

/-- THE SECOND FORM's CARD OF 'tollgatelaw09.ValueTells'. -/
def valueTellsUptoCard : Claim7 := { stood := { row := valueTellsUptoRow, standIns := [], harness := (true, "f4145b659aa399118064d4eb4d7734aaf07bbc5ed4a20a710a4ae273316e242d"), looks := true }, kinds := [], alts := [], laidByText := true, laidKinds := [.data, .data, .data, .data, .sentinel, .sentinel, .pinned], laidTests := true, laidLooks := .later }
def ValueTellsUptoCardSaid : Prop := Claim7.holds Tryd.pinned (.plain (OpenSpec.upto valueTellsSpec)) valueTellsUptoCard

/-- THE SECOND FORM's CARD OF 'tollgatelaw09.ValuePatched'. -/
def valuePatchedUptoCard : Claim7 := { stood := { row := valuePatchedUptoRow, standIns := [], harness := (true, "f4145b659aa399118064d4eb4d7734aaf07bbc5ed4a20a710a4ae273316e242d"), looks := true }, kinds := [], alts := [], laidByText := true, laidKinds := [.data, .data, .data, .data, .sentinel, .sentinel, .pinned], laidTests := true, laidLooks := .later }
def ValuePatchedUptoCardSaid : Prop := Claim7.holds Tryd.pinned (.plain (OpenSpec.upto valuePatchedSpec)) valuePatchedUptoCard

/-- THE SECOND FORM's CARD OF 'tollgatelaw09.ValueTwoPatches'. -/
def valueTwoPatchesUptoCard : Claim7 := { stood := { row := valueTwoPatchesUptoRow, standIns := [], harness := (true, "f4145b659aa399118064d4eb4d7734aaf07bbc5ed4a20a710a4ae273316e242d"), looks := true }, kinds := [], alts := [], laidByText := true, laidKinds := [.data, .data, .data, .data, .sentinel, .sentinel, .pinned], laidTests := true, laidLooks := .later }
def ValueTwoPatchesUptoCardSaid : Prop := Claim7.holds Tryd.pinned (.plain (OpenSpec.upto valueTwoPatchesSpec)) valueTwoPatchesUptoCard

/-- THE SECOND FORM's CARD OF 'tollgatelaw09.ValueOrder'. -/
def valueOrderUptoCard : Claim7 := { stood := { row := valueOrderUptoRow, standIns := [], harness := (true, "f4145b659aa399118064d4eb4d7734aaf07bbc5ed4a20a710a4ae273316e242d"), looks := true }, kinds := [], alts := [], laidByText := true, laidKinds := [.data, .data, .data, .data, .sentinel, .sentinel, .pinned], laidTests := true, laidLooks := .later }
def ValueOrderUptoCardSaid : Prop := Claim7.holds Tryd.pinned (.plain (OpenSpec.upto valueOrderSpec)) valueOrderUptoCard

/-- THE SECOND FORM's CARD OF 'tollgatelaw09.ValueRings'. -/
def valueRingsUptoCard : Claim7 := { stood := { row := valueRingsUptoRow, standIns := [], harness := (true, "f4145b659aa399118064d4eb4d7734aaf07bbc5ed4a20a710a4ae273316e242d"), looks := true }, kinds := [], alts := [], laidByText := true, laidKinds := [.data, .data, .data, .data, .sentinel, .sentinel, .pinned], laidTests := true, laidLooks := .later }
def ValueRingsUptoCardSaid : Prop := Claim7.holds Tryd.pinned (.plain (OpenSpec.upto valueRingsSpec)) valueRingsUptoCard

/-- THE SECOND FORM's CARD OF 'tollgatelaw09.ValueNames'. -/
def valueNamesUptoCard : Claim7 := { stood := { row := valueNamesUptoRow, standIns := [], harness := (true, "f4145b659aa399118064d4eb4d7734aaf07bbc5ed4a20a710a4ae273316e242d"), looks := true }, kinds := [], alts := [], laidByText := true, laidKinds := [.data, .data, .data, .data, .sentinel, .sentinel, .pinned], laidTests := true, laidLooks := .later }
def ValueNamesUptoCardSaid : Prop := Claim7.holds Tryd.pinned (.plain (OpenSpec.upto valueNamesSpec)) valueNamesUptoCard

/-- THE SECOND FORM's CARD OF 'tollgatelaw09.ValueSorted'. -/
def valueSortedUptoCard : Claim7 := { stood := { row := valueSortedUptoRow, standIns := [], harness := (true, "f4145b659aa399118064d4eb4d7734aaf07bbc5ed4a20a710a4ae273316e242d"), looks := true }, kinds := [], alts := [], laidByText := true, laidKinds := [.data, .data, .data, .data, .sentinel, .sentinel, .pinned], laidTests := true, laidLooks := .later }
def ValueSortedUptoCardSaid : Prop := Claim7.holds Tryd.pinned (.plain (OpenSpec.upto valueSortedSpec)) valueSortedUptoCard
end Rows
end Go.Proofs.YtohdifffdgoaaaaDoor
