/-
  DERIVED. GIVEN WITH THE SEED: THE CARDS: each row of YtphjfighamadgaaGreatDoorRows.lean that lists a variable, with what it lists TIED to the program's text (the seventh form; the later family's looks); each row that meets fmt, with fmt's text TOLD by the authors' own Lean function (tested against real Go, not proved from fmt's source: count such statements apart). THE CARD IS WHAT COUNTS. Prove the row's statement (the work); the ties are given (YtphjfighamadgaaGreatDoorTie.lean); close each card by the builder's one call (the guide's Derived/Test/ToyasCard.lean, 'card_holds'). Laid BY PROGRAM, IN A SANDBOX (cutbox-door.mjs). By AI agents, Wed Nov 11 2026. No macro, syntax, notation, axiom, sorry.
-/
import Derived.Test.YtphjfighamadgaaGreatDoorRows
import GoSem.ClaimSeven
namespace Go.Proofs.YtphjfighamadgaaGreatDoor
namespace Rows

/-- THE TIED CARD OF 'tollgatelaw28.JtextReads'. -/
def jtextReadsCard : Claim7 := { stood := { row := jtextReadsRow, standIns := [], harness := (true, "1220b45e2f74cc8f9172a8088a804826e6e64be95b84d442e0777652fcc24d73"), looks := true }, kinds := [], alts := [], laidByText := true, laidKinds := [.data, .data, .data, .data, .sentinel, .sentinel, .pinned], laidTests := true, laidLooks := .later }
def JtextReadsCardSaid : Prop := Claim7.holds Tryz.pinned (.plain (OpenSpec.ofChange jtextReadsSpec)) jtextReadsCard

/-- THE TIED CARD OF 'tollgatelaw28.JtextNames'. -/
def jtextNamesCard : Claim7 := { stood := { row := jtextNamesRow, standIns := [], harness := (true, "1220b45e2f74cc8f9172a8088a804826e6e64be95b84d442e0777652fcc24d73"), looks := true }, kinds := [], alts := [], laidByText := true, laidKinds := [.data, .data, .data, .data, .sentinel, .sentinel, .pinned], laidTests := true, laidLooks := .later }
def JtextNamesCardSaid : Prop := Claim7.holds Tryz.pinned (.plain (OpenSpec.ofChange jtextNamesSpec)) jtextNamesCard

/-- THE TIED CARD OF 'tollgatelaw28.JtextMakes'. -/
def jtextMakesCard : Claim7 := { stood := { row := jtextMakesRow, standIns := [], harness := (true, "1220b45e2f74cc8f9172a8088a804826e6e64be95b84d442e0777652fcc24d73"), looks := true }, kinds := [], alts := [], laidByText := true, laidKinds := [.data, .data, .data, .data, .sentinel, .sentinel, .pinned], laidTests := true, laidLooks := .later }
def JtextMakesCardSaid : Prop := Claim7.holds Tryz.pinned (.plain (OpenSpec.ofChange jtextMakesSpec)) jtextMakesCard

/-- THE TIED CARD OF 'tollgatelaw28.JtextBack'. -/
def jtextBackCard : Claim7 := { stood := { row := jtextBackRow, standIns := [], harness := (true, "1220b45e2f74cc8f9172a8088a804826e6e64be95b84d442e0777652fcc24d73"), looks := true }, kinds := [], alts := [], laidByText := true, laidKinds := [.data, .data, .data, .data, .sentinel, .sentinel, .pinned], laidTests := true, laidLooks := .later }
def JtextBackCardSaid : Prop := Claim7.holds Tryz.pinned (.plain (OpenSpec.ofChange jtextBackSpec)) jtextBackCard

/-- THE TIED CARD OF 'tollgatelaw28.JtextBlanks'. -/
def jtextBlanksCard : Claim7 := { stood := { row := jtextBlanksRow, standIns := [], harness := (true, "1220b45e2f74cc8f9172a8088a804826e6e64be95b84d442e0777652fcc24d73"), looks := true }, kinds := [], alts := [], laidByText := true, laidKinds := [.data, .data, .data, .data, .sentinel, .sentinel, .pinned], laidTests := true, laidLooks := .later }
def JtextBlanksCardSaid : Prop := Claim7.holds Tryz.pinned (.plain (OpenSpec.ofChange jtextBlanksSpec)) jtextBlanksCard

/-- THE SECOND FORM's CARD OF 'tollgatelaw28.JtextReads'. -/
def jtextReadsUptoCard : Claim7 := { stood := { row := jtextReadsUptoRow, standIns := [], harness := (true, "1220b45e2f74cc8f9172a8088a804826e6e64be95b84d442e0777652fcc24d73"), looks := true }, kinds := [], alts := [], laidByText := true, laidKinds := [.data, .data, .data, .data, .sentinel, .sentinel, .pinned], laidTests := true, laidLooks := .later }
def JtextReadsUptoCardSaid : Prop := Claim7.holds Tryz.pinned (.plain (OpenSpec.upto jtextReadsSpec)) jtextReadsUptoCard

/-- THE SECOND FORM's CARD OF 'tollgatelaw28.JtextNames'. -/
def jtextNamesUptoCard : Claim7 := { stood := { row := jtextNamesUptoRow, standIns := [], harness := (true, "1220b45e2f74cc8f9172a8088a804826e6e64be95b84d442e0777652fcc24d73"), looks := true }, kinds := [], alts := [], laidByText := true, laidKinds := [.data, .data, .data, .data, .sentinel, .sentinel, .pinned], laidTests := true, laidLooks := .later }
def JtextNamesUptoCardSaid : Prop := Claim7.holds Tryz.pinned (.plain (OpenSpec.upto jtextNamesSpec)) jtextNamesUptoCard

/-- THE SECOND FORM's CARD OF 'tollgatelaw28.JtextMakes'. -/
def jtextMakesUptoCard : Claim7 := { stood := { row := jtextMakesUptoRow, standIns := [], harness := (true, "1220b45e2f74cc8f9172a8088a804826e6e64be95b84d442e0777652fcc24d73"), looks := true }, kinds := [], alts := [], laidByText := true, laidKinds := [.data, .data, .data, .data, .sentinel, .sentinel, .pinned], laidTests := true, laidLooks := .later }
def JtextMakesUptoCardSaid : Prop := Claim7.holds Tryz.pinned (.plain (OpenSpec.upto jtextMakesSpec)) jtextMakesUptoCard

/-- THE SECOND FORM's CARD OF 'tollgatelaw28.JtextBack'. -/
def jtextBackUptoCard : Claim7 := { stood := { row := jtextBackUptoRow, standIns := [], harness := (true, "1220b45e2f74cc8f9172a8088a804826e6e64be95b84d442e0777652fcc24d73"), looks := true }, kinds := [], alts := [], laidByText := true, laidKinds := [.data, .data, .data, .data, .sentinel, .sentinel, .pinned], laidTests := true, laidLooks := .later }
def JtextBackUptoCardSaid : Prop := Claim7.holds Tryz.pinned (.plain (OpenSpec.upto jtextBackSpec)) jtextBackUptoCard

/-- THE SECOND FORM's CARD OF 'tollgatelaw28.JtextBlanks'. -/
def jtextBlanksUptoCard : Claim7 := { stood := { row := jtextBlanksUptoRow, standIns := [], harness := (true, "1220b45e2f74cc8f9172a8088a804826e6e64be95b84d442e0777652fcc24d73"), looks := true }, kinds := [], alts := [], laidByText := true, laidKinds := [.data, .data, .data, .data, .sentinel, .sentinel, .pinned], laidTests := true, laidLooks := .later }
def JtextBlanksUptoCardSaid : Prop := Claim7.holds Tryz.pinned (.plain (OpenSpec.upto jtextBlanksSpec)) jtextBlanksUptoCard
end Rows
end Go.Proofs.YtphjfighamadgaaGreatDoor
