/-
  DERIVED. GIVEN WITH THE SEED: THE CARDS: each row of YtkahibnanhhdeaaDoorRows.lean that lists a variable, with what it lists TIED to the program's text (the seventh form; the later family's looks); each row that meets fmt, with fmt's text TOLD by the authors' own Lean function (tested against real Go, not proved from fmt's source: count such statements apart). THE CARD IS WHAT COUNTS. Prove the row's statement (the work); the ties are given (YtkahibnanhhdeaaDoorTie.lean); close each card by the builder's one call (the guide's Derived/Test/ToyasCard.lean, 'card_holds'). Laid BY PROGRAM, IN A SANDBOX (cutbox-door.mjs). By AI agents, Wed Nov 11 2026. No macro, syntax, notation, axiom, sorry.
-/
import Derived.Test.YtkahibnanhhdeaaDoorRows
import GoSem.ClaimSeven
namespace Go.Proofs.YtkahibnanhhdeaaDoor
namespace Rows

/-- THE TIED CARD OF 'tollgatelaw01.WordKinds'. -/
def wordKindsCard : Claim7 := { stood := { row := wordKindsRow, standIns := [], harness := (true, "d21b20f831fe59643a55b2e40349c91c78d5ac155c3d190e4cae7253a63f4ff9"), looks := true }, kinds := [], alts := [], laidByText := true, laidKinds := [.data, .pinned], laidTests := true, laidLooks := .later }
def WordKindsCardSaid : Prop := Claim7.holds Tryd.pinned (.plain (OpenSpec.ofChange wordKindsSpec)) wordKindsCard

/-- THE TIED CARD OF 'tollgatelaw01.WordChars'. -/
def wordCharsCard : Claim7 := { stood := { row := wordCharsRow, standIns := [], harness := (true, "d21b20f831fe59643a55b2e40349c91c78d5ac155c3d190e4cae7253a63f4ff9"), looks := true }, kinds := [], alts := [], laidByText := true, laidKinds := [.data, .pinned], laidTests := true, laidLooks := .later }
def WordCharsCardSaid : Prop := Claim7.holds Tryd.pinned (.plain (OpenSpec.ofChange wordCharsSpec)) wordCharsCard

/-- THE TIED CARD OF 'tollgatelaw01.WordNumbers'. -/
def wordNumbersCard : Claim7 := { stood := { row := wordNumbersRow, standIns := [], harness := (true, "d21b20f831fe59643a55b2e40349c91c78d5ac155c3d190e4cae7253a63f4ff9"), looks := true }, kinds := [], alts := [], laidByText := true, laidKinds := [.data, .data, .data, .sentinel, .sentinel], laidTests := true, laidLooks := .later }
def WordNumbersCardSaid : Prop := Claim7.holds Tryd.pinned (.plain (OpenSpec.ofChange wordNumbersSpec)) wordNumbersCard

/-- THE TIED CARD OF 'tollgatelaw01.WordQuotes'. -/
def wordQuotesCard : Claim7 := { stood := { row := wordQuotesRow, standIns := [], harness := (true, "d21b20f831fe59643a55b2e40349c91c78d5ac155c3d190e4cae7253a63f4ff9"), looks := true }, kinds := [], alts := [], laidByText := true, laidKinds := [.data, .data, .data, .sentinel, .sentinel], laidTests := true, laidLooks := .later }
def WordQuotesCardSaid : Prop := Claim7.holds Tryd.pinned (.plain (OpenSpec.ofChange wordQuotesSpec)) wordQuotesCard

/-- THE TIED CARD OF 'tollgatelaw01.WordNames'. -/
def wordNamesCard : Claim7 := { stood := { row := wordNamesRow, standIns := [], harness := (true, "d21b20f831fe59643a55b2e40349c91c78d5ac155c3d190e4cae7253a63f4ff9"), looks := true }, kinds := [], alts := [], laidByText := true, laidKinds := [.data, .data, .data, .data, .sentinel, .sentinel, .pinned], laidTests := true, laidLooks := .later }
def WordNamesCardSaid : Prop := Claim7.holds Tryd.pinned (.plain (OpenSpec.ofChange wordNamesSpec)) wordNamesCard

/-- THE TIED CARD OF 'tollgatelaw01.WordBack'. -/
def wordBackCard : Claim7 := { stood := { row := wordBackRow, standIns := [], harness := (true, "d21b20f831fe59643a55b2e40349c91c78d5ac155c3d190e4cae7253a63f4ff9"), looks := true }, kinds := [], alts := [], laidByText := true, laidKinds := [.data, .data, .data, .data, .sentinel, .sentinel, .pinned], laidTests := true, laidLooks := .later }
def WordBackCardSaid : Prop := Claim7.holds Tryd.pinned (.plain (OpenSpec.ofChange wordBackSpec)) wordBackCard

/-- THE TIED CARD OF 'tollgatelaw01.WordPlain'. -/
def wordPlainCard : Claim7 := { stood := { row := wordPlainRow, standIns := [], harness := (true, "d21b20f831fe59643a55b2e40349c91c78d5ac155c3d190e4cae7253a63f4ff9"), looks := true }, kinds := [], alts := [], laidByText := true, laidKinds := [.data, .data, .data, .data, .sentinel, .sentinel, .pinned], laidTests := true, laidLooks := .later }
def WordPlainCardSaid : Prop := Claim7.holds Tryd.pinned (.plain (OpenSpec.ofChange wordPlainSpec)) wordPlainCard

/-- THE TIED CARD OF 'tollgatelaw01.WordWalk'. -/
def wordWalkCard : Claim7 := { stood := { row := wordWalkRow, standIns := [], harness := (true, "d21b20f831fe59643a55b2e40349c91c78d5ac155c3d190e4cae7253a63f4ff9"), looks := true }, kinds := [], alts := [], laidByText := true, laidKinds := [.data, .data, .data, .data, .sentinel, .sentinel, .pinned], laidTests := true, laidLooks := .later }
def WordWalkCardSaid : Prop := Claim7.holds Tryd.pinned (.plain (OpenSpec.ofChange wordWalkSpec)) wordWalkCard

/-- THE TIED CARD OF 'tollgatelaw01.WordTogether'. -/
def wordTogetherCard : Claim7 := { stood := { row := wordTogetherRow, standIns := [], harness := (true, "d21b20f831fe59643a55b2e40349c91c78d5ac155c3d190e4cae7253a63f4ff9"), looks := true }, kinds := [], alts := [], laidByText := true, laidKinds := [.data, .data, .data, .data, .sentinel, .sentinel, .pinned], laidTests := true, laidLooks := .later }
def WordTogetherCardSaid : Prop := Claim7.holds Tryd.pinned (.plain (OpenSpec.ofChange wordTogetherSpec)) wordTogetherCard

/-- THE TIED CARD OF 'tollgatelaw01.WordMore'. -/
def wordMoreCard : Claim7 := { stood := { row := wordMoreRow, standIns := [], harness := (true, "d21b20f831fe59643a55b2e40349c91c78d5ac155c3d190e4cae7253a63f4ff9"), looks := true }, kinds := [], alts := [], laidByText := true, laidKinds := [.data, .data, .data, .data, .sentinel, .sentinel, .pinned], laidTests := true, laidLooks := .later }
def WordMoreCardSaid : Prop := Claim7.holds Tryd.pinned (.plain (OpenSpec.ofChange wordMoreSpec)) wordMoreCard

/-- THE SECOND FORM's CARD OF 'tollgatelaw01.WordKinds'. -/
def wordKindsUptoCard : Claim7 := { stood := { row := wordKindsUptoRow, standIns := [], harness := (true, "d21b20f831fe59643a55b2e40349c91c78d5ac155c3d190e4cae7253a63f4ff9"), looks := true }, kinds := [], alts := [], laidByText := true, laidKinds := [.data, .pinned], laidTests := true, laidLooks := .later }
def WordKindsUptoCardSaid : Prop := Claim7.holds Tryd.pinned (.plain (OpenSpec.upto wordKindsSpec)) wordKindsUptoCard

/-- THE SECOND FORM's CARD OF 'tollgatelaw01.WordChars'. -/
def wordCharsUptoCard : Claim7 := { stood := { row := wordCharsUptoRow, standIns := [], harness := (true, "d21b20f831fe59643a55b2e40349c91c78d5ac155c3d190e4cae7253a63f4ff9"), looks := true }, kinds := [], alts := [], laidByText := true, laidKinds := [.data, .pinned], laidTests := true, laidLooks := .later }
def WordCharsUptoCardSaid : Prop := Claim7.holds Tryd.pinned (.plain (OpenSpec.upto wordCharsSpec)) wordCharsUptoCard

/-- THE SECOND FORM's CARD OF 'tollgatelaw01.WordNumbers'. -/
def wordNumbersUptoCard : Claim7 := { stood := { row := wordNumbersUptoRow, standIns := [], harness := (true, "d21b20f831fe59643a55b2e40349c91c78d5ac155c3d190e4cae7253a63f4ff9"), looks := true }, kinds := [], alts := [], laidByText := true, laidKinds := [.data, .data, .data, .sentinel, .sentinel], laidTests := true, laidLooks := .later }
def WordNumbersUptoCardSaid : Prop := Claim7.holds Tryd.pinned (.plain (OpenSpec.upto wordNumbersSpec)) wordNumbersUptoCard

/-- THE SECOND FORM's CARD OF 'tollgatelaw01.WordQuotes'. -/
def wordQuotesUptoCard : Claim7 := { stood := { row := wordQuotesUptoRow, standIns := [], harness := (true, "d21b20f831fe59643a55b2e40349c91c78d5ac155c3d190e4cae7253a63f4ff9"), looks := true }, kinds := [], alts := [], laidByText := true, laidKinds := [.data, .data, .data, .sentinel, .sentinel], laidTests := true, laidLooks := .later }
def WordQuotesUptoCardSaid : Prop := Claim7.holds Tryd.pinned (.plain (OpenSpec.upto wordQuotesSpec)) wordQuotesUptoCard

/-- THE SECOND FORM's CARD OF 'tollgatelaw01.WordNames'. -/
def wordNamesUptoCard : Claim7 := { stood := { row := wordNamesUptoRow, standIns := [], harness := (true, "d21b20f831fe59643a55b2e40349c91c78d5ac155c3d190e4cae7253a63f4ff9"), looks := true }, kinds := [], alts := [], laidByText := true, laidKinds := [.data, .data, .data, .data, .sentinel, .sentinel, .pinned], laidTests := true, laidLooks := .later }
def WordNamesUptoCardSaid : Prop := Claim7.holds Tryd.pinned (.plain (OpenSpec.upto wordNamesSpec)) wordNamesUptoCard

/-- THE SECOND FORM's CARD OF 'tollgatelaw01.WordBack'. -/
def wordBackUptoCard : Claim7 := { stood := { row := wordBackUptoRow, standIns := [], harness := (true, "d21b20f831fe59643a55b2e40349c91c78d5ac155c3d190e4cae7253a63f4ff9"), looks := true }, kinds := [], alts := [], laidByText := true, laidKinds := [.data, .data, .data, .data, .sentinel, .sentinel, .pinned], laidTests := true, laidLooks := .later }
def WordBackUptoCardSaid : Prop := Claim7.holds Tryd.pinned (.plain (OpenSpec.upto wordBackSpec)) wordBackUptoCard

/-- THE SECOND FORM's CARD OF 'tollgatelaw01.WordPlain'. -/
def wordPlainUptoCard : Claim7 := { stood := { row := wordPlainUptoRow, standIns := [], harness := (true, "d21b20f831fe59643a55b2e40349c91c78d5ac155c3d190e4cae7253a63f4ff9"), looks := true }, kinds := [], alts := [], laidByText := true, laidKinds := [.data, .data, .data, .data, .sentinel, .sentinel, .pinned], laidTests := true, laidLooks := .later }
def WordPlainUptoCardSaid : Prop := Claim7.holds Tryd.pinned (.plain (OpenSpec.upto wordPlainSpec)) wordPlainUptoCard

/-- THE SECOND FORM's CARD OF 'tollgatelaw01.WordWalk'. -/
def wordWalkUptoCard : Claim7 := { stood := { row := wordWalkUptoRow, standIns := [], harness := (true, "d21b20f831fe59643a55b2e40349c91c78d5ac155c3d190e4cae7253a63f4ff9"), looks := true }, kinds := [], alts := [], laidByText := true, laidKinds := [.data, .data, .data, .data, .sentinel, .sentinel, .pinned], laidTests := true, laidLooks := .later }
def WordWalkUptoCardSaid : Prop := Claim7.holds Tryd.pinned (.plain (OpenSpec.upto wordWalkSpec)) wordWalkUptoCard

/-- THE SECOND FORM's CARD OF 'tollgatelaw01.WordTogether'. -/
def wordTogetherUptoCard : Claim7 := { stood := { row := wordTogetherUptoRow, standIns := [], harness := (true, "d21b20f831fe59643a55b2e40349c91c78d5ac155c3d190e4cae7253a63f4ff9"), looks := true }, kinds := [], alts := [], laidByText := true, laidKinds := [.data, .data, .data, .data, .sentinel, .sentinel, .pinned], laidTests := true, laidLooks := .later }
def WordTogetherUptoCardSaid : Prop := Claim7.holds Tryd.pinned (.plain (OpenSpec.upto wordTogetherSpec)) wordTogetherUptoCard

/-- THE SECOND FORM's CARD OF 'tollgatelaw01.WordMore'. -/
def wordMoreUptoCard : Claim7 := { stood := { row := wordMoreUptoRow, standIns := [], harness := (true, "d21b20f831fe59643a55b2e40349c91c78d5ac155c3d190e4cae7253a63f4ff9"), looks := true }, kinds := [], alts := [], laidByText := true, laidKinds := [.data, .data, .data, .data, .sentinel, .sentinel, .pinned], laidTests := true, laidLooks := .later }
def WordMoreUptoCardSaid : Prop := Claim7.holds Tryd.pinned (.plain (OpenSpec.upto wordMoreSpec)) wordMoreUptoCard
end Rows
end Go.Proofs.YtkahibnanhhdeaaDoor
