/-
  DERIVED. GIVEN WITH THE SEED: THE CARDS: each row of YtbnihnggljagnaaDoorRows.lean that lists a variable, with what it lists TIED to the program's text (the seventh form; the later family's looks); each row that meets fmt, with fmt's text TOLD by the authors' own Lean function (tested against real Go, not proved from fmt's source: count such statements apart). THE CARD IS WHAT COUNTS. Prove the row's statement (the work); the ties are given (YtbnihnggljagnaaDoorTie.lean); close each card by the builder's one call (the guide's Derived/Test/ToyasCard.lean, 'card_holds'). Laid BY PROGRAM, IN A SANDBOX (cutbox-door.mjs). By AI agents, Wed Nov 11 2026. No macro, syntax, notation, axiom, sorry.
-/
import Derived.Test.YtbnihnggljagnaaDoorRows
import GoSem.ClaimSeven
namespace Go.Proofs.YtbnihnggljagnaaDoor
namespace Rows

/-- THE TIED CARD OF 'waymarklaw07.LexLines'. -/
def lexLinesCard : Claim7 := { stood := { row := lexLinesRow, standIns := [], harness := (true, "8bd00b4d81639136289d52d9174289ec4f00a55324c4c22e8296d6a2662b1a7e"), looks := true }, kinds := [], alts := [], laidByText := true, laidKinds := [.data, .pinned], laidTests := true, laidLooks := .later }
def LexLinesCardSaid : Prop := Claim7.holds Tryd.pinned (.plain (OpenSpec.ofChange lexLinesSpec)) lexLinesCard

/-- THE TIED CARD OF 'waymarklaw08.RoutesBack'. -/
def routesBackCard : Claim7 := { stood := { row := routesBackRow, standIns := [], harness := (true, "8bd00b4d81639136289d52d9174289ec4f00a55324c4c22e8296d6a2662b1a7e"), looks := true }, kinds := [], alts := [], laidByText := true, laidKinds := [.data, .data, .data, .data, .sentinel, .sentinel, .pinned], laidTests := true, laidLooks := .later }
def RoutesBackCardSaid : Prop := Claim7.holds Tryd.pinned (.plain (OpenSpec.ofChange routesBackSpec)) routesBackCard

/-- THE TIED CARD OF 'waymarklaw07.LexPlaces'. -/
def lexPlacesCard : Claim7 := { stood := { row := lexPlacesRow, standIns := [], harness := (true, "8bd00b4d81639136289d52d9174289ec4f00a55324c4c22e8296d6a2662b1a7e"), looks := true }, kinds := [], alts := [], laidByText := true, laidKinds := [.data, .pinned], laidTests := true, laidLooks := .later }
def LexPlacesCardSaid : Prop := Claim7.holds Tryd.pinned (.plain (OpenSpec.ofChange lexPlacesSpec)) lexPlacesCard

/-- THE TIED CARD OF 'waymarklaw07.LexAgain'. -/
def lexAgainCard : Claim7 := { stood := { row := lexAgainRow, standIns := [], harness := (true, "8bd00b4d81639136289d52d9174289ec4f00a55324c4c22e8296d6a2662b1a7e"), looks := true }, kinds := [], alts := [], laidByText := true, laidKinds := [.data, .pinned], laidTests := true, laidLooks := .later }
def LexAgainCardSaid : Prop := Claim7.holds Tryd.pinned (.plain (OpenSpec.ofChange lexAgainSpec)) lexAgainCard

/-- THE TIED CARD OF 'waymarklaw07.LexNames'. -/
def lexNamesCard : Claim7 := { stood := { row := lexNamesRow, standIns := [], harness := (true, "8bd00b4d81639136289d52d9174289ec4f00a55324c4c22e8296d6a2662b1a7e"), looks := true }, kinds := [], alts := [], laidByText := true, laidKinds := [.data, .pinned], laidTests := true, laidLooks := .later }
def LexNamesCardSaid : Prop := Claim7.holds Tryd.pinned (.plain (OpenSpec.ofChange lexNamesSpec)) lexNamesCard

/-- THE TIED CARD OF 'waymarklaw07.LexWords'. -/
def lexWordsCard : Claim7 := { stood := { row := lexWordsRow, standIns := [], harness := (true, "8bd00b4d81639136289d52d9174289ec4f00a55324c4c22e8296d6a2662b1a7e"), looks := true }, kinds := [], alts := [], laidByText := true, laidKinds := [.data, .data, .data, .sentinel, .sentinel], laidTests := true, laidLooks := .later }
def LexWordsCardSaid : Prop := Claim7.holds Tryd.pinned (.plain (OpenSpec.ofChange lexWordsSpec)) lexWordsCard

/-- THE TIED CARD OF 'waymarklaw01.AddrTexts'. -/
def addrTextsCard : Claim7 := { stood := { row := addrTextsRow, standIns := [], harness := (true, "8bd00b4d81639136289d52d9174289ec4f00a55324c4c22e8296d6a2662b1a7e"), looks := true }, kinds := [], alts := [], laidByText := true, laidKinds := [.data, .data, .data, .data, .sentinel, .sentinel, .pinned], laidTests := true, laidLooks := .later }
def AddrTextsCardSaid : Prop := Claim7.holds Tryd.pinned (.plain (OpenSpec.ofChange addrTextsSpec)) addrTextsCard

/-- THE TIED CARD OF 'waymarklaw01.AddrNames'. -/
def addrNamesCard : Claim7 := { stood := { row := addrNamesRow, standIns := [], harness := (true, "8bd00b4d81639136289d52d9174289ec4f00a55324c4c22e8296d6a2662b1a7e"), looks := true }, kinds := [], alts := [], laidByText := true, laidKinds := [.data, .data, .data, .data, .sentinel, .sentinel, .pinned], laidTests := true, laidLooks := .later }
def AddrNamesCardSaid : Prop := Claim7.holds Tryd.pinned (.plain (OpenSpec.ofChange addrNamesSpec)) addrNamesCard

/-- THE TIED CARD OF 'waymarklaw03.HeaderBack'. -/
def headerBackCard : Claim7 := { stood := { row := headerBackRow, standIns := [], harness := (true, "8bd00b4d81639136289d52d9174289ec4f00a55324c4c22e8296d6a2662b1a7e"), looks := true }, kinds := [], alts := [], laidByText := true, laidKinds := [.data, .data, .data, .data, .sentinel, .sentinel, .pinned], laidTests := true, laidLooks := .later }
def HeaderBackCardSaid : Prop := Claim7.holds Tryd.pinned (.plain (OpenSpec.ofChange headerBackSpec)) headerBackCard

/-- THE TIED CARD OF 'waymarklaw01.AddrBack'. -/
def addrBackCard : Claim7 := { stood := { row := addrBackRow, standIns := [], harness := (true, "8bd00b4d81639136289d52d9174289ec4f00a55324c4c22e8296d6a2662b1a7e"), looks := true }, kinds := [], alts := [], laidByText := true, laidKinds := [.data, .data, .data, .data, .sentinel, .sentinel, .pinned], laidTests := true, laidLooks := .later }
def AddrBackCardSaid : Prop := Claim7.holds Tryd.pinned (.plain (OpenSpec.ofChange addrBackSpec)) addrBackCard

/-- THE TIED CARD OF 'waymarklaw03.HeaderNames'. -/
def headerNamesCard : Claim7 := { stood := { row := headerNamesRow, standIns := [], harness := (true, "8bd00b4d81639136289d52d9174289ec4f00a55324c4c22e8296d6a2662b1a7e"), looks := true }, kinds := [], alts := [], laidByText := true, laidKinds := [.data, .data, .data, .data, .sentinel, .sentinel, .pinned], laidTests := true, laidLooks := .later }
def HeaderNamesCardSaid : Prop := Claim7.holds Tryd.pinned (.plain (OpenSpec.ofChange headerNamesSpec)) headerNamesCard

/-- THE TIED CARD OF 'waymarklaw08.RoutesNames'. -/
def routesNamesCard : Claim7 := { stood := { row := routesNamesRow, standIns := [], harness := (true, "8bd00b4d81639136289d52d9174289ec4f00a55324c4c22e8296d6a2662b1a7e"), looks := true }, kinds := [], alts := [], laidByText := true, laidKinds := [.data, .data, .data], laidTests := true, laidLooks := .later }
def RoutesNamesCardSaid : Prop := Claim7.holds Tryd.pinned (.plain (OpenSpec.ofChange routesNamesSpec)) routesNamesCard

/-- THE TIED CARD OF 'waymarklaw03.HeaderBits'. -/
def headerBitsCard : Claim7 := { stood := { row := headerBitsRow, standIns := [], harness := (true, "8bd00b4d81639136289d52d9174289ec4f00a55324c4c22e8296d6a2662b1a7e"), looks := true }, kinds := [], alts := [], laidByText := true, laidKinds := [.data, .data, .data, .data, .sentinel, .sentinel, .pinned], laidTests := true, laidLooks := .later }
def HeaderBitsCardSaid : Prop := Claim7.holds Tryd.pinned (.plain (OpenSpec.ofChange headerBitsSpec)) headerBitsCard

/-- THE TIED CARD OF 'waymarklaw03.HeaderOrder'. -/
def headerOrderCard : Claim7 := { stood := { row := headerOrderRow, standIns := [], harness := (true, "8bd00b4d81639136289d52d9174289ec4f00a55324c4c22e8296d6a2662b1a7e"), looks := true }, kinds := [], alts := [], laidByText := true, laidKinds := [.data, .data, .data, .data, .sentinel, .sentinel, .pinned], laidTests := true, laidLooks := .later }
def HeaderOrderCardSaid : Prop := Claim7.holds Tryd.pinned (.plain (OpenSpec.ofChange headerOrderSpec)) headerOrderCard

/-- THE TIED CARD OF 'waymarklaw01.AddrCovers'. -/
def addrCoversCard : Claim7 := { stood := { row := addrCoversRow, standIns := [], harness := (true, "8bd00b4d81639136289d52d9174289ec4f00a55324c4c22e8296d6a2662b1a7e"), looks := true }, kinds := [], alts := [], laidByText := true, laidKinds := [.data, .data, .data, .data, .sentinel, .sentinel, .pinned], laidTests := true, laidLooks := .later }
def AddrCoversCardSaid : Prop := Claim7.holds Tryd.pinned (.plain (OpenSpec.ofChange addrCoversSpec)) addrCoversCard

/-- THE TIED CARD OF 'waymarklaw01.AddrInside'. -/
def addrInsideCard : Claim7 := { stood := { row := addrInsideRow, standIns := [], harness := (true, "8bd00b4d81639136289d52d9174289ec4f00a55324c4c22e8296d6a2662b1a7e"), looks := true }, kinds := [], alts := [], laidByText := true, laidKinds := [.data, .data, .data, .data, .sentinel, .sentinel, .pinned], laidTests := true, laidLooks := .later }
def AddrInsideCardSaid : Prop := Claim7.holds Tryd.pinned (.plain (OpenSpec.ofChange addrInsideSpec)) addrInsideCard

/-- THE SECOND FORM's CARD OF 'waymarklaw07.LexLines'. -/
def lexLinesUptoCard : Claim7 := { stood := { row := lexLinesUptoRow, standIns := [], harness := (true, "8bd00b4d81639136289d52d9174289ec4f00a55324c4c22e8296d6a2662b1a7e"), looks := true }, kinds := [], alts := [], laidByText := true, laidKinds := [.data, .pinned], laidTests := true, laidLooks := .later }
def LexLinesUptoCardSaid : Prop := Claim7.holds Tryd.pinned (.plain (OpenSpec.upto lexLinesSpec)) lexLinesUptoCard

/-- THE SECOND FORM's CARD OF 'waymarklaw08.RoutesBack'. -/
def routesBackUptoCard : Claim7 := { stood := { row := routesBackUptoRow, standIns := [], harness := (true, "8bd00b4d81639136289d52d9174289ec4f00a55324c4c22e8296d6a2662b1a7e"), looks := true }, kinds := [], alts := [], laidByText := true, laidKinds := [.data, .data, .data, .data, .sentinel, .sentinel, .pinned], laidTests := true, laidLooks := .later }
def RoutesBackUptoCardSaid : Prop := Claim7.holds Tryd.pinned (.plain (OpenSpec.upto routesBackSpec)) routesBackUptoCard

/-- THE SECOND FORM's CARD OF 'waymarklaw07.LexPlaces'. -/
def lexPlacesUptoCard : Claim7 := { stood := { row := lexPlacesUptoRow, standIns := [], harness := (true, "8bd00b4d81639136289d52d9174289ec4f00a55324c4c22e8296d6a2662b1a7e"), looks := true }, kinds := [], alts := [], laidByText := true, laidKinds := [.data, .pinned], laidTests := true, laidLooks := .later }
def LexPlacesUptoCardSaid : Prop := Claim7.holds Tryd.pinned (.plain (OpenSpec.upto lexPlacesSpec)) lexPlacesUptoCard

/-- THE SECOND FORM's CARD OF 'waymarklaw07.LexAgain'. -/
def lexAgainUptoCard : Claim7 := { stood := { row := lexAgainUptoRow, standIns := [], harness := (true, "8bd00b4d81639136289d52d9174289ec4f00a55324c4c22e8296d6a2662b1a7e"), looks := true }, kinds := [], alts := [], laidByText := true, laidKinds := [.data, .pinned], laidTests := true, laidLooks := .later }
def LexAgainUptoCardSaid : Prop := Claim7.holds Tryd.pinned (.plain (OpenSpec.upto lexAgainSpec)) lexAgainUptoCard

/-- THE SECOND FORM's CARD OF 'waymarklaw07.LexNames'. -/
def lexNamesUptoCard : Claim7 := { stood := { row := lexNamesUptoRow, standIns := [], harness := (true, "8bd00b4d81639136289d52d9174289ec4f00a55324c4c22e8296d6a2662b1a7e"), looks := true }, kinds := [], alts := [], laidByText := true, laidKinds := [.data, .pinned], laidTests := true, laidLooks := .later }
def LexNamesUptoCardSaid : Prop := Claim7.holds Tryd.pinned (.plain (OpenSpec.upto lexNamesSpec)) lexNamesUptoCard

/-- THE SECOND FORM's CARD OF 'waymarklaw07.LexWords'. -/
def lexWordsUptoCard : Claim7 := { stood := { row := lexWordsUptoRow, standIns := [], harness := (true, "8bd00b4d81639136289d52d9174289ec4f00a55324c4c22e8296d6a2662b1a7e"), looks := true }, kinds := [], alts := [], laidByText := true, laidKinds := [.data, .data, .data, .sentinel, .sentinel], laidTests := true, laidLooks := .later }
def LexWordsUptoCardSaid : Prop := Claim7.holds Tryd.pinned (.plain (OpenSpec.upto lexWordsSpec)) lexWordsUptoCard

/-- THE SECOND FORM's CARD OF 'waymarklaw01.AddrTexts'. -/
def addrTextsUptoCard : Claim7 := { stood := { row := addrTextsUptoRow, standIns := [], harness := (true, "8bd00b4d81639136289d52d9174289ec4f00a55324c4c22e8296d6a2662b1a7e"), looks := true }, kinds := [], alts := [], laidByText := true, laidKinds := [.data, .data, .data, .data, .sentinel, .sentinel, .pinned], laidTests := true, laidLooks := .later }
def AddrTextsUptoCardSaid : Prop := Claim7.holds Tryd.pinned (.plain (OpenSpec.upto addrTextsSpec)) addrTextsUptoCard

/-- THE SECOND FORM's CARD OF 'waymarklaw01.AddrNames'. -/
def addrNamesUptoCard : Claim7 := { stood := { row := addrNamesUptoRow, standIns := [], harness := (true, "8bd00b4d81639136289d52d9174289ec4f00a55324c4c22e8296d6a2662b1a7e"), looks := true }, kinds := [], alts := [], laidByText := true, laidKinds := [.data, .data, .data, .data, .sentinel, .sentinel, .pinned], laidTests := true, laidLooks := .later }
def AddrNamesUptoCardSaid : Prop := Claim7.holds Tryd.pinned (.plain (OpenSpec.upto addrNamesSpec)) addrNamesUptoCard

/-- THE SECOND FORM's CARD OF 'waymarklaw03.HeaderBack'. -/
def headerBackUptoCard : Claim7 := { stood := { row := headerBackUptoRow, standIns := [], harness := (true, "8bd00b4d81639136289d52d9174289ec4f00a55324c4c22e8296d6a2662b1a7e"), looks := true }, kinds := [], alts := [], laidByText := true, laidKinds := [.data, .data, .data, .data, .sentinel, .sentinel, .pinned], laidTests := true, laidLooks := .later }
def HeaderBackUptoCardSaid : Prop := Claim7.holds Tryd.pinned (.plain (OpenSpec.upto headerBackSpec)) headerBackUptoCard

/-- THE SECOND FORM's CARD OF 'waymarklaw01.AddrBack'. -/
def addrBackUptoCard : Claim7 := { stood := { row := addrBackUptoRow, standIns := [], harness := (true, "8bd00b4d81639136289d52d9174289ec4f00a55324c4c22e8296d6a2662b1a7e"), looks := true }, kinds := [], alts := [], laidByText := true, laidKinds := [.data, .data, .data, .data, .sentinel, .sentinel, .pinned], laidTests := true, laidLooks := .later }
def AddrBackUptoCardSaid : Prop := Claim7.holds Tryd.pinned (.plain (OpenSpec.upto addrBackSpec)) addrBackUptoCard

/-- THE SECOND FORM's CARD OF 'waymarklaw03.HeaderNames'. -/
def headerNamesUptoCard : Claim7 := { stood := { row := headerNamesUptoRow, standIns := [], harness := (true, "8bd00b4d81639136289d52d9174289ec4f00a55324c4c22e8296d6a2662b1a7e"), looks := true }, kinds := [], alts := [], laidByText := true, laidKinds := [.data, .data, .data, .data, .sentinel, .sentinel, .pinned], laidTests := true, laidLooks := .later }
def HeaderNamesUptoCardSaid : Prop := Claim7.holds Tryd.pinned (.plain (OpenSpec.upto headerNamesSpec)) headerNamesUptoCard

/-- THE SECOND FORM's CARD OF 'waymarklaw08.RoutesNames'. -/
def routesNamesUptoCard : Claim7 := { stood := { row := routesNamesUptoRow, standIns := [], harness := (true, "8bd00b4d81639136289d52d9174289ec4f00a55324c4c22e8296d6a2662b1a7e"), looks := true }, kinds := [], alts := [], laidByText := true, laidKinds := [.data, .data, .data], laidTests := true, laidLooks := .later }
def RoutesNamesUptoCardSaid : Prop := Claim7.holds Tryd.pinned (.plain (OpenSpec.upto routesNamesSpec)) routesNamesUptoCard

/-- THE SECOND FORM's CARD OF 'waymarklaw03.HeaderBits'. -/
def headerBitsUptoCard : Claim7 := { stood := { row := headerBitsUptoRow, standIns := [], harness := (true, "8bd00b4d81639136289d52d9174289ec4f00a55324c4c22e8296d6a2662b1a7e"), looks := true }, kinds := [], alts := [], laidByText := true, laidKinds := [.data, .data, .data, .data, .sentinel, .sentinel, .pinned], laidTests := true, laidLooks := .later }
def HeaderBitsUptoCardSaid : Prop := Claim7.holds Tryd.pinned (.plain (OpenSpec.upto headerBitsSpec)) headerBitsUptoCard

/-- THE SECOND FORM's CARD OF 'waymarklaw03.HeaderOrder'. -/
def headerOrderUptoCard : Claim7 := { stood := { row := headerOrderUptoRow, standIns := [], harness := (true, "8bd00b4d81639136289d52d9174289ec4f00a55324c4c22e8296d6a2662b1a7e"), looks := true }, kinds := [], alts := [], laidByText := true, laidKinds := [.data, .data, .data, .data, .sentinel, .sentinel, .pinned], laidTests := true, laidLooks := .later }
def HeaderOrderUptoCardSaid : Prop := Claim7.holds Tryd.pinned (.plain (OpenSpec.upto headerOrderSpec)) headerOrderUptoCard

/-- THE SECOND FORM's CARD OF 'waymarklaw01.AddrCovers'. -/
def addrCoversUptoCard : Claim7 := { stood := { row := addrCoversUptoRow, standIns := [], harness := (true, "8bd00b4d81639136289d52d9174289ec4f00a55324c4c22e8296d6a2662b1a7e"), looks := true }, kinds := [], alts := [], laidByText := true, laidKinds := [.data, .data, .data, .data, .sentinel, .sentinel, .pinned], laidTests := true, laidLooks := .later }
def AddrCoversUptoCardSaid : Prop := Claim7.holds Tryd.pinned (.plain (OpenSpec.upto addrCoversSpec)) addrCoversUptoCard

/-- THE SECOND FORM's CARD OF 'waymarklaw01.AddrInside'. -/
def addrInsideUptoCard : Claim7 := { stood := { row := addrInsideUptoRow, standIns := [], harness := (true, "8bd00b4d81639136289d52d9174289ec4f00a55324c4c22e8296d6a2662b1a7e"), looks := true }, kinds := [], alts := [], laidByText := true, laidKinds := [.data, .data, .data, .data, .sentinel, .sentinel, .pinned], laidTests := true, laidLooks := .later }
def AddrInsideUptoCardSaid : Prop := Claim7.holds Tryd.pinned (.plain (OpenSpec.upto addrInsideSpec)) addrInsideUptoCard
end Rows
end Go.Proofs.YtbnihnggljagnaaDoor
