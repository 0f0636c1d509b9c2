/-
  DERIVED. GIVEN WITH THE SEED: THE CARDS: each row of YtloibeefopdhpaaDoorRows.lean that lists a variable, with what it lists TIED to the program's text (the seventh form; the later family's looks); each row that meets fmt, with fmt's text TOLD by the authors' own Lean function (tested against real Go, not proved from fmt's source: count such statements apart). THE CARD IS WHAT COUNTS. Prove the row's statement (the work); the ties are given (YtloibeefopdhpaaDoorTie.lean); close each card by the builder's one call (the guide's Derived/Test/ToyasCard.lean, 'card_holds'). Laid BY PROGRAM, IN A SANDBOX (cutbox-door.mjs). By AI agents, Wed Nov 11 2026. No macro, syntax, notation, axiom, sorry.
-/
import Derived.Test.YtloibeefopdhpaaDoorRows
import GoSem.ClaimSeven
namespace Go.Proofs.YtloibeefopdhpaaDoor
namespace Rows

/-- THE TIED CARD OF 'rafterlaw35.CmdWords'. -/
def cmdWordsCard : Claim7 := { stood := { row := cmdWordsRow, standIns := [], harness := (true, "bc3e9def730df1f91fc1144ec099265ca1c1e2af025b6c6301f6fd651f789234"), looks := false }, kinds := [], alts := [], laidByText := true, laidKinds := [.data, .pinned], laidTests := true, laidLooks := .later }
def CmdWordsCardSaid : Prop := Claim7.holds Tryd.pinned (.plain (OpenSpec.ofChange cmdWordsSpec)) cmdWordsCard

/-- THE TIED CARD OF 'rafterlaw35.CmdTexts'. -/
def cmdTextsCard : Claim7 := { stood := { row := cmdTextsRow, standIns := [], harness := (true, "bc3e9def730df1f91fc1144ec099265ca1c1e2af025b6c6301f6fd651f789234"), looks := false }, kinds := [], alts := [], laidByText := true, laidKinds := [.data, .pinned], laidTests := true, laidLooks := .later }
def CmdTextsCardSaid : Prop := Claim7.holds Tryd.pinned (.plain (OpenSpec.ofChange cmdTextsSpec)) cmdTextsCard

/-- THE TIED CARD OF 'rafterlaw35.CmdParses'. -/
def cmdParsesCard : Claim7 := { stood := { row := cmdParsesRow, standIns := [], harness := (true, "bc3e9def730df1f91fc1144ec099265ca1c1e2af025b6c6301f6fd651f789234"), looks := false }, kinds := [], alts := [], laidByText := true, laidKinds := [.data, .pinned], laidTests := true, laidLooks := .later }
def CmdParsesCardSaid : Prop := Claim7.holds Tryd.pinned (.plain (OpenSpec.ofChange cmdParsesSpec)) cmdParsesCard

/-- THE TIED CARD OF 'rafterlaw36.ReplyNumbers'. -/
def replyNumbersCard : Claim7 := { stood := { row := replyNumbersRow, standIns := [], harness := (true, "bc3e9def730df1f91fc1144ec099265ca1c1e2af025b6c6301f6fd651f789234"), looks := false }, kinds := [], alts := [], laidByText := true, laidKinds := [.data, .pinned], laidTests := true, laidLooks := .later }
def ReplyNumbersCardSaid : Prop := Claim7.holds Tryd.pinned (.plain (OpenSpec.ofChange replyNumbersSpec)) replyNumbersCard

/-- THE TIED CARD OF 'rafterlaw36.ReplyTexts'. -/
def replyTextsCard : Claim7 := { stood := { row := replyTextsRow, standIns := [], harness := (true, "bc3e9def730df1f91fc1144ec099265ca1c1e2af025b6c6301f6fd651f789234"), looks := false }, kinds := [], alts := [], laidByText := true, laidKinds := [.data, .pinned], laidTests := true, laidLooks := .later }
def ReplyTextsCardSaid : Prop := Claim7.holds Tryd.pinned (.plain (OpenSpec.ofChange replyTextsSpec)) replyTextsCard

/-- THE TIED CARD OF 'rafterlaw36.ReplyLogs'. -/
def replyLogsCard : Claim7 := { stood := { row := replyLogsRow, standIns := [], harness := (true, "bc3e9def730df1f91fc1144ec099265ca1c1e2af025b6c6301f6fd651f789234"), looks := false }, kinds := [], alts := [], laidByText := true, laidKinds := [.data, .pinned], laidTests := true, laidLooks := .later }
def ReplyLogsCardSaid : Prop := Claim7.holds Tryd.pinned (.plain (OpenSpec.ofChange replyLogsSpec)) replyLogsCard

/-- THE TIED CARD OF 'rafterlaw40.TapeMasks'. -/
def tapeMasksCard : Claim7 := { stood := { row := tapeMasksRow, standIns := [], harness := (true, "bc3e9def730df1f91fc1144ec099265ca1c1e2af025b6c6301f6fd651f789234"), looks := false }, kinds := [], alts := [], laidByText := true, laidKinds := [.data, .pinned], laidTests := true, laidLooks := .later }
def TapeMasksCardSaid : Prop := Claim7.holds Tryd.pinned (.plain (OpenSpec.ofChange tapeMasksSpec)) tapeMasksCard

/-- THE TIED CARD OF 'rafterlaw40.TapeTexts'. -/
def tapeTextsCard : Claim7 := { stood := { row := tapeTextsRow, standIns := [], harness := (true, "bc3e9def730df1f91fc1144ec099265ca1c1e2af025b6c6301f6fd651f789234"), looks := false }, kinds := [], alts := [], laidByText := true, laidKinds := [.data, .pinned], laidTests := true, laidLooks := .later }
def TapeTextsCardSaid : Prop := Claim7.holds Tryd.pinned (.plain (OpenSpec.ofChange tapeTextsSpec)) tapeTextsCard

/-- THE TIED CARD OF 'rafterlaw40.TapeParses'. -/
def tapeParsesCard : Claim7 := { stood := { row := tapeParsesRow, standIns := [], harness := (true, "bc3e9def730df1f91fc1144ec099265ca1c1e2af025b6c6301f6fd651f789234"), looks := false }, kinds := [], alts := [], laidByText := true, laidKinds := [.data, .pinned], laidTests := true, laidLooks := .later }
def TapeParsesCardSaid : Prop := Claim7.holds Tryd.pinned (.plain (OpenSpec.ofChange tapeParsesSpec)) tapeParsesCard

/-- THE SECOND FORM's CARD OF 'rafterlaw35.CmdWords'. -/
def cmdWordsUptoCard : Claim7 := { stood := { row := cmdWordsUptoRow, standIns := [], harness := (true, "bc3e9def730df1f91fc1144ec099265ca1c1e2af025b6c6301f6fd651f789234"), looks := false }, kinds := [], alts := [], laidByText := true, laidKinds := [.data, .pinned], laidTests := true, laidLooks := .later }
def CmdWordsUptoCardSaid : Prop := Claim7.holds Tryd.pinned (.plain (OpenSpec.upto cmdWordsSpec)) cmdWordsUptoCard

/-- THE SECOND FORM's CARD OF 'rafterlaw35.CmdTexts'. -/
def cmdTextsUptoCard : Claim7 := { stood := { row := cmdTextsUptoRow, standIns := [], harness := (true, "bc3e9def730df1f91fc1144ec099265ca1c1e2af025b6c6301f6fd651f789234"), looks := false }, kinds := [], alts := [], laidByText := true, laidKinds := [.data, .pinned], laidTests := true, laidLooks := .later }
def CmdTextsUptoCardSaid : Prop := Claim7.holds Tryd.pinned (.plain (OpenSpec.upto cmdTextsSpec)) cmdTextsUptoCard

/-- THE SECOND FORM's CARD OF 'rafterlaw35.CmdParses'. -/
def cmdParsesUptoCard : Claim7 := { stood := { row := cmdParsesUptoRow, standIns := [], harness := (true, "bc3e9def730df1f91fc1144ec099265ca1c1e2af025b6c6301f6fd651f789234"), looks := false }, kinds := [], alts := [], laidByText := true, laidKinds := [.data, .pinned], laidTests := true, laidLooks := .later }
def CmdParsesUptoCardSaid : Prop := Claim7.holds Tryd.pinned (.plain (OpenSpec.upto cmdParsesSpec)) cmdParsesUptoCard

/-- THE SECOND FORM's CARD OF 'rafterlaw36.ReplyNumbers'. -/
def replyNumbersUptoCard : Claim7 := { stood := { row := replyNumbersUptoRow, standIns := [], harness := (true, "bc3e9def730df1f91fc1144ec099265ca1c1e2af025b6c6301f6fd651f789234"), looks := false }, kinds := [], alts := [], laidByText := true, laidKinds := [.data, .pinned], laidTests := true, laidLooks := .later }
def ReplyNumbersUptoCardSaid : Prop := Claim7.holds Tryd.pinned (.plain (OpenSpec.upto replyNumbersSpec)) replyNumbersUptoCard

/-- THE SECOND FORM's CARD OF 'rafterlaw36.ReplyTexts'. -/
def replyTextsUptoCard : Claim7 := { stood := { row := replyTextsUptoRow, standIns := [], harness := (true, "bc3e9def730df1f91fc1144ec099265ca1c1e2af025b6c6301f6fd651f789234"), looks := false }, kinds := [], alts := [], laidByText := true, laidKinds := [.data, .pinned], laidTests := true, laidLooks := .later }
def ReplyTextsUptoCardSaid : Prop := Claim7.holds Tryd.pinned (.plain (OpenSpec.upto replyTextsSpec)) replyTextsUptoCard

/-- THE SECOND FORM's CARD OF 'rafterlaw36.ReplyLogs'. -/
def replyLogsUptoCard : Claim7 := { stood := { row := replyLogsUptoRow, standIns := [], harness := (true, "bc3e9def730df1f91fc1144ec099265ca1c1e2af025b6c6301f6fd651f789234"), looks := false }, kinds := [], alts := [], laidByText := true, laidKinds := [.data, .pinned], laidTests := true, laidLooks := .later }
def ReplyLogsUptoCardSaid : Prop := Claim7.holds Tryd.pinned (.plain (OpenSpec.upto replyLogsSpec)) replyLogsUptoCard

/-- THE SECOND FORM's CARD OF 'rafterlaw40.TapeMasks'. -/
def tapeMasksUptoCard : Claim7 := { stood := { row := tapeMasksUptoRow, standIns := [], harness := (true, "bc3e9def730df1f91fc1144ec099265ca1c1e2af025b6c6301f6fd651f789234"), looks := false }, kinds := [], alts := [], laidByText := true, laidKinds := [.data, .pinned], laidTests := true, laidLooks := .later }
def TapeMasksUptoCardSaid : Prop := Claim7.holds Tryd.pinned (.plain (OpenSpec.upto tapeMasksSpec)) tapeMasksUptoCard

/-- THE SECOND FORM's CARD OF 'rafterlaw40.TapeTexts'. -/
def tapeTextsUptoCard : Claim7 := { stood := { row := tapeTextsUptoRow, standIns := [], harness := (true, "bc3e9def730df1f91fc1144ec099265ca1c1e2af025b6c6301f6fd651f789234"), looks := false }, kinds := [], alts := [], laidByText := true, laidKinds := [.data, .pinned], laidTests := true, laidLooks := .later }
def TapeTextsUptoCardSaid : Prop := Claim7.holds Tryd.pinned (.plain (OpenSpec.upto tapeTextsSpec)) tapeTextsUptoCard

/-- THE SECOND FORM's CARD OF 'rafterlaw40.TapeParses'. -/
def tapeParsesUptoCard : Claim7 := { stood := { row := tapeParsesUptoRow, standIns := [], harness := (true, "bc3e9def730df1f91fc1144ec099265ca1c1e2af025b6c6301f6fd651f789234"), looks := false }, kinds := [], alts := [], laidByText := true, laidKinds := [.data, .pinned], laidTests := true, laidLooks := .later }
def TapeParsesUptoCardSaid : Prop := Claim7.holds Tryd.pinned (.plain (OpenSpec.upto tapeParsesSpec)) tapeParsesUptoCard
end Rows
end Go.Proofs.YtloibeefopdhpaaDoor
