/-
  NARROWER THAN 'FOR EVERY INPUT', by the rows' own cells (each row's printed sentence says how): CmdWords: laid · CmdTexts: laid · CmdParses: laid · ReplyNumbers: laid · ReplyTexts: laid · ReplyLogs: laid · TapeMasks: laid · TapeTexts: laid · TapeParses: laid.
  DERIVED. THE GIVEN ROWS OF THIS SEAT. 9 by the template 'for every input the law returns true; each argument reads behind the call as it read before'; 0 by the template 'total and deterministic' (their statements: YtloibeefopdhpaaDoorTotals.lean).
  GIVEN WITH THE SEED: the statements are not yours to turn. If you find one false, say at which input.
  Laid BY PROGRAM, IN A SANDBOX (cutbox-rows.mjs): the forced cells as the released guide's own fill.sh prints them over the translation f33d45d6358c4614… (all of the seat's roots in one cut). By AI agents, Wed Nov 11 2026. No macro, syntax, notation, axiom, sorry.
-/
import Derived.Test.YtloibeefopdhpaaDoorChecked
import GoSem.PinnedTables
import GoSem.Claim
import GoSem.ClaimJoined
import GoSem.ClaimMapViews
import Derived.JoinedTies
import Derived.KernelRfl
namespace Go.Proofs.YtloibeefopdhpaaDoor
/- THE CELL 'sum', in the pinned program and in every row, IS THE sha256 OF THE DUMP (.gsa) THAT YtloibeefopdhpaaDoorProg.lean LOADS. Nothing in Lean hashes anything: it is a label: what it is worth is what the hold of that sum in a sandbox is worth. -/
noncomputable def Tryd.pinned : Pinned := { name := "ytloibeefopdhpaadoor", sum := "f33d45d6358c46143bcfb3bb5c6cc0288feca5fdbea38a0c9f71cb6457e197fa", checked := Tryd.checked }
namespace Rows
def none {H : Type} : Left H := { results := [], args := [] }

/- WHAT THE LISTED PACKAGE-LEVEL VARIABLES READ AS WHEN THE CALL BEGINS. Each datum BY PROGRAM (the guide's laid-datum.mjs) off the statement by which the dump's own 'gosem.cut.vars' lays the variable. In a bare row this is a premise. The card (YtloibeefopdhpaaDoorCards.lean) ties it to the program's text. -/
def laid_unicode_utf8_acceptRanges {H : Type} : DataW H := .agg [.agg [.lit (.int .u8 128), .lit (.int .u8 191)], .agg [.lit (.int .u8 160), .lit (.int .u8 191)], .agg [.lit (.int .u8 128), .lit (.int .u8 159)], .agg [.lit (.int .u8 144), .lit (.int .u8 191)], .agg [.lit (.int .u8 128), .lit (.int .u8 143)], .agg [.lit (.int .u8 0), .lit (.int .u8 0)], .agg [.lit (.int .u8 0), .lit (.int .u8 0)], .agg [.lit (.int .u8 0), .lit (.int .u8 0)], .agg [.lit (.int .u8 0), .lit (.int .u8 0)], .agg [.lit (.int .u8 0), .lit (.int .u8 0)], .agg [.lit (.int .u8 0), .lit (.int .u8 0)], .agg [.lit (.int .u8 0), .lit (.int .u8 0)], .agg [.lit (.int .u8 0), .lit (.int .u8 0)], .agg [.lit (.int .u8 0), .lit (.int .u8 0)], .agg [.lit (.int .u8 0), .lit (.int .u8 0)], .agg [.lit (.int .u8 0), .lit (.int .u8 0)]]
/-- One of Go's own tables, pinned by name: the form's constant. -/
def laid_unicode_utf8_first : DataW Unit := Go.Pinned.utf8First

/-- 'rafterlaw35.CmdWords': WHATEVER THE INPUT: true; the input reads as it did. -/
def cmdWordsSpec : ChangeSpec := { name := "cmdWords", fn := fun _ => fun
  | [d1, d2] => { results := [.lit (.bool true)], args := [d1, d2] }
  | _ => none }
def cmdWordsRow : OpenClaim := { program := "ytloibeefopdhpaadoor", sum := "f33d45d6358c46143bcfb3bb5c6cc0288feca5fdbea38a0c9f71cb6457e197fa", func := "rafter/rafterlaw35.CmdWords", spec := "cmdWords", inPlace := ["internal/bytealg.IndexByteString", "internal/abi.NoEscape", "internal/bytealg.MakeNoZero", "internal/bytealg.CountString", "internal/bytealg.IndexString"], unfollowed := true, recurses := true, named := ["unicode/utf8.first", "unicode/utf8.acceptRanges", "internal/bytealg.MaxLen"], apart := false, laid := [("unicode/utf8.acceptRanges", laid_unicode_utf8_acceptRanges), ("unicode/utf8.first", laid_unicode_utf8_first)] }
def CmdWordsSaid : Prop := cmdWordsRow.holds Tryd.pinned (OpenSpec.ofChange cmdWordsSpec)

/-- ITS FALSE NEIGHBOUR: 'it returns false'. Refute it at one input. -/
def cmdWordsWrong : ChangeSpec := { name := "cmdWords", fn := fun _ => fun
  | [d1, d2] => { results := [.lit (.bool false)], args := [d1, d2] }
  | _ => none }
def CmdWordsWrongFalsely : Prop := cmdWordsRow.holds Tryd.pinned (OpenSpec.ofChange cmdWordsWrong)

/-- 'rafterlaw35.CmdTexts': WHATEVER THE INPUT: true; the input reads as it did. -/
def cmdTextsSpec : ChangeSpec := { name := "cmdTexts", fn := fun _ => fun
  | [d1, d2] => { results := [.lit (.bool true)], args := [d1, d2] }
  | _ => none }
def cmdTextsRow : OpenClaim := { program := "ytloibeefopdhpaadoor", sum := "f33d45d6358c46143bcfb3bb5c6cc0288feca5fdbea38a0c9f71cb6457e197fa", func := "rafter/rafterlaw35.CmdTexts", spec := "cmdTexts", inPlace := ["internal/bytealg.IndexByteString", "internal/abi.NoEscape", "internal/bytealg.MakeNoZero", "internal/bytealg.CountString", "internal/bytealg.IndexString"], unfollowed := true, recurses := true, named := ["unicode/utf8.first", "unicode/utf8.acceptRanges", "internal/bytealg.MaxLen"], apart := false, laid := [("unicode/utf8.acceptRanges", laid_unicode_utf8_acceptRanges), ("unicode/utf8.first", laid_unicode_utf8_first)] }
def CmdTextsSaid : Prop := cmdTextsRow.holds Tryd.pinned (OpenSpec.ofChange cmdTextsSpec)

/-- ITS FALSE NEIGHBOUR: 'it returns false'. Refute it at one input. -/
def cmdTextsWrong : ChangeSpec := { name := "cmdTexts", fn := fun _ => fun
  | [d1, d2] => { results := [.lit (.bool false)], args := [d1, d2] }
  | _ => none }
def CmdTextsWrongFalsely : Prop := cmdTextsRow.holds Tryd.pinned (OpenSpec.ofChange cmdTextsWrong)

/-- 'rafterlaw35.CmdParses': WHATEVER THE INPUT: true; the input reads as it did. -/
def cmdParsesSpec : ChangeSpec := { name := "cmdParses", fn := fun _ => fun
  | [d] => { results := [.lit (.bool true)], args := [d] }
  | _ => none }
def cmdParsesRow : OpenClaim := { program := "ytloibeefopdhpaadoor", sum := "f33d45d6358c46143bcfb3bb5c6cc0288feca5fdbea38a0c9f71cb6457e197fa", func := "rafter/rafterlaw35.CmdParses", spec := "cmdParses", inPlace := ["internal/bytealg.IndexByteString", "internal/abi.NoEscape", "internal/bytealg.MakeNoZero", "internal/bytealg.CountString", "internal/bytealg.IndexString"], unfollowed := true, recurses := true, named := ["unicode/utf8.first", "unicode/utf8.acceptRanges", "internal/bytealg.MaxLen"], apart := false, laid := [("unicode/utf8.acceptRanges", laid_unicode_utf8_acceptRanges), ("unicode/utf8.first", laid_unicode_utf8_first)] }
def CmdParsesSaid : Prop := cmdParsesRow.holds Tryd.pinned (OpenSpec.ofChange cmdParsesSpec)

/-- ITS FALSE NEIGHBOUR: 'it returns false'. Refute it at one input. -/
def cmdParsesWrong : ChangeSpec := { name := "cmdParses", fn := fun _ => fun
  | [d] => { results := [.lit (.bool false)], args := [d] }
  | _ => none }
def CmdParsesWrongFalsely : Prop := cmdParsesRow.holds Tryd.pinned (OpenSpec.ofChange cmdParsesWrong)

/-- 'rafterlaw36.ReplyNumbers': WHATEVER THE INPUT: true; the input reads as it did. -/
def replyNumbersSpec : ChangeSpec := { name := "replyNumbers", fn := fun _ => fun
  | [d1, d2] => { results := [.lit (.bool true)], args := [d1, d2] }
  | _ => none }
def replyNumbersRow : OpenClaim := { program := "ytloibeefopdhpaadoor", sum := "f33d45d6358c46143bcfb3bb5c6cc0288feca5fdbea38a0c9f71cb6457e197fa", func := "rafter/rafterlaw36.ReplyNumbers", spec := "replyNumbers", inPlace := ["internal/bytealg.IndexByteString", "internal/abi.NoEscape", "internal/bytealg.MakeNoZero", "internal/bytealg.CountString", "internal/bytealg.IndexString"], unfollowed := true, recurses := true, named := ["unicode/utf8.first", "unicode/utf8.acceptRanges", "internal/bytealg.MaxLen"], apart := false, laid := [("unicode/utf8.acceptRanges", laid_unicode_utf8_acceptRanges), ("unicode/utf8.first", laid_unicode_utf8_first)] }
def ReplyNumbersSaid : Prop := replyNumbersRow.holds Tryd.pinned (OpenSpec.ofChange replyNumbersSpec)

/-- ITS FALSE NEIGHBOUR: 'it returns false'. Refute it at one input. -/
def replyNumbersWrong : ChangeSpec := { name := "replyNumbers", fn := fun _ => fun
  | [d1, d2] => { results := [.lit (.bool false)], args := [d1, d2] }
  | _ => none }
def ReplyNumbersWrongFalsely : Prop := replyNumbersRow.holds Tryd.pinned (OpenSpec.ofChange replyNumbersWrong)

/-- 'rafterlaw36.ReplyTexts': WHATEVER THE INPUT: true; the input reads as it did. -/
def replyTextsSpec : ChangeSpec := { name := "replyTexts", fn := fun _ => fun
  | [d1, d2, d3] => { results := [.lit (.bool true)], args := [d1, d2, d3] }
  | _ => none }
def replyTextsRow : OpenClaim := { program := "ytloibeefopdhpaadoor", sum := "f33d45d6358c46143bcfb3bb5c6cc0288feca5fdbea38a0c9f71cb6457e197fa", func := "rafter/rafterlaw36.ReplyTexts", spec := "replyTexts", inPlace := ["internal/bytealg.IndexByteString", "internal/abi.NoEscape", "internal/bytealg.MakeNoZero", "internal/bytealg.CountString", "internal/bytealg.IndexString"], unfollowed := true, recurses := true, named := ["unicode/utf8.first", "unicode/utf8.acceptRanges", "internal/bytealg.MaxLen"], apart := false, laid := [("unicode/utf8.acceptRanges", laid_unicode_utf8_acceptRanges), ("unicode/utf8.first", laid_unicode_utf8_first)] }
def ReplyTextsSaid : Prop := replyTextsRow.holds Tryd.pinned (OpenSpec.ofChange replyTextsSpec)

/-- ITS FALSE NEIGHBOUR: 'it returns false'. Refute it at one input. -/
def replyTextsWrong : ChangeSpec := { name := "replyTexts", fn := fun _ => fun
  | [d1, d2, d3] => { results := [.lit (.bool false)], args := [d1, d2, d3] }
  | _ => none }
def ReplyTextsWrongFalsely : Prop := replyTextsRow.holds Tryd.pinned (OpenSpec.ofChange replyTextsWrong)

/-- 'rafterlaw36.ReplyLogs': WHATEVER THE INPUT: true; the input reads as it did. -/
def replyLogsSpec : ChangeSpec := { name := "replyLogs", fn := fun _ => fun
  | [d1, d2] => { results := [.lit (.bool true)], args := [d1, d2] }
  | _ => none }
def replyLogsRow : OpenClaim := { program := "ytloibeefopdhpaadoor", sum := "f33d45d6358c46143bcfb3bb5c6cc0288feca5fdbea38a0c9f71cb6457e197fa", func := "rafter/rafterlaw36.ReplyLogs", spec := "replyLogs", inPlace := ["internal/bytealg.IndexByteString", "internal/abi.NoEscape", "internal/bytealg.MakeNoZero", "internal/bytealg.CountString", "internal/bytealg.IndexString"], unfollowed := true, recurses := true, named := ["unicode/utf8.first", "unicode/utf8.acceptRanges", "internal/bytealg.MaxLen"], apart := false, laid := [("unicode/utf8.acceptRanges", laid_unicode_utf8_acceptRanges), ("unicode/utf8.first", laid_unicode_utf8_first)] }
def ReplyLogsSaid : Prop := replyLogsRow.holds Tryd.pinned (OpenSpec.ofChange replyLogsSpec)

/-- ITS FALSE NEIGHBOUR: 'it returns false'. Refute it at one input. -/
def replyLogsWrong : ChangeSpec := { name := "replyLogs", fn := fun _ => fun
  | [d1, d2] => { results := [.lit (.bool false)], args := [d1, d2] }
  | _ => none }
def ReplyLogsWrongFalsely : Prop := replyLogsRow.holds Tryd.pinned (OpenSpec.ofChange replyLogsWrong)

/-- 'rafterlaw40.TapeMasks': WHATEVER THE INPUT: true; the input reads as it did. -/
def tapeMasksSpec : ChangeSpec := { name := "tapeMasks", fn := fun _ => fun
  | [d1, d2] => { results := [.lit (.bool true)], args := [d1, d2] }
  | _ => none }
def tapeMasksRow : OpenClaim := { program := "ytloibeefopdhpaadoor", sum := "f33d45d6358c46143bcfb3bb5c6cc0288feca5fdbea38a0c9f71cb6457e197fa", func := "rafter/rafterlaw40.TapeMasks", spec := "tapeMasks", inPlace := ["internal/bytealg.IndexByteString", "internal/bytealg.IndexString", "internal/bytealg.CountString", "internal/abi.NoEscape", "internal/bytealg.MakeNoZero"], unfollowed := true, recurses := true, named := ["internal/bytealg.MaxLen", "unicode/utf8.first", "unicode/utf8.acceptRanges"], apart := false, laid := [("unicode/utf8.acceptRanges", laid_unicode_utf8_acceptRanges), ("unicode/utf8.first", laid_unicode_utf8_first)] }
def TapeMasksSaid : Prop := tapeMasksRow.holds Tryd.pinned (OpenSpec.ofChange tapeMasksSpec)

/-- ITS FALSE NEIGHBOUR: 'it returns false'. Refute it at one input. -/
def tapeMasksWrong : ChangeSpec := { name := "tapeMasks", fn := fun _ => fun
  | [d1, d2] => { results := [.lit (.bool false)], args := [d1, d2] }
  | _ => none }
def TapeMasksWrongFalsely : Prop := tapeMasksRow.holds Tryd.pinned (OpenSpec.ofChange tapeMasksWrong)

/-- 'rafterlaw40.TapeTexts': WHATEVER THE INPUT: true; the input reads as it did. -/
def tapeTextsSpec : ChangeSpec := { name := "tapeTexts", fn := fun _ => fun
  | [d1, d2] => { results := [.lit (.bool true)], args := [d1, d2] }
  | _ => none }
def tapeTextsRow : OpenClaim := { program := "ytloibeefopdhpaadoor", sum := "f33d45d6358c46143bcfb3bb5c6cc0288feca5fdbea38a0c9f71cb6457e197fa", func := "rafter/rafterlaw40.TapeTexts", spec := "tapeTexts", inPlace := ["internal/bytealg.IndexByteString", "internal/bytealg.IndexString", "internal/bytealg.CountString", "internal/abi.NoEscape", "internal/bytealg.MakeNoZero"], unfollowed := true, recurses := true, named := ["internal/bytealg.MaxLen", "unicode/utf8.first", "unicode/utf8.acceptRanges"], apart := false, laid := [("unicode/utf8.acceptRanges", laid_unicode_utf8_acceptRanges), ("unicode/utf8.first", laid_unicode_utf8_first)] }
def TapeTextsSaid : Prop := tapeTextsRow.holds Tryd.pinned (OpenSpec.ofChange tapeTextsSpec)

/-- ITS FALSE NEIGHBOUR: 'it returns false'. Refute it at one input. -/
def tapeTextsWrong : ChangeSpec := { name := "tapeTexts", fn := fun _ => fun
  | [d1, d2] => { results := [.lit (.bool false)], args := [d1, d2] }
  | _ => none }
def TapeTextsWrongFalsely : Prop := tapeTextsRow.holds Tryd.pinned (OpenSpec.ofChange tapeTextsWrong)

/-- 'rafterlaw40.TapeParses': WHATEVER THE INPUT: true; the input reads as it did. -/
def tapeParsesSpec : ChangeSpec := { name := "tapeParses", fn := fun _ => fun
  | [d] => { results := [.lit (.bool true)], args := [d] }
  | _ => none }
def tapeParsesRow : OpenClaim := { program := "ytloibeefopdhpaadoor", sum := "f33d45d6358c46143bcfb3bb5c6cc0288feca5fdbea38a0c9f71cb6457e197fa", func := "rafter/rafterlaw40.TapeParses", spec := "tapeParses", inPlace := ["internal/bytealg.IndexByteString", "internal/bytealg.IndexString", "internal/bytealg.CountString", "internal/abi.NoEscape", "internal/bytealg.MakeNoZero"], unfollowed := true, recurses := true, named := ["internal/bytealg.MaxLen", "unicode/utf8.first", "unicode/utf8.acceptRanges"], apart := false, laid := [("unicode/utf8.acceptRanges", laid_unicode_utf8_acceptRanges), ("unicode/utf8.first", laid_unicode_utf8_first)] }
def TapeParsesSaid : Prop := tapeParsesRow.holds Tryd.pinned (OpenSpec.ofChange tapeParsesSpec)

/-- ITS FALSE NEIGHBOUR: 'it returns false'. Refute it at one input. -/
def tapeParsesWrong : ChangeSpec := { name := "tapeParses", fn := fun _ => fun
  | [d] => { results := [.lit (.bool false)], args := [d] }
  | _ => none }
def TapeParsesWrongFalsely : Prop := tapeParsesRow.holds Tryd.pinned (OpenSpec.ofChange tapeParsesWrong)

/- THE SECOND FORM. 'bulk': how many values and letters a reading holds, each counted each time it is reached (what is shared counts as often as it is met; a slice's spare places count too). A statement '..UptoSaid' is the law's where the arguments, and the package variables that the reading takes, are together of bulk at most 1048576: NARROWER than '..Said'. Prove '..Said' where nothing that the law and all that it calls make is longer than what came in: it says more and counts as full. Else prove '..UptoSaid'. A law counts once. -/
mutual
def uptoBulk {H : Type} : DataW H → Nat
  | .lit (.string bytes) => bytes.length + 1
  | .lit _ => 1
  | .nil => 1
  | .ptr d => uptoBulk d + 1
  | .slice elems spare => uptoBulkAll elems + uptoBulkAll spare + 1
  | .agg parts => uptoBulkAll parts + 1
  | .iface _ d => uptoBulk d + 1
  | .map entries => uptoBulkEntries entries + 1
  | .held _ => 1
def uptoBulkAll {H : Type} : List (DataW H) → Nat
  | [] => 0
  | d :: r => uptoBulk d + uptoBulkAll r
def uptoBulkEntries {H : Type} : List (Lit × DataW H) → Nat
  | [] => 0
  | x :: r => uptoBulkEntry x + uptoBulkEntries r
def uptoBulkEntry {H : Type} : Lit × DataW H → Nat
  | (.string bytes, d) => bytes.length + uptoBulk d + 1
  | (_, d) => uptoBulk d + 1
 end
def uptoSmall : (H : Type) → List (DataW H) → Bool := fun _ ds => decide (uptoBulkAll ds ≤ 1048576)
def OpenSpec.upto (s : _root_.Go.ChangeSpec) : _root_.Go.OpenSpec := { _root_.Go.OpenSpec.ofChange s with cond := some uptoSmall }

/-- 'rafterlaw35.CmdWords', WHERE WHAT IT READS IS OF BULK AT MOST 1048576: true; the input reads as it did. -/
def cmdWordsUptoRow : OpenClaim := { program := "ytloibeefopdhpaadoor", sum := "f33d45d6358c46143bcfb3bb5c6cc0288feca5fdbea38a0c9f71cb6457e197fa", func := "rafter/rafterlaw35.CmdWords", spec := "cmdWords", inPlace := ["internal/bytealg.IndexByteString", "internal/abi.NoEscape", "internal/bytealg.MakeNoZero", "internal/bytealg.CountString", "internal/bytealg.IndexString"], unfollowed := true, recurses := true, named := ["unicode/utf8.first", "unicode/utf8.acceptRanges", "internal/bytealg.MaxLen"], apart := false, laid := [("unicode/utf8.acceptRanges", laid_unicode_utf8_acceptRanges), ("unicode/utf8.first", laid_unicode_utf8_first)], narrowed := true }
def CmdWordsUptoSaid : Prop := cmdWordsUptoRow.holds Tryd.pinned (OpenSpec.upto cmdWordsSpec)

/-- 'rafterlaw35.CmdTexts', WHERE WHAT IT READS IS OF BULK AT MOST 1048576: true; the input reads as it did. -/
def cmdTextsUptoRow : OpenClaim := { program := "ytloibeefopdhpaadoor", sum := "f33d45d6358c46143bcfb3bb5c6cc0288feca5fdbea38a0c9f71cb6457e197fa", func := "rafter/rafterlaw35.CmdTexts", spec := "cmdTexts", inPlace := ["internal/bytealg.IndexByteString", "internal/abi.NoEscape", "internal/bytealg.MakeNoZero", "internal/bytealg.CountString", "internal/bytealg.IndexString"], unfollowed := true, recurses := true, named := ["unicode/utf8.first", "unicode/utf8.acceptRanges", "internal/bytealg.MaxLen"], apart := false, laid := [("unicode/utf8.acceptRanges", laid_unicode_utf8_acceptRanges), ("unicode/utf8.first", laid_unicode_utf8_first)], narrowed := true }
def CmdTextsUptoSaid : Prop := cmdTextsUptoRow.holds Tryd.pinned (OpenSpec.upto cmdTextsSpec)

/-- 'rafterlaw35.CmdParses', WHERE WHAT IT READS IS OF BULK AT MOST 1048576: true; the input reads as it did. -/
def cmdParsesUptoRow : OpenClaim := { program := "ytloibeefopdhpaadoor", sum := "f33d45d6358c46143bcfb3bb5c6cc0288feca5fdbea38a0c9f71cb6457e197fa", func := "rafter/rafterlaw35.CmdParses", spec := "cmdParses", inPlace := ["internal/bytealg.IndexByteString", "internal/abi.NoEscape", "internal/bytealg.MakeNoZero", "internal/bytealg.CountString", "internal/bytealg.IndexString"], unfollowed := true, recurses := true, named := ["unicode/utf8.first", "unicode/utf8.acceptRanges", "internal/bytealg.MaxLen"], apart := false, laid := [("unicode/utf8.acceptRanges", laid_unicode_utf8_acceptRanges), ("unicode/utf8.first", laid_unicode_utf8_first)], narrowed := true }
def CmdParsesUptoSaid : Prop := cmdParsesUptoRow.holds Tryd.pinned (OpenSpec.upto cmdParsesSpec)

/-- 'rafterlaw36.ReplyNumbers', WHERE WHAT IT READS IS OF BULK AT MOST 1048576: true; the input reads as it did. -/
def replyNumbersUptoRow : OpenClaim := { program := "ytloibeefopdhpaadoor", sum := "f33d45d6358c46143bcfb3bb5c6cc0288feca5fdbea38a0c9f71cb6457e197fa", func := "rafter/rafterlaw36.ReplyNumbers", spec := "replyNumbers", inPlace := ["internal/bytealg.IndexByteString", "internal/abi.NoEscape", "internal/bytealg.MakeNoZero", "internal/bytealg.CountString", "internal/bytealg.IndexString"], unfollowed := true, recurses := true, named := ["unicode/utf8.first", "unicode/utf8.acceptRanges", "internal/bytealg.MaxLen"], apart := false, laid := [("unicode/utf8.acceptRanges", laid_unicode_utf8_acceptRanges), ("unicode/utf8.first", laid_unicode_utf8_first)], narrowed := true }
def ReplyNumbersUptoSaid : Prop := replyNumbersUptoRow.holds Tryd.pinned (OpenSpec.upto replyNumbersSpec)

/-- 'rafterlaw36.ReplyTexts', WHERE WHAT IT READS IS OF BULK AT MOST 1048576: true; the input reads as it did. -/
def replyTextsUptoRow : OpenClaim := { program := "ytloibeefopdhpaadoor", sum := "f33d45d6358c46143bcfb3bb5c6cc0288feca5fdbea38a0c9f71cb6457e197fa", func := "rafter/rafterlaw36.ReplyTexts", spec := "replyTexts", inPlace := ["internal/bytealg.IndexByteString", "internal/abi.NoEscape", "internal/bytealg.MakeNoZero", "internal/bytealg.CountString", "internal/bytealg.IndexString"], unfollowed := true, recurses := true, named := ["unicode/utf8.first", "unicode/utf8.acceptRanges", "internal/bytealg.MaxLen"], apart := false, laid := [("unicode/utf8.acceptRanges", laid_unicode_utf8_acceptRanges), ("unicode/utf8.first", laid_unicode_utf8_first)], narrowed := true }
def ReplyTextsUptoSaid : Prop := replyTextsUptoRow.holds Tryd.pinned (OpenSpec.upto replyTextsSpec)

/-- 'rafterlaw36.ReplyLogs', WHERE WHAT IT READS IS OF BULK AT MOST 1048576: true; the input reads as it did. -/
def replyLogsUptoRow : OpenClaim := { program := "ytloibeefopdhpaadoor", sum := "f33d45d6358c46143bcfb3bb5c6cc0288feca5fdbea38a0c9f71cb6457e197fa", func := "rafter/rafterlaw36.ReplyLogs", spec := "replyLogs", inPlace := ["internal/bytealg.IndexByteString", "internal/abi.NoEscape", "internal/bytealg.MakeNoZero", "internal/bytealg.CountString", "internal/bytealg.IndexString"], unfollowed := true, recurses := true, named := ["unicode/utf8.first", "unicode/utf8.acceptRanges", "internal/bytealg.MaxLen"], apart := false, laid := [("unicode/utf8.acceptRanges", laid_unicode_utf8_acceptRanges), ("unicode/utf8.first", laid_unicode_utf8_first)], narrowed := true }
def ReplyLogsUptoSaid : Prop := replyLogsUptoRow.holds Tryd.pinned (OpenSpec.upto replyLogsSpec)

/-- 'rafterlaw40.TapeMasks', WHERE WHAT IT READS IS OF BULK AT MOST 1048576: true; the input reads as it did. -/
def tapeMasksUptoRow : OpenClaim := { program := "ytloibeefopdhpaadoor", sum := "f33d45d6358c46143bcfb3bb5c6cc0288feca5fdbea38a0c9f71cb6457e197fa", func := "rafter/rafterlaw40.TapeMasks", spec := "tapeMasks", inPlace := ["internal/bytealg.IndexByteString", "internal/bytealg.IndexString", "internal/bytealg.CountString", "internal/abi.NoEscape", "internal/bytealg.MakeNoZero"], unfollowed := true, recurses := true, named := ["internal/bytealg.MaxLen", "unicode/utf8.first", "unicode/utf8.acceptRanges"], apart := false, laid := [("unicode/utf8.acceptRanges", laid_unicode_utf8_acceptRanges), ("unicode/utf8.first", laid_unicode_utf8_first)], narrowed := true }
def TapeMasksUptoSaid : Prop := tapeMasksUptoRow.holds Tryd.pinned (OpenSpec.upto tapeMasksSpec)

/-- 'rafterlaw40.TapeTexts', WHERE WHAT IT READS IS OF BULK AT MOST 1048576: true; the input reads as it did. -/
def tapeTextsUptoRow : OpenClaim := { program := "ytloibeefopdhpaadoor", sum := "f33d45d6358c46143bcfb3bb5c6cc0288feca5fdbea38a0c9f71cb6457e197fa", func := "rafter/rafterlaw40.TapeTexts", spec := "tapeTexts", inPlace := ["internal/bytealg.IndexByteString", "internal/bytealg.IndexString", "internal/bytealg.CountString", "internal/abi.NoEscape", "internal/bytealg.MakeNoZero"], unfollowed := true, recurses := true, named := ["internal/bytealg.MaxLen", "unicode/utf8.first", "unicode/utf8.acceptRanges"], apart := false, laid := [("unicode/utf8.acceptRanges", laid_unicode_utf8_acceptRanges), ("unicode/utf8.first", laid_unicode_utf8_first)], narrowed := true }
def TapeTextsUptoSaid : Prop := tapeTextsUptoRow.holds Tryd.pinned (OpenSpec.upto tapeTextsSpec)

/-- 'rafterlaw40.TapeParses', WHERE WHAT IT READS IS OF BULK AT MOST 1048576: true; the input reads as it did. -/
def tapeParsesUptoRow : OpenClaim := { program := "ytloibeefopdhpaadoor", sum := "f33d45d6358c46143bcfb3bb5c6cc0288feca5fdbea38a0c9f71cb6457e197fa", func := "rafter/rafterlaw40.TapeParses", spec := "tapeParses", inPlace := ["internal/bytealg.IndexByteString", "internal/bytealg.IndexString", "internal/bytealg.CountString", "internal/abi.NoEscape", "internal/bytealg.MakeNoZero"], unfollowed := true, recurses := true, named := ["internal/bytealg.MaxLen", "unicode/utf8.first", "unicode/utf8.acceptRanges"], apart := false, laid := [("unicode/utf8.acceptRanges", laid_unicode_utf8_acceptRanges), ("unicode/utf8.first", laid_unicode_utf8_first)], narrowed := true }
def TapeParsesUptoSaid : Prop := tapeParsesUptoRow.holds Tryd.pinned (OpenSpec.upto tapeParsesSpec)

end Rows
end Go.Proofs.YtloibeefopdhpaaDoor
