/-
  DERIVED. GIVEN WITH THE SEED: THE CARDS: each row of YtigpnhgheameoaaDoorRows.lean that lists a variable, with what it lists TIED to the program's text (the seventh form; the later family's looks); each row that meets fmt, with fmt's text TOLD by the authors' own Lean function (tested against real Go, not proved from fmt's source: count such statements apart). THE CARD IS WHAT COUNTS. Prove the row's statement (the work); the ties are given (YtigpnhgheameoaaDoorTie.lean); close each card by the builder's one call (the guide's Derived/Test/ToyasCard.lean, 'card_holds'). Laid BY PROGRAM, IN A SANDBOX (cutbox-door.mjs). By AI agents, Wed Nov 11 2026. No macro, syntax, notation, axiom, sorry.
-/
import Derived.Test.YtigpnhgheameoaaDoorRows
import GoSem.ClaimSeven
namespace Go.Proofs.YtigpnhgheameoaaDoor
namespace Rows

/-- THE TIED CARD OF 'rafterlaw15.ClashOps'. -/
def clashOpsCard : Claim7 := { stood := { row := clashOpsRow, standIns := [], harness := (true, "67233ab6d66ab3cfbf4625ef08efd9377dda0bdd92ef760151fcaba34fb478b5"), looks := false }, kinds := [], alts := [], laidByText := true, laidKinds := [.data, .pinned], laidTests := true, laidLooks := .later }
def ClashOpsCardSaid : Prop := Claim7.holds Tryd.pinned (.plain (OpenSpec.ofChange clashOpsSpec)) clashOpsCard

/-- THE TIED CARD OF 'rafterlaw15.ClashPatches'. -/
def clashPatchesCard : Claim7 := { stood := { row := clashPatchesRow, standIns := [], harness := (true, "67233ab6d66ab3cfbf4625ef08efd9377dda0bdd92ef760151fcaba34fb478b5"), looks := false }, kinds := [], alts := [], laidByText := true, laidKinds := [.data, .pinned], laidTests := true, laidLooks := .later }
def ClashPatchesCardSaid : Prop := Claim7.holds Tryd.pinned (.plain (OpenSpec.ofChange clashPatchesSpec)) clashPatchesCard

/-- THE TIED CARD OF 'rafterlaw05.PathParts'. -/
def pathPartsCard : Claim7 := { stood := { row := pathPartsRow, standIns := [], harness := (true, "67233ab6d66ab3cfbf4625ef08efd9377dda0bdd92ef760151fcaba34fb478b5"), looks := false }, kinds := [], alts := [], laidByText := true, laidKinds := [.data, .pinned], laidTests := true, laidLooks := .later }
def PathPartsCardSaid : Prop := Claim7.holds Tryd.pinned (.plain (OpenSpec.ofChange pathPartsSpec)) pathPartsCard

/-- THE TIED CARD OF 'rafterlaw05.PathMoves'. -/
def pathMovesCard : Claim7 := { stood := { row := pathMovesRow, standIns := [], harness := (true, "67233ab6d66ab3cfbf4625ef08efd9377dda0bdd92ef760151fcaba34fb478b5"), looks := false }, kinds := [], alts := [], laidByText := true, laidKinds := [.data, .pinned], laidTests := true, laidLooks := .later }
def PathMovesCardSaid : Prop := Claim7.holds Tryd.pinned (.plain (OpenSpec.ofChange pathMovesSpec)) pathMovesCard

/-- THE TIED CARD OF 'rafterlaw05.PathLess'. -/
def pathLessCard : Claim7 := { stood := { row := pathLessRow, standIns := [], harness := (true, "67233ab6d66ab3cfbf4625ef08efd9377dda0bdd92ef760151fcaba34fb478b5"), looks := false }, kinds := [], alts := [], laidByText := true, laidKinds := [.data, .pinned], laidTests := true, laidLooks := .later }
def PathLessCardSaid : Prop := Claim7.holds Tryd.pinned (.plain (OpenSpec.ofChange pathLessSpec)) pathLessCard

/-- THE TIED CARD OF 'rafterlaw03.LinesTexts'. -/
def linesTextsCard : Claim7 := { stood := { row := linesTextsRow, standIns := [], harness := (true, "67233ab6d66ab3cfbf4625ef08efd9377dda0bdd92ef760151fcaba34fb478b5"), looks := false }, kinds := [], alts := [], laidByText := true, laidKinds := [.data, .pinned], laidTests := true, laidLooks := .later }
def LinesTextsCardSaid : Prop := Claim7.holds Tryd.pinned (.plain (OpenSpec.ofChange linesTextsSpec)) linesTextsCard

/-- THE TIED CARD OF 'rafterlaw03.LinesSplits'. -/
def linesSplitsCard : Claim7 := { stood := { row := linesSplitsRow, standIns := [], harness := (true, "67233ab6d66ab3cfbf4625ef08efd9377dda0bdd92ef760151fcaba34fb478b5"), looks := false }, kinds := [], alts := [], laidByText := true, laidKinds := [.data, .pinned], laidTests := true, laidLooks := .later }
def LinesSplitsCardSaid : Prop := Claim7.holds Tryd.pinned (.plain (OpenSpec.ofChange linesSplitsSpec)) linesSplitsCard

/-- THE TIED CARD OF 'rafterlaw03.LinesFinds'. -/
def linesFindsCard : Claim7 := { stood := { row := linesFindsRow, standIns := [], harness := (true, "67233ab6d66ab3cfbf4625ef08efd9377dda0bdd92ef760151fcaba34fb478b5"), looks := false }, kinds := [], alts := [], laidByText := true, laidKinds := [.data, .pinned], laidTests := true, laidLooks := .later }
def LinesFindsCardSaid : Prop := Claim7.holds Tryd.pinned (.plain (OpenSpec.ofChange linesFindsSpec)) linesFindsCard

/-- THE SECOND FORM's CARD OF 'rafterlaw15.ClashOps'. -/
def clashOpsUptoCard : Claim7 := { stood := { row := clashOpsUptoRow, standIns := [], harness := (true, "67233ab6d66ab3cfbf4625ef08efd9377dda0bdd92ef760151fcaba34fb478b5"), looks := false }, kinds := [], alts := [], laidByText := true, laidKinds := [.data, .pinned], laidTests := true, laidLooks := .later }
def ClashOpsUptoCardSaid : Prop := Claim7.holds Tryd.pinned (.plain (OpenSpec.upto clashOpsSpec)) clashOpsUptoCard

/-- THE SECOND FORM's CARD OF 'rafterlaw15.ClashPatches'. -/
def clashPatchesUptoCard : Claim7 := { stood := { row := clashPatchesUptoRow, standIns := [], harness := (true, "67233ab6d66ab3cfbf4625ef08efd9377dda0bdd92ef760151fcaba34fb478b5"), looks := false }, kinds := [], alts := [], laidByText := true, laidKinds := [.data, .pinned], laidTests := true, laidLooks := .later }
def ClashPatchesUptoCardSaid : Prop := Claim7.holds Tryd.pinned (.plain (OpenSpec.upto clashPatchesSpec)) clashPatchesUptoCard

/-- THE SECOND FORM's CARD OF 'rafterlaw05.PathParts'. -/
def pathPartsUptoCard : Claim7 := { stood := { row := pathPartsUptoRow, standIns := [], harness := (true, "67233ab6d66ab3cfbf4625ef08efd9377dda0bdd92ef760151fcaba34fb478b5"), looks := false }, kinds := [], alts := [], laidByText := true, laidKinds := [.data, .pinned], laidTests := true, laidLooks := .later }
def PathPartsUptoCardSaid : Prop := Claim7.holds Tryd.pinned (.plain (OpenSpec.upto pathPartsSpec)) pathPartsUptoCard

/-- THE SECOND FORM's CARD OF 'rafterlaw05.PathMoves'. -/
def pathMovesUptoCard : Claim7 := { stood := { row := pathMovesUptoRow, standIns := [], harness := (true, "67233ab6d66ab3cfbf4625ef08efd9377dda0bdd92ef760151fcaba34fb478b5"), looks := false }, kinds := [], alts := [], laidByText := true, laidKinds := [.data, .pinned], laidTests := true, laidLooks := .later }
def PathMovesUptoCardSaid : Prop := Claim7.holds Tryd.pinned (.plain (OpenSpec.upto pathMovesSpec)) pathMovesUptoCard

/-- THE SECOND FORM's CARD OF 'rafterlaw05.PathLess'. -/
def pathLessUptoCard : Claim7 := { stood := { row := pathLessUptoRow, standIns := [], harness := (true, "67233ab6d66ab3cfbf4625ef08efd9377dda0bdd92ef760151fcaba34fb478b5"), looks := false }, kinds := [], alts := [], laidByText := true, laidKinds := [.data, .pinned], laidTests := true, laidLooks := .later }
def PathLessUptoCardSaid : Prop := Claim7.holds Tryd.pinned (.plain (OpenSpec.upto pathLessSpec)) pathLessUptoCard

/-- THE SECOND FORM's CARD OF 'rafterlaw03.LinesTexts'. -/
def linesTextsUptoCard : Claim7 := { stood := { row := linesTextsUptoRow, standIns := [], harness := (true, "67233ab6d66ab3cfbf4625ef08efd9377dda0bdd92ef760151fcaba34fb478b5"), looks := false }, kinds := [], alts := [], laidByText := true, laidKinds := [.data, .pinned], laidTests := true, laidLooks := .later }
def LinesTextsUptoCardSaid : Prop := Claim7.holds Tryd.pinned (.plain (OpenSpec.upto linesTextsSpec)) linesTextsUptoCard

/-- THE SECOND FORM's CARD OF 'rafterlaw03.LinesSplits'. -/
def linesSplitsUptoCard : Claim7 := { stood := { row := linesSplitsUptoRow, standIns := [], harness := (true, "67233ab6d66ab3cfbf4625ef08efd9377dda0bdd92ef760151fcaba34fb478b5"), looks := false }, kinds := [], alts := [], laidByText := true, laidKinds := [.data, .pinned], laidTests := true, laidLooks := .later }
def LinesSplitsUptoCardSaid : Prop := Claim7.holds Tryd.pinned (.plain (OpenSpec.upto linesSplitsSpec)) linesSplitsUptoCard

/-- THE SECOND FORM's CARD OF 'rafterlaw03.LinesFinds'. -/
def linesFindsUptoCard : Claim7 := { stood := { row := linesFindsUptoRow, standIns := [], harness := (true, "67233ab6d66ab3cfbf4625ef08efd9377dda0bdd92ef760151fcaba34fb478b5"), looks := false }, kinds := [], alts := [], laidByText := true, laidKinds := [.data, .pinned], laidTests := true, laidLooks := .later }
def LinesFindsUptoCardSaid : Prop := Claim7.holds Tryd.pinned (.plain (OpenSpec.upto linesFindsSpec)) linesFindsUptoCard
end Rows
end Go.Proofs.YtigpnhgheameoaaDoor
