/-
  DERIVED. GIVEN WITH THE SEED: THE CARDS: each row of YtmimejckcknjfaaDoorRows.lean that lists a variable, with what it lists TIED to the program's text (the seventh form; the later family's looks); each row that meets fmt, with fmt's text TOLD by the authors' own Lean function (tested against real Go, not proved from fmt's source: count such statements apart). THE CARD IS WHAT COUNTS. Prove the row's statement (the work); the ties are given (YtmimejckcknjfaaDoorTie.lean); close each card by the builder's one call (the guide's Derived/Test/ToyasCard.lean, 'card_holds'). Laid BY PROGRAM, IN A SANDBOX (cutbox-door.mjs). By AI agents, Wed Nov 11 2026. No macro, syntax, notation, axiom, sorry.
-/
import Derived.Test.YtmimejckcknjfaaDoorRows
import GoSem.ClaimSeven
namespace Go.Proofs.YtmimejckcknjfaaDoor
namespace Rows

/-- THE TIED CARD OF 'rafterlaw15.ClashOps'. -/
def clashOpsCard : Claim7 := { stood := { row := clashOpsRow, standIns := [], harness := (true, "c3f15c1e276f7452c46b37159d9cb355b73a7a2abf12a2486f98306dc8e69808"), looks := false }, kinds := [], alts := [], laidByText := true, laidKinds := [.data, .pinned], laidTests := true, laidLooks := .later }
def ClashOpsCardSaid : Prop := Claim7.holds Tryd.pinned (.plain (OpenSpec.ofChange clashOpsSpec)) clashOpsCard

/-- THE TIED CARD OF 'rafterlaw15.ClashPatches'. -/
def clashPatchesCard : Claim7 := { stood := { row := clashPatchesRow, standIns := [], harness := (true, "c3f15c1e276f7452c46b37159d9cb355b73a7a2abf12a2486f98306dc8e69808"), looks := false }, kinds := [], alts := [], laidByText := true, laidKinds := [.data, .pinned], laidTests := true, laidLooks := .later }
def ClashPatchesCardSaid : Prop := Claim7.holds Tryd.pinned (.plain (OpenSpec.ofChange clashPatchesSpec)) clashPatchesCard

/-- THE SECOND FORM's CARD OF 'rafterlaw15.ClashOps'. -/
def clashOpsUptoCard : Claim7 := { stood := { row := clashOpsUptoRow, standIns := [], harness := (true, "c3f15c1e276f7452c46b37159d9cb355b73a7a2abf12a2486f98306dc8e69808"), looks := false }, kinds := [], alts := [], laidByText := true, laidKinds := [.data, .pinned], laidTests := true, laidLooks := .later }
def ClashOpsUptoCardSaid : Prop := Claim7.holds Tryd.pinned (.plain (OpenSpec.upto clashOpsSpec)) clashOpsUptoCard

/-- THE SECOND FORM's CARD OF 'rafterlaw15.ClashPatches'. -/
def clashPatchesUptoCard : Claim7 := { stood := { row := clashPatchesUptoRow, standIns := [], harness := (true, "c3f15c1e276f7452c46b37159d9cb355b73a7a2abf12a2486f98306dc8e69808"), looks := false }, kinds := [], alts := [], laidByText := true, laidKinds := [.data, .pinned], laidTests := true, laidLooks := .later }
def ClashPatchesUptoCardSaid : Prop := Claim7.holds Tryd.pinned (.plain (OpenSpec.upto clashPatchesSpec)) clashPatchesUptoCard
end Rows
end Go.Proofs.YtmimejckcknjfaaDoor
