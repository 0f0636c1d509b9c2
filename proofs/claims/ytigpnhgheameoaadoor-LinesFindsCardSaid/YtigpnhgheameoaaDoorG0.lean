-- Printed by a program of this session (wip/tools/own_print.sh), on the model of the kit's print; Lean checks it.
import Derived.Test.YtigpnhgheameoaaDoorProg
import Derived.Below
import Derived.Deep.Draws
import Derived.Deep.AppendLies
import Derived.Maps.AppendAt
import Derived.OwnWalk
import Derived.Laws.BytesArg
import Derived.Laws.MakeOwn
import Derived.Laws.OwnMore
import Derived.Deep.OwnRows
import Derived.Tactics
import Derived.Lib.ConvBytes
import Derived.Laws.Slices
import Derived.WalkKit
import Derived.KernelRfl
import Derived.RowKit3
import Derived.Deep.LoopGhost
import Derived.Deep.QuietTactic
import Derived.BigQuiet
import Derived.WideLaws
import Derived.Deep.DeepCutAuto
import Derived.Deep.CutBlock
import Derived.Deep.RegionHeld3
import Derived.Laws.Rows
import Derived.Lib.AppendStr
import Derived.ArgAppend
import Derived.Laws.IdiomCopy
import Derived.OrdersHeld
import Derived.Laws.BitsLemmas
import Derived.RowKit
import Derived.Test.YtigpnhgheameoaaDoorWWords
import Derived.Test.YtigpnhgheameoaaDoorWLast
import Derived.Test.YtigpnhgheameoaaDoorWTab
import Derived.Test.YtigpnhgheameoaaDoorWFour
import Derived.Test.YtigpnhgheameoaaDoorWQPut
import Derived.Test.YtigpnhgheameoaaDoorWApart
import Derived.Test.YtigpnhgheameoaaDoorWArr
import Derived.Test.YtigpnhgheameoaaDoorWZeros
import Derived.Test.YtigpnhgheameoaaDoorWFoot
import Derived.Test.YtigpnhgheameoaaDoorWKept
import Derived.Test.YtigpnhgheameoaaDoorWShare
import Derived.Test.YtigpnhgheameoaaDoorWN
import Derived.Test.YtigpnhgheameoaaDoorWFootNe
import Derived.Test.YtigpnhgheameoaaDoorWAt
import Derived.Test.YtigpnhgheameoaaDoorWEqStruct
import Derived.Test.YtigpnhgheameoaaDoorWRepsOne
import Derived.Test.YtigpnhgheameoaaDoorWInv
import Derived.Test.YtigpnhgheameoaaDoorWInvWords
import Derived.Test.YtigpnhgheameoaaDoorWGuard
import Derived.Test.YtigpnhgheameoaaDoorWNEv
import Derived.Test.YtigpnhgheameoaaDoorWMore
namespace Go.Proofs.YtigpnhgheameoaaDoor.G
open Go.RowKit Go.Proofs.YtigpnhgheameoaaDoorW.PrintWords Go.Proofs.YtigpnhgheameoaaDoorW.PrintLast Go.Proofs.YtigpnhgheameoaaDoorW.PrintMore
attribute [local go_sem] max2_int min2_int max_two min_two max_three min_three max_four min_four   -- for this text's walks alone
set_option linter.unusedVariables false
set_option linter.unusedSimpArgs false



def errW : Option Int → Value
  | none => .nilIface
  | some c => .iface 0 (.int .i64 c)
theorem errW_none : errW none = .nilIface := rfl
theorem errW_some (c : Int) : errW (some c) = .iface 0 (.int .i64 c) := rfl

theorem info5 : (Tryd.prog.info? 5).map (fun i => (i.zero, i.size, i.bytes)) = some (some (.int .u8 0), 1, 1) := by kernel_rfl
theorem info9 : (Tryd.prog.info? 9).map (fun i => (i.zero, i.size, i.bytes)) = some (some (.string ⟨#[]⟩), 1, 16) := by kernel_rfl
-- the values' own types

end Go.Proofs.YtigpnhgheameoaaDoor.G
