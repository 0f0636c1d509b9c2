-- Words of the kit's print (as it laid them for this seat); what this claim does not use is left out.
import Derived.Test.YtloibeefopdhpaaDoorWInv
import Derived.Test.YtloibeefopdhpaaDoorWFootNe
namespace Go.Proofs.YtloibeefopdhpaaDoorW.PrintWords
open Go.RowKit
end Go.Proofs.YtloibeefopdhpaaDoorW.PrintWords
namespace Go.Proofs.YtloibeefopdhpaaDoorW.PrintLast
section
variable {ops : Array Oper} {a : Act} {o og : Oper} {g : Nat} {t : Tmp} {u : Bool}
end
end Go.Proofs.YtloibeefopdhpaaDoorW.PrintLast
