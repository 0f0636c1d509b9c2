/- The two tables of unicode/utf8, as the world at hand must hold them. -/
import Derived.Test.YtigpnhgheameoaaDoorBytes
import Derived.Test.YtigpnhgheameoaaDoorShelf
set_option linter.unusedVariables false
namespace Go.Proofs.YtigpnhgheameoaaDoor.G
open Go.RowKit Go.Proofs.YtigpnhgheameoaaDoor.Plain

def Gl (w : World) : Prop := Lib.Utf8Tabs 0 1 w
theorem Gl.below {w w' : World} (h : Gl w) (hb : Below w.heap.size w w') : Gl w' := Utf8Tabs_below h hb

/-- utf8.DecodeRuneInString: the model's own decoder. -/
def utf8_DecodeRuneInString.f (a0 : ByteArray) : Option (Int × Int) := some (((Lib.decodeGo a0).1 : Int), ((Lib.decodeGo a0).2 : Int))
theorem utf8_DecodeRuneInString.calls (a0 : ByteArray) (r1 : Int) (r2 : Int) (w : World) (h : utf8_DecodeRuneInString.f a0 = some (r1, r2)) (hG : Gl w) :
    Calls Tryd.prog 90 #[.string a0] w fun e w' => e = .returned (.tuple #[.int .i32 r1, .int .i64 r2]) ∧ Below w.heap.size w w' := by
  injection h with h
  injection h with h1 h2
  rw [← h1, ← h2]
  exact Tryd.utf8_DecodeRuneInString a0 w hG

end Go.Proofs.YtigpnhgheameoaaDoor.G
