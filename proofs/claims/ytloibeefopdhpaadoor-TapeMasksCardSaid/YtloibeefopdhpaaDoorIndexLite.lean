/- internal/stringslite.Index at a substring of one byte, as the print takes it. -/
import Derived.Test.YtloibeefopdhpaaDoorG0
import Derived.Test.YtloibeefopdhpaaDoorShelf
import Derived.Test.YtloibeefopdhpaaDoorBytes
set_option linter.unusedVariables false
namespace Go.Proofs.YtloibeefopdhpaaDoor.G
open Go.RowKit Go.Shelf Go.Proofs.YtloibeefopdhpaaDoorW.PrintWords Go.Proofs.YtloibeefopdhpaaDoorW.PrintLast Go.Proofs.YtloibeefopdhpaaDoor.Plain

def stringslite_Index.f (a0 a1 : ByteArray) : Option Int := match a1.toList with | [c] => some (Lib.indexByte a0.toList c) | _ => none
theorem stringslite_Index.calls (a0 a1 : ByteArray) (r : Int) (w : World) (h : stringslite_Index.f a0 a1 = some r) :
    Calls Tryd.prog 138 #[.string a0, .string a1] w fun e w' => e = .returned (.int .i64 r) ∧ Drawn0 w w' := by
  unfold stringslite_Index.f at h
  split at h
  · rename_i c hc
    obtain rfl : a1 = ⟨#[c]⟩ := ext_toList (by rw [hc]; exact (toList_B [c]).symm)
    injection h with h
    subst h
    have hcall : Calls Tryd.prog 138 #[.string a0, .string ⟨#[c]⟩] w fun e w' => e = .returned (.int .i64 (Lib.indexByte a0.data.toList c)) ∧ w' = w := Any.stringslite_Index_one (ρ := Tryd.lays143_ren) { Tryd.lays143 with } a0 c w
    refine hcall.mono ?_
    rintro e w' ⟨rfl, rfl⟩
    exact ⟨by rw [ByteArray.toList_eq], Drawn0.refl _⟩
  · cases h

end Go.Proofs.YtloibeefopdhpaaDoor.G
