-- Words of the kit's print (as it laid them for this seat); what this claim does not use is left out.
import Derived.Lib.Bytealg
import Derived.WalkKit
set_option linter.unusedVariables false
namespace Go.Proofs.YtloibeefopdhpaaDoor.Plain
open Go.RowKit
def hexL : List UInt8 := [48, 49, 50, 51, 52, 53, 54, 55, 56, 57, 97, 98, 99, 100, 101, 102]
def hexd (n : Nat) : UInt8 := hexL.getD n 0
def digN (c : UInt8) : Nat := (Lib.indexByte hexL c).toNat
theorem digN_hexd : ∀ n, n < 16 → digN (hexd n) = n := by
  intro n h
  have : ∀ m : Fin 16, digN (hexd m.1) = m.1 := by decide
  exact this ⟨n, h⟩
theorem indexByte_lt (c : UInt8) : ∀ l : List UInt8, Lib.indexByte l c < (l.length : Int)
  | [] => by rw [Lib.indexByte]; decide
  | b :: l => by
    have := indexByte_lt c l
    rw [Lib.indexByte, List.length_cons]
    split
    · omega
    · split <;> omega
theorem digN_lt (c : UInt8) : digN c < 16 := by
  unfold digN
  have := indexByte_lt c hexL
  have h : hexL.length = 16 := rfl
  omega
def signL (c : UInt8) : List UInt8 := if 32 < c.toNat ∧ c.toNat < 127 ∧ c.toNat ≠ 37 then [c] else [37, hexd (c.toNat / 16), hexd (c.toNat % 16)]
def bareB (c : UInt8) : Bool := decide (97 ≤ c.toNat ∧ c.toNat ≤ 122 ∨ 48 ≤ c.toNat ∧ c.toNat ≤ 57 ∨ c.toNat = 46 ∨ c.toNat = 95 ∨ c.toNat = 45 ∨ c.toNat = 47)
def bareL (s : List UInt8) : Bool := decide (s ≠ []) && s.all bareB
def wordL (s : List UInt8) : List UInt8 := if bareL s = true then s else 61 :: s.flatMap signL
def decL : List UInt8 → List UInt8
  | [] => []
  | [c] => [c]
  | [c, d] => [c, d]
  | c :: a :: b :: r => if c = 37 then UInt8.ofNat (16 * digN a + digN b) :: decL r else c :: decL (a :: b :: r)
def readL : List UInt8 → List UInt8
  | [] => []
  | c :: t => if c = 61 then decL t else c :: t
end Go.Proofs.YtloibeefopdhpaaDoor.Plain
