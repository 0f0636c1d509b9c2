-- Words of the kit's print (as it laid them for this seat); what this claim does not use is left out.
import Derived.Lib.Bytealg
import Derived.WalkKit
set_option linter.unusedVariables false
namespace Go.Proofs.YtloibeefopdhpaaDoor.Plain
open Go.RowKit
def hexL : List UInt8 := [48, 49, 50, 51, 52, 53, 54, 55, 56, 57, 97, 98, 99, 100, 101, 102]
def hexd (n : Nat) : UInt8 := hexL.getD n 0
def digN (c : UInt8) : Nat := (Lib.indexByte hexL c).toNat
theorem digN_hexd : ∀ n, n < 16 → digN (hexd n) = n := by
  intro n h
  have : ∀ m : Fin 16, digN (hexd m.1) = m.1 := by decide
  exact this ⟨n, h⟩
theorem indexByte_lt (c : UInt8) : ∀ l : List UInt8, Lib.indexByte l c < (l.length : Int)
  | [] => by rw [Lib.indexByte]; decide
  | b :: l => by
    have := indexByte_lt c l
    rw [Lib.indexByte, List.length_cons]
    split
    · omega
    · split <;> omega
theorem digN_lt (c : UInt8) : digN c < 16 := by
  unfold digN
  have := indexByte_lt c hexL
  have h : hexL.length = 16 := rfl
  omega
def signL (c : UInt8) : List UInt8 := if 32 < c.toNat ∧ c.toNat < 127 ∧ c.toNat ≠ 37 then [c] else [37, hexd (c.toNat / 16), hexd (c.toNat % 16)]
def bareB (c : UInt8) : Bool := decide (97 ≤ c.toNat ∧ c.toNat ≤ 122 ∨ 48 ≤ c.toNat ∧ c.toNat ≤ 57 ∨ c.toNat = 46 ∨ c.toNat = 95 ∨ c.toNat = 45 ∨ c.toNat = 47)
def bareL (s : List UInt8) : Bool := decide (s ≠ []) && s.all bareB
def wordL (s : List UInt8) : List UInt8 := if bareL s = true then s else 61 :: s.flatMap signL
def decL : List UInt8 → List UInt8
  | [] => []
  | [c] => [c]
  | [c, d] => [c, d]
  | c :: a :: b :: r => if c = 37 then UInt8.ofNat (16 * digN a + digN b) :: decL r else c :: decL (a :: b :: r)
def readL : List UInt8 → List UInt8
  | [] => []
  | c :: t => if c = 61 then decL t else c :: t
theorem decL_other {c : UInt8} (h : c ≠ 37) : ∀ r, decL (c :: r) = c :: decL r
  | [] => rfl
  | [d] => rfl
  | d :: e :: r => by rw [decL, if_neg h]
theorem decL_sign (c : UInt8) (r : List UInt8) : decL (signL c ++ r) = c :: decL r := by
  unfold signL
  by_cases h : 32 < c.toNat ∧ c.toNat < 127 ∧ c.toNat ≠ 37
  · rw [if_pos h]
    exact decL_other (fun e => h.2.2 (by rw [e]; rfl)) r
  · rw [if_neg h, List.cons_append, List.cons_append, List.cons_append, List.nil_append, decL, if_pos rfl]
    have hc : c.toNat < 256 := c.toNat_lt
    rw [digN_hexd _ (by omega), digN_hexd _ (by omega), show 16 * (c.toNat / 16) + c.toNat % 16 = c.toNat by omega]
    simp
theorem decL_flat : ∀ s : List UInt8, decL (s.flatMap signL) = s
  | [] => rfl
  | c :: s => by rw [List.flatMap_cons, decL_sign, decL_flat s]
theorem bareB_ne61 {c : UInt8} (h : bareB c = true) : c ≠ 61 := by
  intro e
  subst e
  revert h
  decide
theorem read_word (s : List UInt8) : readL (wordL s) = s := by
  unfold wordL
  by_cases h : bareL s = true
  · rw [if_pos h]
    cases s with
    | nil => rfl
    | cons c t =>
      unfold bareL at h
      rw [List.all_cons] at h
      simp only [Bool.and_eq_true] at h
      rw [readL, if_neg (bareB_ne61 h.2.1)]
  · rw [if_neg h, readL, if_pos rfl, decL_flat]
theorem hexd_ne (n : Nat) (h : n < 16) : hexd n ≠ 32 := by
  have : ∀ m : Fin 16, hexd m.1 ≠ 32 := by decide
  exact this ⟨n, h⟩
theorem sign_free (c : UInt8) : (32 : UInt8) ∉ signL c := by
  unfold signL
  by_cases h : 32 < c.toNat ∧ c.toNat < 127 ∧ c.toNat ≠ 37
  · rw [if_pos h]
    intro e
    simp at e
    rw [← e] at h
    exact absurd h.1 (by decide)
  · rw [if_neg h]
    have hc : c.toNat < 256 := c.toNat_lt
    intro e
    simp only [List.mem_cons, List.mem_nil_iff, or_false] at e
    rcases e with e | e | e
    · revert e; decide
    · exact hexd_ne _ (by omega) e.symm
    · exact hexd_ne _ (by omega) e.symm
theorem word_free (s : List UInt8) : (32 : UInt8) ∉ wordL s := by
  unfold wordL
  by_cases h : bareL s = true
  · rw [if_pos h]
    intro e
    unfold bareL at h
    simp only [Bool.and_eq_true, List.all_eq_true] at h
    exact absurd (h.2 32 e) (by decide)
  · rw [if_neg h]
    intro e
    rcases List.mem_cons.1 e with e | e
    · revert e; decide
    · obtain ⟨c, _, hc⟩ := List.mem_flatMap.1 e
      exact sign_free c hc
theorem sign_length (c : UInt8) : (signL c).length ≤ 3 := by
  unfold signL
  split <;> simp
theorem flat_length : ∀ s : List UInt8, (s.flatMap signL).length ≤ 3 * s.length
  | [] => by simp
  | c :: s => by
    have h1 := flat_length s
    have h2 := sign_length c
    rw [List.flatMap_cons, List.length_append, List.length_cons]
    omega
theorem word_length (s : List UInt8) : (wordL s).length ≤ 3 * s.length + 1 := by
  unfold wordL
  split
  · omega
  · have := flat_length s
    rw [List.length_cons]
    omega
theorem dec_length : ∀ (n : Nat) (l : List UInt8), l.length ≤ n → (decL l).length ≤ l.length
  | _, [], _ => by simp [decL]
  | _, [c], _ => by simp [decL]
  | _, [c, d], _ => by simp [decL]
  | 0, c :: a :: b :: r, h => by simp at h
  | n + 1, c :: a :: b :: r, h => by
    rw [decL]
    split
    · have := dec_length n r (by simp at h; omega)
      simp
      omega
    · have := dec_length n (a :: b :: r) (by simp at h ⊢; omega)
      simp at this ⊢
      omega
theorem read_length (w : List UInt8) : (readL w).length ≤ w.length := by
  cases w with
  | nil => simp [readL]
  | cons c t =>
    rw [readL]
    split
    · have := dec_length _ t (Nat.le_refl _)
      rw [List.length_cons]
      omega
    · exact Nat.le_refl _
end Go.Proofs.YtloibeefopdhpaaDoor.Plain
