/- The reference's sign of a byte: the walk. -/
import Derived.Lib.Bytealg
import Derived.WalkKit
import Derived.Test.YtloibeefopdhpaaDoorReader
import Derived.Deep.RegionLaw
import Derived.Outline
set_option linter.unusedVariables false
namespace Go.Proofs.YtloibeefopdhpaaDoor.Plain
open Go.RowKit
def hexL : List UInt8 := [48, 49, 50, 51, 52, 53, 54, 55, 56, 57, 97, 98, 99, 100, 101, 102]
def hexd (n : Nat) : UInt8 := hexL.getD n 0
def digN (c : UInt8) : Nat := (Lib.indexByte hexL c).toNat
theorem digN_hexd : ∀ n, n < 16 → digN (hexd n) = n := by
  intro n h
  have : ∀ m : Fin 16, digN (hexd m.1) = m.1 := by decide
  exact this ⟨n, h⟩
theorem indexByte_lt (c : UInt8) : ∀ l : List UInt8, Lib.indexByte l c < (l.length : Int)
  | [] => by rw [Lib.indexByte]; decide
  | b :: l => by
    have := indexByte_lt c l
    rw [Lib.indexByte, List.length_cons]
    split
    · omega
    · split <;> omega
theorem digN_lt (c : UInt8) : digN c < 16 := by
  unfold digN
  have := indexByte_lt c hexL
  have h : hexL.length = 16 := rfl
  omega
def signL (c : UInt8) : List UInt8 := if 32 < c.toNat ∧ c.toNat < 127 ∧ c.toNat ≠ 37 then [c] else [37, hexd (c.toNat / 16), hexd (c.toNat % 16)]
def bareB (c : UInt8) : Bool := decide (97 ≤ c.toNat ∧ c.toNat ≤ 122 ∨ 48 ≤ c.toNat ∧ c.toNat ≤ 57 ∨ c.toNat = 46 ∨ c.toNat = 95 ∨ c.toNat = 45 ∨ c.toNat = 47)
def bareL (s : List UInt8) : Bool := decide (s ≠ []) && s.all bareB
def wordL (s : List UInt8) : List UInt8 := if bareL s = true then s else 61 :: s.flatMap signL
def decL : List UInt8 → List UInt8
  | [] => []
  | [c] => [c]
  | [c, d] => [c, d]
  | c :: a :: b :: r => if c = 37 then UInt8.ofNat (16 * digN a + digN b) :: decL r else c :: decL (a :: b :: r)
def readL : List UInt8 → List UInt8
  | [] => []
  | c :: t => if c = 61 then decL t else c :: t
theorem decL_other {c : UInt8} (h : c ≠ 37) : ∀ r, decL (c :: r) = c :: decL r
  | [] => rfl
  | [d] => rfl
  | d :: e :: r => by rw [decL, if_neg h]
theorem decL_sign (c : UInt8) (r : List UInt8) : decL (signL c ++ r) = c :: decL r := by
  unfold signL
  by_cases h : 32 < c.toNat ∧ c.toNat < 127 ∧ c.toNat ≠ 37
  · rw [if_pos h]
    exact decL_other (fun e => h.2.2 (by rw [e]; rfl)) r
  · rw [if_neg h, List.cons_append, List.cons_append, List.cons_append, List.nil_append, decL, if_pos rfl]
    have hc : c.toNat < 256 := c.toNat_lt
    rw [digN_hexd _ (by omega), digN_hexd _ (by omega), show 16 * (c.toNat / 16) + c.toNat % 16 = c.toNat by omega]
    simp
theorem decL_flat : ∀ s : List UInt8, decL (s.flatMap signL) = s
  | [] => rfl
  | c :: s => by rw [List.flatMap_cons, decL_sign, decL_flat s]
theorem bareB_ne61 {c : UInt8} (h : bareB c = true) : c ≠ 61 := by
  intro e
  subst e
  revert h
  decide
theorem read_word (s : List UInt8) : readL (wordL s) = s := by
  unfold wordL
  by_cases h : bareL s = true
  · rw [if_pos h]
    cases s with
    | nil => rfl
    | cons c t =>
      unfold bareL at h
      rw [List.all_cons] at h
      simp only [Bool.and_eq_true] at h
      rw [readL, if_neg (bareB_ne61 h.2.1)]
  · rw [if_neg h, readL, if_pos rfl, decL_flat]
theorem hexd_ne (n : Nat) (h : n < 16) : hexd n ≠ 32 := by
  have : ∀ m : Fin 16, hexd m.1 ≠ 32 := by decide
  exact this ⟨n, h⟩
theorem sign_free (c : UInt8) : (32 : UInt8) ∉ signL c := by
  unfold signL
  by_cases h : 32 < c.toNat ∧ c.toNat < 127 ∧ c.toNat ≠ 37
  · rw [if_pos h]
    intro e
    simp at e
    rw [← e] at h
    exact absurd h.1 (by decide)
  · rw [if_neg h]
    have hc : c.toNat < 256 := c.toNat_lt
    intro e
    simp only [List.mem_cons, List.mem_nil_iff, or_false] at e
    rcases e with e | e | e
    · revert e; decide
    · exact hexd_ne _ (by omega) e.symm
    · exact hexd_ne _ (by omega) e.symm
theorem word_free (s : List UInt8) : (32 : UInt8) ∉ wordL s := by
  unfold wordL
  by_cases h : bareL s = true
  · rw [if_pos h]
    intro e
    unfold bareL at h
    simp only [Bool.and_eq_true, List.all_eq_true] at h
    exact absurd (h.2 32 e) (by decide)
  · rw [if_neg h]
    intro e
    rcases List.mem_cons.1 e with e | e
    · revert e; decide
    · obtain ⟨c, _, hc⟩ := List.mem_flatMap.1 e
      exact sign_free c hc
theorem sign_length (c : UInt8) : (signL c).length ≤ 3 := by
  unfold signL
  split <;> simp
theorem flat_length : ∀ s : List UInt8, (s.flatMap signL).length ≤ 3 * s.length
  | [] => by simp
  | c :: s => by
    have h1 := flat_length s
    have h2 := sign_length c
    rw [List.flatMap_cons, List.length_append, List.length_cons]
    omega
theorem word_length (s : List UInt8) : (wordL s).length ≤ 3 * s.length + 1 := by
  unfold wordL
  split
  · omega
  · have := flat_length s
    rw [List.length_cons]
    omega
theorem dec_length : ∀ (n : Nat) (l : List UInt8), l.length ≤ n → (decL l).length ≤ l.length
  | _, [], _ => by simp [decL]
  | _, [c], _ => by simp [decL]
  | _, [c, d], _ => by simp [decL]
  | 0, c :: a :: b :: r, h => by simp at h
  | n + 1, c :: a :: b :: r, h => by
    rw [decL]
    split
    · have := dec_length n r (by simp at h; omega)
      simp
      omega
    · have := dec_length n (a :: b :: r) (by simp at h ⊢; omega)
      simp at this ⊢
      omega
theorem read_length (w : List UInt8) : (readL w).length ≤ w.length := by
  cases w with
  | nil => simp [readL]
  | cons c t =>
    rw [readL]
    split
    · have := dec_length _ t (Nat.le_refl _)
      rw [List.length_cons]
      omega
    · exact Nat.le_refl _
end Go.Proofs.YtloibeefopdhpaaDoor.Plain
set_option linter.unusedVariables false
namespace Go.Proofs.YtloibeefopdhpaaDoor.G
open Go.RowKit Go.Proofs.YtloibeefopdhpaaDoorW.PrintWords Go.Proofs.YtloibeefopdhpaaDoorW.PrintLast Go.Proofs.YtloibeefopdhpaaDoorW.PrintMore Go.Proofs.YtloibeefopdhpaaDoor.Plain

def hexB : ByteArray := ⟨#[48, 49, 50, 51, 52, 53, 54, 55, 56, 57, 97, 98, 99, 100, 101, 102]⟩
def rafterref35_Sign.f (a0 : Int) : Option ByteArray := if 0 ≤ a0 ∧ a0 ≤ 255 then some (B (signL (UInt8.ofNat a0.toNat))) else none
theorem sign_two (m : Nat) (hm : m < 256) (h : ¬ (32 < m ∧ m < 127 ∧ m ≠ 37)) : ((⟨#[37]⟩ : ByteArray) ++ hexB.extract (m / 16) (m / 16 + 1)) ++ hexB.extract (m % 16) (m % 16 + 1) = B (signL (UInt8.ofNat m)) := by
  have h0 : (List.range 256).map (fun n => if 32 < n ∧ n < 127 ∧ n ≠ 37 then B [] else ((⟨#[37]⟩ : ByteArray) ++ hexB.extract (n / 16) (n / 16 + 1)) ++ hexB.extract (n % 16) (n % 16 + 1)) = (List.range 256).map (fun n => if 32 < n ∧ n < 127 ∧ n ≠ 37 then B [] else B (signL (UInt8.ofNat n))) := by kernel_rfl
  have := congrArg (fun l => l[m]?) h0
  simp only [List.getElem?_map, List.getElem?_range hm, Option.map_some, Option.some.injEq] at this
  rwa [if_neg h, if_neg h] at this
theorem sign_one (m : Nat) (hm : m < 256) (h : 32 < m ∧ m < 127 ∧ m ≠ 37) : strOfNums [(m : Int)] = B (signL (UInt8.ofNat m)) := by
  have h1 : (UInt8.ofNat m).toNat = m := by simp; omega
  rw [strOfNums_B, signL, h1, if_pos h]
  simp

set_option maxHeartbeats 4000000 in
set_option maxRecDepth 100000 in
theorem rafterref35_Sign.calls (a0 : Int) (r : ByteArray) (w : World) (h : rafterref35_Sign.f a0 = some r) :
    Calls Tryd.prog 57 #[.int .u8 a0] w fun e w' => e = .returned (.string r) ∧ Below w.heap.size w w' := by
  unfold rafterref35_Sign.f at h
  by_cases hr : 0 ≤ a0 ∧ a0 ≤ 255
  case neg => rw [if_neg hr] at h; cases h
  rw [if_pos hr] at h
  injection h with h
  subst h
  obtain ⟨m, rfl⟩ : ∃ m : Nat, a0 = (m : Int) := ⟨a0.toNat, by omega⟩
  have hm : m < 256 := by omega
  rw [Int.toNat_natCast]
  by_cases h1 : 32 < m ∧ m < 127 ∧ m ≠ 37
  · have HS := Aside0.mk (sign_one m hm h1)
    have c1 : decide ((32 : Int) < (m : Int)) = true := decide_eq_true (by omega)
    have c2 : decide ((m : Int) < 127) = true := decide_eq_true (by omega)
    have c3 : ((m : Int) == 37) = false := by simp; omega
    have c4 : ((m : Int) != 37) = true := by simp; omega
    clear hr h1
    have hcv : (convert 69 9 (.slice (some ⟨w.heap.size, 0, none⟩) 1 1)).run Tryd.prog (w.alloc (.cells #[.int .u8 (m : Int)] 5)) = .ok (.string (strOfNums [(m : Int)])) (w.alloc (.cells #[.int .u8 (m : Int)] 5)) :=
      own_string Tryd.underlying69 Tryd.underlying5 Tryd.underlying9 (own_lit w w.heap.size 5 .u8 [(m : Int)] (Nat.le_refl _) (by simp))
    go_enter Tryd.func57, Tryd.ntmps57
    go_wp2
    go_ret
    exact ⟨by rw [← HS.out]; rfl, (Below.refl _ w).alloc (Nat.le_refl _) _⟩
  · have HS := Aside0.mk (sign_two m hm h1)
    obtain ⟨q, hq0⟩ : ∃ q : Int, q = ((m / 16 : Nat) : Int) := ⟨_, rfl⟩
    obtain ⟨q1, hq1⟩ : ∃ q1 : Int, q1 = q + 1 := ⟨_, rfl⟩
    obtain ⟨e, he0⟩ : ∃ e : Int, e = ((m % 16 : Nat) : Int) := ⟨_, rfl⟩
    obtain ⟨e1, he1⟩ : ∃ e1 : Int, e1 = e + 1 := ⟨_, rfl⟩
    have HT : Aside0 (((⟨#[37]⟩ : ByteArray) ++ (⟨#[48, 49, 50, 51, 52, 53, 54, 55, 56, 57, 97, 98, 99, 100, 101, 102]⟩ : ByteArray).extract q.toNat q1.toNat) ++ (⟨#[48, 49, 50, 51, 52, 53, 54, 55, 56, 57, 97, 98, 99, 100, 101, 102]⟩ : ByteArray).extract e.toNat e1.toNat = B (signL (UInt8.ofNat m))) := ⟨by
      have := HS.out
      rw [show q.toNat = m / 16 by omega, show q1.toNat = m / 16 + 1 by omega, show e.toNat = m % 16 by omega, show e1.toNat = m % 16 + 1 by omega]
      exact this⟩
    have gq : IntKind.u8.wrap ((m : Int) / 16) = q := by
      have := IntKind.wrap_u8 ((m : Int) / 16)
      omega
    have gq1 : IntKind.u8.wrap (q + 1) = q1 := by
      have := IntKind.wrap_u8 (q + 1)
      omega
    have ge : (m : Int) % 16 = e := by omega
    have ge1 : IntKind.u8.wrap (e + 1) = e1 := by
      have := IntKind.wrap_u8 (e + 1)
      omega
    have k1 : (0 ≤ q) = True := eq_true (by omega)
    have k2 : (q ≤ q1) = True := eq_true (by omega)
    have k3 : (q1 ≤ 16) = True := eq_true (by omega)
    have k4 : (0 ≤ e) = True := eq_true (by omega)
    have k5 : (e ≤ e1) = True := eq_true (by omega)
    have k6 : (e1 ≤ 16) = True := eq_true (by omega)
    have u : 1 + ((⟨#[48, 49, 50, 51, 52, 53, 54, 55, 56, 57, 97, 98, 99, 100, 101, 102]⟩ : ByteArray).extract q.toNat q1.toNat).size ≤ 9223372036854775807 := by
      simp only [ByteArray.size_extract]
      have z1 : (⟨#[48, 49, 50, 51, 52, 53, 54, 55, 56, 57, 97, 98, 99, 100, 101, 102]⟩ : ByteArray).size = 16 := rfl
      have z2 : (⟨#[37]⟩ : ByteArray).size = 1 := rfl
      omega
    have ua := eq_true u
    have ub : decide (1 + ((⟨#[48, 49, 50, 51, 52, 53, 54, 55, 56, 57, 97, 98, 99, 100, 101, 102]⟩ : ByteArray).extract q.toNat q1.toNat).size ≤ 9223372036854775807) = true := decide_eq_true u
    have uc := eq_false (Nat.not_lt.2 u)
    have v : ((⟨#[37]⟩ : ByteArray) ++ (⟨#[48, 49, 50, 51, 52, 53, 54, 55, 56, 57, 97, 98, 99, 100, 101, 102]⟩ : ByteArray).extract q.toNat q1.toNat).size + ((⟨#[48, 49, 50, 51, 52, 53, 54, 55, 56, 57, 97, 98, 99, 100, 101, 102]⟩ : ByteArray).extract e.toNat e1.toNat).size ≤ 9223372036854775807 := by
      simp only [ByteArray.size_append, ByteArray.size_extract]
      have z1 : (⟨#[48, 49, 50, 51, 52, 53, 54, 55, 56, 57, 97, 98, 99, 100, 101, 102]⟩ : ByteArray).size = 16 := rfl
      have z2 : (⟨#[37]⟩ : ByteArray).size = 1 := rfl
      omega
    have va := eq_true v
    have vb : decide (((⟨#[37]⟩ : ByteArray) ++ (⟨#[48, 49, 50, 51, 52, 53, 54, 55, 56, 57, 97, 98, 99, 100, 101, 102]⟩ : ByteArray).extract q.toNat q1.toNat).size + ((⟨#[48, 49, 50, 51, 52, 53, 54, 55, 56, 57, 97, 98, 99, 100, 101, 102]⟩ : ByteArray).extract e.toNat e1.toNat).size ≤ 9223372036854775807) = true := decide_eq_true v
    have vc := eq_false (Nat.not_lt.2 v)
    have u9 : (9223372036854775807 < 1 + (q1.toNat - q.toNat)) = False := eq_false (by omega)
    have v9 : (9223372036854775807 < 1 + (q1.toNat - q.toNat) + (e1.toNat - e.toNat)) = False := eq_false (by omega)
    have c1 : decide ((32 : Int) < (m : Int)) = decide (32 < m) := by congr 1; rw [eq_iff_iff]; omega
    have c2 : decide ((m : Int) < 127) = decide (m < 127) := by congr 1; rw [eq_iff_iff]; omega
    have c3 : ((m : Int) == 37) = decide (m = 37) := by rw [Bool.eq_iff_iff]; simp; omega
    have c4 : ((m : Int) != 37) = !decide (m = 37) := by rw [Bool.eq_iff_iff]; simp; omega
    cases d1 : decide (32 < m)
    all_goals
      cases d2 : decide (m < 127)
      all_goals
        cases d3 : decide (m = 37)
        all_goals
          first
          | (exfalso; simp at d1 d2 d3; omega)
          | skip
    all_goals
      rw [d1] at c1
      rw [d2] at c2
      rw [d3] at c3 c4
      have c4' := c4
      simp only [Bool.not_true, Bool.not_false] at c4'
      clear c4 d1 d2 d3 hr h1 hq0 he0 hq1 he1 HS
      go_enter Tryd.func57, Tryd.ntmps57
      go_wp2
      repeat (go_quiet (fail); try go_wp2)
      go_ret
      exact ⟨by first | (rw [← HT.out]; rfl) | (rw [← HT.out]; simp), by first | exact Below.refl _ _ | exact pw_below_drewN (Below.refl _ _) _⟩

end Go.Proofs.YtloibeefopdhpaaDoor.G
