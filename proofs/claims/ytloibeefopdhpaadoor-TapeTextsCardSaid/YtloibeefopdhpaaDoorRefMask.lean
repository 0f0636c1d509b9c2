-- Words of the kit's print (as it laid them for this seat); what this claim does not use is left out.
import Derived.Lib.Bytealg
import Derived.WalkKit
import Derived.Test.YtloibeefopdhpaaDoorIndexByte
import Derived.Deep.RegionLaw
import Derived.Outline
set_option linter.unusedVariables false
namespace Go.Proofs.YtloibeefopdhpaaDoor.Plain
open Go.RowKit
def hexL : List UInt8 := [48, 49, 50, 51, 52, 53, 54, 55, 56, 57, 97, 98, 99, 100, 101, 102]
def hexd (n : Nat) : UInt8 := hexL.getD n 0
def digN (c : UInt8) : Nat := (Lib.indexByte hexL c).toNat
theorem digN_hexd : ∀ n, n < 16 → digN (hexd n) = n := by
  intro n h
  have : ∀ m : Fin 16, digN (hexd m.1) = m.1 := by decide
  exact this ⟨n, h⟩
theorem indexByte_lt (c : UInt8) : ∀ l : List UInt8, Lib.indexByte l c < (l.length : Int)
  | [] => by rw [Lib.indexByte]; decide
  | b :: l => by
    have := indexByte_lt c l
    rw [Lib.indexByte, List.length_cons]
    split
    · omega
    · split <;> omega
theorem digN_lt (c : UInt8) : digN c < 16 := by
  unfold digN
  have := indexByte_lt c hexL
  have h : hexL.length = 16 := rfl
  omega
def signL (c : UInt8) : List UInt8 := if 32 < c.toNat ∧ c.toNat < 127 ∧ c.toNat ≠ 37 then [c] else [37, hexd (c.toNat / 16), hexd (c.toNat % 16)]
def bareB (c : UInt8) : Bool := decide (97 ≤ c.toNat ∧ c.toNat ≤ 122 ∨ 48 ≤ c.toNat ∧ c.toNat ≤ 57 ∨ c.toNat = 46 ∨ c.toNat = 95 ∨ c.toNat = 45 ∨ c.toNat = 47)
def bareL (s : List UInt8) : Bool := decide (s ≠ []) && s.all bareB
def wordL (s : List UInt8) : List UInt8 := if bareL s = true then s else 61 :: s.flatMap signL
def decL : List UInt8 → List UInt8
  | [] => []
  | [c] => [c]
  | [c, d] => [c, d]
  | c :: a :: b :: r => if c = 37 then UInt8.ofNat (16 * digN a + digN b) :: decL r else c :: decL (a :: b :: r)
def readL : List UInt8 → List UInt8
  | [] => []
  | c :: t => if c = 61 then decL t else c :: t
theorem decL_other {c : UInt8} (h : c ≠ 37) : ∀ r, decL (c :: r) = c :: decL r
  | [] => rfl
  | [d] => rfl
  | d :: e :: r => by rw [decL, if_neg h]
theorem decL_sign (c : UInt8) (r : List UInt8) : decL (signL c ++ r) = c :: decL r := by
  unfold signL
  by_cases h : 32 < c.toNat ∧ c.toNat < 127 ∧ c.toNat ≠ 37
  · rw [if_pos h]
    exact decL_other (fun e => h.2.2 (by rw [e]; rfl)) r
  · rw [if_neg h, List.cons_append, List.cons_append, List.cons_append, List.nil_append, decL, if_pos rfl]
    have hc : c.toNat < 256 := c.toNat_lt
    rw [digN_hexd _ (by omega), digN_hexd _ (by omega), show 16 * (c.toNat / 16) + c.toNat % 16 = c.toNat by omega]
    simp
theorem decL_flat : ∀ s : List UInt8, decL (s.flatMap signL) = s
  | [] => rfl
  | c :: s => by rw [List.flatMap_cons, decL_sign, decL_flat s]
theorem bareB_ne61 {c : UInt8} (h : bareB c = true) : c ≠ 61 := by
  intro e
  subst e
  revert h
  decide
theorem read_word (s : List UInt8) : readL (wordL s) = s := by
  unfold wordL
  by_cases h : bareL s = true
  · rw [if_pos h]
    cases s with
    | nil => rfl
    | cons c t =>
      unfold bareL at h
      rw [List.all_cons] at h
      simp only [Bool.and_eq_true] at h
      rw [readL, if_neg (bareB_ne61 h.2.1)]
  · rw [if_neg h, readL, if_pos rfl, decL_flat]
theorem hexd_ne (n : Nat) (h : n < 16) : hexd n ≠ 32 := by
  have : ∀ m : Fin 16, hexd m.1 ≠ 32 := by decide
  exact this ⟨n, h⟩
theorem sign_free (c : UInt8) : (32 : UInt8) ∉ signL c := by
  unfold signL
  by_cases h : 32 < c.toNat ∧ c.toNat < 127 ∧ c.toNat ≠ 37
  · rw [if_pos h]
    intro e
    simp at e
    rw [← e] at h
    exact absurd h.1 (by decide)
  · rw [if_neg h]
    have hc : c.toNat < 256 := c.toNat_lt
    intro e
    simp only [List.mem_cons, List.mem_nil_iff, or_false] at e
    rcases e with e | e | e
    · revert e; decide
    · exact hexd_ne _ (by omega) e.symm
    · exact hexd_ne _ (by omega) e.symm
theorem word_free (s : List UInt8) : (32 : UInt8) ∉ wordL s := by
  unfold wordL
  by_cases h : bareL s = true
  · rw [if_pos h]
    intro e
    unfold bareL at h
    simp only [Bool.and_eq_true, List.all_eq_true] at h
    exact absurd (h.2 32 e) (by decide)
  · rw [if_neg h]
    intro e
    rcases List.mem_cons.1 e with e | e
    · revert e; decide
    · obtain ⟨c, _, hc⟩ := List.mem_flatMap.1 e
      exact sign_free c hc
theorem sign_length (c : UInt8) : (signL c).length ≤ 3 := by
  unfold signL
  split <;> simp
theorem flat_length : ∀ s : List UInt8, (s.flatMap signL).length ≤ 3 * s.length
  | [] => by simp
  | c :: s => by
    have h1 := flat_length s
    have h2 := sign_length c
    rw [List.flatMap_cons, List.length_append, List.length_cons]
    omega
theorem word_length (s : List UInt8) : (wordL s).length ≤ 3 * s.length + 1 := by
  unfold wordL
  split
  · omega
  · have := flat_length s
    rw [List.length_cons]
    omega
theorem dec_length : ∀ (n : Nat) (l : List UInt8), l.length ≤ n → (decL l).length ≤ l.length
  | _, [], _ => by simp [decL]
  | _, [c], _ => by simp [decL]
  | _, [c, d], _ => by simp [decL]
  | 0, c :: a :: b :: r, h => by simp at h
  | n + 1, c :: a :: b :: r, h => by
    rw [decL]
    split
    · have := dec_length n r (by simp at h; omega)
      simp
      omega
    · have := dec_length n (a :: b :: r) (by simp at h ⊢; omega)
      simp at this ⊢
      omega
theorem read_length (w : List UInt8) : (readL w).length ≤ w.length := by
  cases w with
  | nil => simp [readL]
  | cons c t =>
    rw [readL]
    split
    · have := dec_length _ t (Nat.le_refl _)
      rw [List.length_cons]
      omega
    · exact Nat.le_refl _
end Go.Proofs.YtloibeefopdhpaaDoor.Plain
set_option linter.unusedVariables false
namespace Go.Proofs.YtloibeefopdhpaaDoor.G
open Go.RowKit Go.Proofs.YtloibeefopdhpaaDoorW.PrintWords Go.Proofs.YtloibeefopdhpaaDoorW.PrintLast Go.Proofs.YtloibeefopdhpaaDoorW.PrintMore Go.Proofs.YtloibeefopdhpaaDoor.Plain
def hexM : ByteArray := ⟨#[48, 49, 50, 51, 52, 53, 54, 55, 56, 57, 97, 98, 99, 100, 101, 102]⟩
def maskI (l : List Int) : List UInt8 := l.flatMap fun x => [hexd (x.toNat / 16), hexd (x.toNat % 16)]
theorem maskI_length : ∀ l : List Int, (maskI l).length = 2 * l.length
  | [] => rfl
  | x :: l => by
    have := maskI_length l
    simp only [maskI, List.flatMap_cons, List.length_append, List.length_cons, List.length_nil] at this ⊢
    omega
theorem maskI_take {l : List Int} {i : Nat} (h : i < l.length) : maskI (l.take (i + 1)) = maskI (l.take i) ++ [hexd (l[i].toNat / 16), hexd (l[i].toNat % 16)] := by
  rw [List.take_succ_eq_append_getElem h, maskI, List.flatMap_append]
  simp [maskI]
def rafterref40_Mask.f (l0 : List Int) : Option ByteArray := if (∀ x ∈ l0, 0 ≤ x ∧ x ≤ 255) ∧ l0.length ≤ 1000000000 then some (if l0 = [] then (⟨#[45]⟩ : ByteArray) else B (maskI l0)) else none
theorem two_hex (m : Nat) (hm : m < 256) : hexM.extract (m / 16) (m / 16 + 1) ++ hexM.extract (m % 16) (m % 16 + 1) = B [hexd (m / 16), hexd (m % 16)] := by
  have h0 : (List.range 256).map (fun n => hexM.extract (n / 16) (n / 16 + 1) ++ hexM.extract (n % 16) (n % 16 + 1)) = (List.range 256).map (fun n => B [hexd (n / 16), hexd (n % 16)]) := by kernel_rfl
  have := congrArg (fun l => l[m]?) h0
  simpa only [List.getElem?_map, List.getElem?_range hm, Option.map_some, Option.some.injEq] using this
set_option maxHeartbeats 1000000 in
set_option maxRecDepth 100000 in
theorem rafterref40_Mask.calls (A0 : Option Addr) (c0 : Nat) (l0 : List Int) (r : ByteArray) (w : World) (hr0 : Kd.C (Kd.int .u8) w A0 l0.length l0) (hc0 : l0.length ≤ c0) (h : rafterref40_Mask.f l0 = some r) :
    Calls Tryd.prog 43 #[.slice A0 l0.length c0] w fun e w' => e = .returned (.string r) ∧ Drawn0 w w' := by
  unfold rafterref40_Mask.f at h
  by_cases hc : (∀ x ∈ l0, 0 ≤ x ∧ x ≤ 255) ∧ l0.length ≤ 1000000000
  case neg => rw [if_neg hc] at h; cases h
  rw [if_pos hc] at h
  injection h with h
  subst h
  have HP := Aside0.mk hc
  have HR := Aside0.mk hr0
  clear hc hr0 hc0
  go_enter Tryd.func43, Tryd.ntmps43
  go_wp2
  repeat (go_quiet (fail); try go_wp2)
  go_loopg [4, 5] l0.length (fun gk v4 v5 w' => ∃ (i : Nat) (s : ByteArray), v4 = .string s ∧ v5 = .int .i64 i ∧ Aside0 (i + gk = l0.length) ∧ Aside0 (s = B (maskI (l0.take i))) ∧ Drawn0 w w')
  case atStart => exact ⟨0, _, rfl, rfl, ⟨by omega⟩, ⟨rfl⟩, by repeat (first | exact Drawn0.refl _ | apply Drawn0.step)⟩
  case round =>
    obtain ⟨i, s, rfl, rfl, HI, HS, ⟨⟨m1, rfl⟩⟩⟩ := hrel
    by_cases hi : i < l0.length
    · have hx := Kd.at_int HR.out (i : Int) (by omega) (by omega)
      have e1 : rd l0 (i : Int) = l0[i] := by simp [rd, hi]
      have HT := Aside0.mk (maskI_take hi)
      have hb := HP.out.1 l0[i] (List.getElem_mem hi)
      rw [e1] at hx
      generalize l0[i] = x at hx HT hb
      obtain ⟨m, rfl⟩ : ∃ m : Nat, x = (m : Int) := ⟨x.toNat, by omega⟩
      have hm : m < 256 := by omega
      rw [Int.toNat_natCast] at HT
      obtain ⟨ad, e0, hx0⟩ := hx
      cases e0
      rw [Int.toNat_natCast] at hx0
      have hss : s.size ≤ 2000000000 := by
        have := HP.out.2
        rw [HS.out, size_B, maskI_length, List.length_take]
        omega
      have HH := Aside0.mk (two_hex m hm)
      obtain ⟨q, hq0⟩ : ∃ q : Int, q = ((m / 16 : Nat) : Int) := ⟨_, rfl⟩
      obtain ⟨q1, hq1⟩ : ∃ q1 : Int, q1 = q + 1 := ⟨_, rfl⟩
      obtain ⟨e, he0⟩ : ∃ e : Int, e = ((m % 16 : Nat) : Int) := ⟨_, rfl⟩
      obtain ⟨e1', he1⟩ : ∃ e1 : Int, e1 = e + 1 := ⟨_, rfl⟩
      have HQ : Aside0 (hexM.extract q.toNat q1.toNat ++ hexM.extract e.toNat e1'.toNat = B [hexd (m / 16), hexd (m % 16)]) := ⟨by
        have := HH.out
        rw [show q.toNat = m / 16 by omega, show q1.toNat = m / 16 + 1 by omega, show e.toNat = m % 16 by omega, show e1'.toNat = m % 16 + 1 by omega]
        exact this⟩
      have gq : IntKind.u8.wrap ((m : Int) / 16) = q := by
        have := IntKind.wrap_u8 ((m : Int) / 16)
        omega
      have gq1 : IntKind.u8.wrap (q + 1) = q1 := by
        have := IntKind.wrap_u8 (q + 1)
        omega
      have ge : Int.tmod (m : Int) 16 = e := by rw [Int.tmod_eq_emod_of_nonneg (by omega)]; omega
      have ge1 : IntKind.u8.wrap (e + 1) = e1' := by
        have := IntKind.wrap_u8 (e + 1)
        omega
      have k1 : (0 ≤ q) = True := eq_true (by omega)
      have k2 : (q ≤ q1) = True := eq_true (by omega)
      have k3 : (q1 ≤ 16) = True := eq_true (by omega)
      have k4 : (0 ≤ e) = True := eq_true (by omega)
      have k5 : (e ≤ e1') = True := eq_true (by omega)
      have k6 : (e1' ≤ 16) = True := eq_true (by omega)
      have u9 : (9223372036854775807 < s.size + (q1.toNat - q.toNat)) = False := eq_false (by omega)
      have v9 : (9223372036854775807 < s.size + (q1.toNat - q.toNat) + (e1'.toNat - e.toNat)) = False := eq_false (by omega)
      have hi' : (i : Int) < (l0.length : Int) := by omega
      have p1 : (0 ≤ (i : Int)) = True := eq_true (by omega)
      have p2 : ((i : Int) < (l0.length : Int)) = True := eq_true (by omega)
      clear hq0 he0 hq1 he1 hb e1
      go_wp2
      repeat (go_quiet (fail); try go_wp2)
      go_roundg (gk - 1)
      case measure => have := HI.out; omega
      case rel => exact ⟨i + 1, _, rfl, by have := HP.out.2; rw [wrap64_in (by omega) (by omega)]; rfl, ⟨by have := HI.out; omega⟩, ⟨by rw [HT.out, ← B_append, ← HS.out, ← HQ.out, ← ByteArray.append_assoc]; rfl⟩, by repeat (first | exact Drawn0.refl _ | apply Drawn0.step)⟩
    · have hi' : ¬ (i : Int) < (l0.length : Int) := by omega
      have HF : Aside0 (s = B (maskI l0)) := ⟨by rw [HS.out, List.take_of_length_le (by omega)]⟩
      by_cases hn : l0 = []
      · subst hn
        obtain rfl : s = ⟨#[]⟩ := HF.out
        go_wp2
        go_ret
        exact ⟨rfl, by repeat (first | exact Drawn0.refl _ | apply Drawn0.step)⟩
      · have hsn : s.toList ≠ [] := by
          intro e
          have := congrArg List.length e
          rw [HF.out, toList_B, maskI_length] at this
          have := List.length_pos_iff.2 hn
          simp at *
          omega
        have c1 : (s.toList == []) = false := beq_eq_false_iff_ne.mpr hsn
        go_wp2
        go_ret
        exact ⟨by rw [← HF.out]; rfl, by repeat (first | exact Drawn0.refl _ | apply Drawn0.step)⟩
end Go.Proofs.YtloibeefopdhpaaDoor.G
