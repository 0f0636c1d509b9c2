/- The reference's word of a mask: the walk. -/
import Derived.Test.YtloibeefopdhpaaDoorCmdPlain
import Derived.Test.YtloibeefopdhpaaDoorBytes
import Derived.Test.YtloibeefopdhpaaDoorG0
import Derived.Deep.RegionLaw
import Derived.Outline
set_option linter.unusedVariables false
namespace Go.Proofs.YtloibeefopdhpaaDoor.G
open Go.RowKit Go.Proofs.YtloibeefopdhpaaDoorW.PrintWords Go.Proofs.YtloibeefopdhpaaDoorW.PrintLast Go.Proofs.YtloibeefopdhpaaDoorW.PrintMore Go.Proofs.YtloibeefopdhpaaDoor.Plain

def hexM : ByteArray := ⟨#[48, 49, 50, 51, 52, 53, 54, 55, 56, 57, 97, 98, 99, 100, 101, 102]⟩
def maskI (l : List Int) : List UInt8 := l.flatMap fun x => [hexd (x.toNat / 16), hexd (x.toNat % 16)]
theorem maskI_length : ∀ l : List Int, (maskI l).length = 2 * l.length
  | [] => rfl
  | x :: l => by
    have := maskI_length l
    simp only [maskI, List.flatMap_cons, List.length_append, List.length_cons, List.length_nil] at this ⊢
    omega
theorem maskI_take {l : List Int} {i : Nat} (h : i < l.length) : maskI (l.take (i + 1)) = maskI (l.take i) ++ [hexd (l[i].toNat / 16), hexd (l[i].toNat % 16)] := by
  rw [List.take_succ_eq_append_getElem h, maskI, List.flatMap_append]
  simp [maskI]
def rafterref40_Mask.f (l0 : List Int) : Option ByteArray := if (∀ x ∈ l0, 0 ≤ x ∧ x ≤ 255) ∧ l0.length ≤ 1000000000 then some (if l0 = [] then (⟨#[45]⟩ : ByteArray) else B (maskI l0)) else none
theorem two_hex (m : Nat) (hm : m < 256) : hexM.extract (m / 16) (m / 16 + 1) ++ hexM.extract (m % 16) (m % 16 + 1) = B [hexd (m / 16), hexd (m % 16)] := by
  have h0 : (List.range 256).map (fun n => hexM.extract (n / 16) (n / 16 + 1) ++ hexM.extract (n % 16) (n % 16 + 1)) = (List.range 256).map (fun n => B [hexd (n / 16), hexd (n % 16)]) := by kernel_rfl
  have := congrArg (fun l => l[m]?) h0
  simpa only [List.getElem?_map, List.getElem?_range hm, Option.map_some, Option.some.injEq] using this

set_option maxHeartbeats 1000000 in
set_option maxRecDepth 100000 in
theorem rafterref40_Mask.calls (A0 : Option Addr) (c0 : Nat) (l0 : List Int) (r : ByteArray) (w : World) (hr0 : Kd.C (Kd.int .u8) w A0 l0.length l0) (hc0 : l0.length ≤ c0) (h : rafterref40_Mask.f l0 = some r) :
    Calls Tryd.prog 43 #[.slice A0 l0.length c0] w fun e w' => e = .returned (.string r) ∧ Drawn0 w w' := by
  unfold rafterref40_Mask.f at h
  by_cases hc : (∀ x ∈ l0, 0 ≤ x ∧ x ≤ 255) ∧ l0.length ≤ 1000000000
  case neg => rw [if_neg hc] at h; cases h
  rw [if_pos hc] at h
  injection h with h
  subst h
  have HP := Aside0.mk hc
  have HR := Aside0.mk hr0
  clear hc hr0 hc0
  go_enter Tryd.func43, Tryd.ntmps43
  go_wp2
  repeat (go_quiet (fail); try go_wp2)
  go_loopg [4, 5] l0.length (fun gk v4 v5 w' => ∃ (i : Nat) (s : ByteArray), v4 = .string s ∧ v5 = .int .i64 i ∧ Aside0 (i + gk = l0.length) ∧ Aside0 (s = B (maskI (l0.take i))) ∧ Drawn0 w w')
  case atStart => exact ⟨0, _, rfl, rfl, ⟨by omega⟩, ⟨rfl⟩, by repeat (first | exact Drawn0.refl _ | apply Drawn0.step)⟩
  case round =>
    obtain ⟨i, s, rfl, rfl, HI, HS, ⟨⟨m1, rfl⟩⟩⟩ := hrel
    by_cases hi : i < l0.length
    · have hx := Kd.at_int HR.out (i : Int) (by omega) (by omega)
      have e1 : rd l0 (i : Int) = l0[i] := by simp [rd, hi]
      have HT := Aside0.mk (maskI_take hi)
      have hb := HP.out.1 l0[i] (List.getElem_mem hi)
      rw [e1] at hx
      generalize l0[i] = x at hx HT hb
      obtain ⟨m, rfl⟩ : ∃ m : Nat, x = (m : Int) := ⟨x.toNat, by omega⟩
      have hm : m < 256 := by omega
      rw [Int.toNat_natCast] at HT
      obtain ⟨ad, e0, hx0⟩ := hx
      cases e0
      rw [Int.toNat_natCast] at hx0
      have hss : s.size ≤ 2000000000 := by
        have := HP.out.2
        rw [HS.out, size_B, maskI_length, List.length_take]
        omega
      have HH := Aside0.mk (two_hex m hm)
      obtain ⟨q, hq0⟩ : ∃ q : Int, q = ((m / 16 : Nat) : Int) := ⟨_, rfl⟩
      obtain ⟨q1, hq1⟩ : ∃ q1 : Int, q1 = q + 1 := ⟨_, rfl⟩
      obtain ⟨e, he0⟩ : ∃ e : Int, e = ((m % 16 : Nat) : Int) := ⟨_, rfl⟩
      obtain ⟨e1', he1⟩ : ∃ e1 : Int, e1 = e + 1 := ⟨_, rfl⟩
      have HQ : Aside0 (hexM.extract q.toNat q1.toNat ++ hexM.extract e.toNat e1'.toNat = B [hexd (m / 16), hexd (m % 16)]) := ⟨by
        have := HH.out
        rw [show q.toNat = m / 16 by omega, show q1.toNat = m / 16 + 1 by omega, show e.toNat = m % 16 by omega, show e1'.toNat = m % 16 + 1 by omega]
        exact this⟩
      have gq : IntKind.u8.wrap ((m : Int) / 16) = q := by
        have := IntKind.wrap_u8 ((m : Int) / 16)
        omega
      have gq1 : IntKind.u8.wrap (q + 1) = q1 := by
        have := IntKind.wrap_u8 (q + 1)
        omega
      have ge : Int.tmod (m : Int) 16 = e := by rw [Int.tmod_eq_emod_of_nonneg (by omega)]; omega
      have ge1 : IntKind.u8.wrap (e + 1) = e1' := by
        have := IntKind.wrap_u8 (e + 1)
        omega
      have k1 : (0 ≤ q) = True := eq_true (by omega)
      have k2 : (q ≤ q1) = True := eq_true (by omega)
      have k3 : (q1 ≤ 16) = True := eq_true (by omega)
      have k4 : (0 ≤ e) = True := eq_true (by omega)
      have k5 : (e ≤ e1') = True := eq_true (by omega)
      have k6 : (e1' ≤ 16) = True := eq_true (by omega)
      have u9 : (9223372036854775807 < s.size + (q1.toNat - q.toNat)) = False := eq_false (by omega)
      have v9 : (9223372036854775807 < s.size + (q1.toNat - q.toNat) + (e1'.toNat - e.toNat)) = False := eq_false (by omega)
      have hi' : (i : Int) < (l0.length : Int) := by omega
      have p1 : (0 ≤ (i : Int)) = True := eq_true (by omega)
      have p2 : ((i : Int) < (l0.length : Int)) = True := eq_true (by omega)
      clear hq0 he0 hq1 he1 hb e1
      go_wp2
      repeat (go_quiet (fail); try go_wp2)
      go_roundg (gk - 1)
      case measure => have := HI.out; omega
      case rel => exact ⟨i + 1, _, rfl, by have := HP.out.2; rw [wrap64_in (by omega) (by omega)]; rfl, ⟨by have := HI.out; omega⟩, ⟨by rw [HT.out, ← B_append, ← HS.out, ← HQ.out, ← ByteArray.append_assoc]; rfl⟩, by repeat (first | exact Drawn0.refl _ | apply Drawn0.step)⟩
    · have hi' : ¬ (i : Int) < (l0.length : Int) := by omega
      have HF : Aside0 (s = B (maskI l0)) := ⟨by rw [HS.out, List.take_of_length_le (by omega)]⟩
      by_cases hn : l0 = []
      · subst hn
        obtain rfl : s = ⟨#[]⟩ := HF.out
        go_wp2
        go_ret
        exact ⟨rfl, by repeat (first | exact Drawn0.refl _ | apply Drawn0.step)⟩
      · have hsn : s.toList ≠ [] := by
          intro e
          have := congrArg List.length e
          rw [HF.out, toList_B, maskI_length] at this
          have := List.length_pos_iff.2 hn
          simp at *
          omega
        have c1 : (s.toList == []) = false := beq_eq_false_iff_ne.mpr hsn
        go_wp2
        go_ret
        exact ⟨by rw [← HF.out]; rfl, by repeat (first | exact Drawn0.refl _ | apply Drawn0.step)⟩

end Go.Proofs.YtloibeefopdhpaaDoor.G
