/- The reference's sign of a byte: the walk. -/
import Derived.Test.YtloibeefopdhpaaDoorRefMask
import Derived.Deep.RegionLaw
import Derived.Outline
set_option linter.unusedVariables false
namespace Go.Proofs.YtloibeefopdhpaaDoor.G
open Go.RowKit Go.Proofs.YtloibeefopdhpaaDoorW.PrintWords Go.Proofs.YtloibeefopdhpaaDoorW.PrintLast Go.Proofs.YtloibeefopdhpaaDoorW.PrintMore Go.Proofs.YtloibeefopdhpaaDoor.Plain

def hexB : ByteArray := ⟨#[48, 49, 50, 51, 52, 53, 54, 55, 56, 57, 97, 98, 99, 100, 101, 102]⟩
def rafterref35_Sign.f (a0 : Int) : Option ByteArray := if 0 ≤ a0 ∧ a0 ≤ 255 then some (B (signL (UInt8.ofNat a0.toNat))) else none
theorem sign_two (m : Nat) (hm : m < 256) (h : ¬ (32 < m ∧ m < 127 ∧ m ≠ 37)) : ((⟨#[37]⟩ : ByteArray) ++ hexB.extract (m / 16) (m / 16 + 1)) ++ hexB.extract (m % 16) (m % 16 + 1) = B (signL (UInt8.ofNat m)) := by
  have h0 : (List.range 256).map (fun n => if 32 < n ∧ n < 127 ∧ n ≠ 37 then B [] else ((⟨#[37]⟩ : ByteArray) ++ hexB.extract (n / 16) (n / 16 + 1)) ++ hexB.extract (n % 16) (n % 16 + 1)) = (List.range 256).map (fun n => if 32 < n ∧ n < 127 ∧ n ≠ 37 then B [] else B (signL (UInt8.ofNat n))) := by kernel_rfl
  have := congrArg (fun l => l[m]?) h0
  simp only [List.getElem?_map, List.getElem?_range hm, Option.map_some, Option.some.injEq] at this
  rwa [if_neg h, if_neg h] at this
theorem sign_one (m : Nat) (hm : m < 256) (h : 32 < m ∧ m < 127 ∧ m ≠ 37) : strOfNums [(m : Int)] = B (signL (UInt8.ofNat m)) := by
  have h1 : (UInt8.ofNat m).toNat = m := by simp; omega
  rw [strOfNums_B, signL, h1, if_pos h]
  simp

set_option maxHeartbeats 4000000 in
set_option maxRecDepth 100000 in
theorem rafterref35_Sign.calls (a0 : Int) (r : ByteArray) (w : World) (h : rafterref35_Sign.f a0 = some r) :
    Calls Tryd.prog 57 #[.int .u8 a0] w fun e w' => e = .returned (.string r) ∧ Below w.heap.size w w' := by
  unfold rafterref35_Sign.f at h
  by_cases hr : 0 ≤ a0 ∧ a0 ≤ 255
  case neg => rw [if_neg hr] at h; cases h
  rw [if_pos hr] at h
  injection h with h
  subst h
  obtain ⟨m, rfl⟩ : ∃ m : Nat, a0 = (m : Int) := ⟨a0.toNat, by omega⟩
  have hm : m < 256 := by omega
  rw [Int.toNat_natCast]
  by_cases h1 : 32 < m ∧ m < 127 ∧ m ≠ 37
  · have HS := Aside0.mk (sign_one m hm h1)
    have c1 : decide ((32 : Int) < (m : Int)) = true := decide_eq_true (by omega)
    have c2 : decide ((m : Int) < 127) = true := decide_eq_true (by omega)
    have c3 : ((m : Int) == 37) = false := by simp; omega
    have c4 : ((m : Int) != 37) = true := by simp; omega
    clear hr h1
    have hcv : (convert 69 9 (.slice (some ⟨w.heap.size, 0, none⟩) 1 1)).run Tryd.prog (w.alloc (.cells #[.int .u8 (m : Int)] 5)) = .ok (.string (strOfNums [(m : Int)])) (w.alloc (.cells #[.int .u8 (m : Int)] 5)) :=
      own_string Tryd.underlying69 Tryd.underlying5 Tryd.underlying9 (own_lit w w.heap.size 5 .u8 [(m : Int)] (Nat.le_refl _) (by simp))
    go_enter Tryd.func57, Tryd.ntmps57
    go_wp2
    go_ret
    exact ⟨by rw [← HS.out]; rfl, (Below.refl _ w).alloc (Nat.le_refl _) _⟩
  · have HS := Aside0.mk (sign_two m hm h1)
    obtain ⟨q, hq0⟩ : ∃ q : Int, q = ((m / 16 : Nat) : Int) := ⟨_, rfl⟩
    obtain ⟨q1, hq1⟩ : ∃ q1 : Int, q1 = q + 1 := ⟨_, rfl⟩
    obtain ⟨e, he0⟩ : ∃ e : Int, e = ((m % 16 : Nat) : Int) := ⟨_, rfl⟩
    obtain ⟨e1, he1⟩ : ∃ e1 : Int, e1 = e + 1 := ⟨_, rfl⟩
    have HT : Aside0 (((⟨#[37]⟩ : ByteArray) ++ (⟨#[48, 49, 50, 51, 52, 53, 54, 55, 56, 57, 97, 98, 99, 100, 101, 102]⟩ : ByteArray).extract q.toNat q1.toNat) ++ (⟨#[48, 49, 50, 51, 52, 53, 54, 55, 56, 57, 97, 98, 99, 100, 101, 102]⟩ : ByteArray).extract e.toNat e1.toNat = B (signL (UInt8.ofNat m))) := ⟨by
      have := HS.out
      rw [show q.toNat = m / 16 by omega, show q1.toNat = m / 16 + 1 by omega, show e.toNat = m % 16 by omega, show e1.toNat = m % 16 + 1 by omega]
      exact this⟩
    have gq : IntKind.u8.wrap ((m : Int) / 16) = q := by
      have := IntKind.wrap_u8 ((m : Int) / 16)
      omega
    have gq1 : IntKind.u8.wrap (q + 1) = q1 := by
      have := IntKind.wrap_u8 (q + 1)
      omega
    have ge : (m : Int) % 16 = e := by omega
    have ge1 : IntKind.u8.wrap (e + 1) = e1 := by
      have := IntKind.wrap_u8 (e + 1)
      omega
    have k1 : (0 ≤ q) = True := eq_true (by omega)
    have k2 : (q ≤ q1) = True := eq_true (by omega)
    have k3 : (q1 ≤ 16) = True := eq_true (by omega)
    have k4 : (0 ≤ e) = True := eq_true (by omega)
    have k5 : (e ≤ e1) = True := eq_true (by omega)
    have k6 : (e1 ≤ 16) = True := eq_true (by omega)
    have u : 1 + ((⟨#[48, 49, 50, 51, 52, 53, 54, 55, 56, 57, 97, 98, 99, 100, 101, 102]⟩ : ByteArray).extract q.toNat q1.toNat).size ≤ 9223372036854775807 := by
      simp only [ByteArray.size_extract]
      have z1 : (⟨#[48, 49, 50, 51, 52, 53, 54, 55, 56, 57, 97, 98, 99, 100, 101, 102]⟩ : ByteArray).size = 16 := rfl
      have z2 : (⟨#[37]⟩ : ByteArray).size = 1 := rfl
      omega
    have ua := eq_true u
    have ub : decide (1 + ((⟨#[48, 49, 50, 51, 52, 53, 54, 55, 56, 57, 97, 98, 99, 100, 101, 102]⟩ : ByteArray).extract q.toNat q1.toNat).size ≤ 9223372036854775807) = true := decide_eq_true u
    have uc := eq_false (Nat.not_lt.2 u)
    have v : ((⟨#[37]⟩ : ByteArray) ++ (⟨#[48, 49, 50, 51, 52, 53, 54, 55, 56, 57, 97, 98, 99, 100, 101, 102]⟩ : ByteArray).extract q.toNat q1.toNat).size + ((⟨#[48, 49, 50, 51, 52, 53, 54, 55, 56, 57, 97, 98, 99, 100, 101, 102]⟩ : ByteArray).extract e.toNat e1.toNat).size ≤ 9223372036854775807 := by
      simp only [ByteArray.size_append, ByteArray.size_extract]
      have z1 : (⟨#[48, 49, 50, 51, 52, 53, 54, 55, 56, 57, 97, 98, 99, 100, 101, 102]⟩ : ByteArray).size = 16 := rfl
      have z2 : (⟨#[37]⟩ : ByteArray).size = 1 := rfl
      omega
    have va := eq_true v
    have vb : decide (((⟨#[37]⟩ : ByteArray) ++ (⟨#[48, 49, 50, 51, 52, 53, 54, 55, 56, 57, 97, 98, 99, 100, 101, 102]⟩ : ByteArray).extract q.toNat q1.toNat).size + ((⟨#[48, 49, 50, 51, 52, 53, 54, 55, 56, 57, 97, 98, 99, 100, 101, 102]⟩ : ByteArray).extract e.toNat e1.toNat).size ≤ 9223372036854775807) = true := decide_eq_true v
    have vc := eq_false (Nat.not_lt.2 v)
    have u9 : (9223372036854775807 < 1 + (q1.toNat - q.toNat)) = False := eq_false (by omega)
    have v9 : (9223372036854775807 < 1 + (q1.toNat - q.toNat) + (e1.toNat - e.toNat)) = False := eq_false (by omega)
    have c1 : decide ((32 : Int) < (m : Int)) = decide (32 < m) := by congr 1; rw [eq_iff_iff]; omega
    have c2 : decide ((m : Int) < 127) = decide (m < 127) := by congr 1; rw [eq_iff_iff]; omega
    have c3 : ((m : Int) == 37) = decide (m = 37) := by rw [Bool.eq_iff_iff]; simp; omega
    have c4 : ((m : Int) != 37) = !decide (m = 37) := by rw [Bool.eq_iff_iff]; simp; omega
    cases d1 : decide (32 < m)
    all_goals
      cases d2 : decide (m < 127)
      all_goals
        cases d3 : decide (m = 37)
        all_goals
          first
          | (exfalso; simp at d1 d2 d3; omega)
          | skip
    all_goals
      rw [d1] at c1
      rw [d2] at c2
      rw [d3] at c3 c4
      have c4' := c4
      simp only [Bool.not_true, Bool.not_false] at c4'
      clear c4 d1 d2 d3 hr h1 hq0 he0 hq1 he1 HS
      go_enter Tryd.func57, Tryd.ntmps57
      go_wp2
      repeat (go_quiet (fail); try go_wp2)
      go_ret
      exact ⟨by first | (rw [← HT.out]; rfl) | (rw [← HT.out]; simp), by first | exact Below.refl _ _ | exact pw_below_drewN (Below.refl _ _) _⟩

end Go.Proofs.YtloibeefopdhpaaDoor.G
