-- Words of the kit's print (as it laid them for this seat); what this claim does not use is left out.
import Derived.Test.YtloibeefopdhpaaDoorRefMask
import Derived.Deep.RegionLaw
import Derived.Outline
import Derived.Test.YtloibeefopdhpaaDoorCmdSameW
set_option linter.unusedVariables false
namespace Go.Proofs.YtloibeefopdhpaaDoor.G
open Go.RowKit Go.Proofs.YtloibeefopdhpaaDoorW.PrintWords Go.Proofs.YtloibeefopdhpaaDoorW.PrintLast Go.Proofs.YtloibeefopdhpaaDoorW.PrintMore Go.Proofs.YtloibeefopdhpaaDoor.Plain

def hexB : ByteArray := ⟨#[48, 49, 50, 51, 52, 53, 54, 55, 56, 57, 97, 98, 99, 100, 101, 102]⟩
def rafterref35_Sign.f (a0 : Int) : Option ByteArray := if 0 ≤ a0 ∧ a0 ≤ 255 then some (B (signL (UInt8.ofNat a0.toNat))) else none
theorem sign_two (m : Nat) (hm : m < 256) (h : ¬ (32 < m ∧ m < 127 ∧ m ≠ 37)) : ((⟨#[37]⟩ : ByteArray) ++ hexB.extract (m / 16) (m / 16 + 1)) ++ hexB.extract (m % 16) (m % 16 + 1) = B (signL (UInt8.ofNat m)) := by
  have h0 : (List.range 256).map (fun n => if 32 < n ∧ n < 127 ∧ n ≠ 37 then B [] else ((⟨#[37]⟩ : ByteArray) ++ hexB.extract (n / 16) (n / 16 + 1)) ++ hexB.extract (n % 16) (n % 16 + 1)) = (List.range 256).map (fun n => if 32 < n ∧ n < 127 ∧ n ≠ 37 then B [] else B (signL (UInt8.ofNat n))) := by kernel_rfl
  have := congrArg (fun l => l[m]?) h0
  simp only [List.getElem?_map, List.getElem?_range hm, Option.map_some, Option.some.injEq] at this
  rwa [if_neg h, if_neg h] at this
theorem sign_one (m : Nat) (hm : m < 256) (h : 32 < m ∧ m < 127 ∧ m ≠ 37) : strOfNums [(m : Int)] = B (signL (UInt8.ofNat m)) := by
  have h1 : (UInt8.ofNat m).toNat = m := by simp; omega
  rw [strOfNums_B, signL, h1, if_pos h]
  simp

set_option maxHeartbeats 4000000 in
set_option maxRecDepth 100000 in
theorem rafterref35_Sign.calls (a0 : Int) (r : ByteArray) (w : World) (h : rafterref35_Sign.f a0 = some r) :
    Calls Tryd.prog 57 #[.int .u8 a0] w fun e w' => e = .returned (.string r) ∧ Below w.heap.size w w' := by
  unfold rafterref35_Sign.f at h
  by_cases hr : 0 ≤ a0 ∧ a0 ≤ 255
  case neg => rw [if_neg hr] at h; cases h
  rw [if_pos hr] at h
  injection h with h
  subst h
  obtain ⟨m, rfl⟩ : ∃ m : Nat, a0 = (m : Int) := ⟨a0.toNat, by omega⟩
  have hm : m < 256 := by omega
  rw [Int.toNat_natCast]
  by_cases h1 : 32 < m ∧ m < 127 ∧ m ≠ 37
  · have HS := Aside0.mk (sign_one m hm h1)
    have c1 : decide ((32 : Int) < (m : Int)) = true := decide_eq_true (by omega)
    have c2 : decide ((m : Int) < 127) = true := decide_eq_true (by omega)
    have c3 : ((m : Int) == 37) = false := by simp; omega
    have c4 : ((m : Int) != 37) = true := by simp; omega
    clear hr h1
    have hcv : (convert 69 9 (.slice (some ⟨w.heap.size, 0, none⟩) 1 1)).run Tryd.prog (w.alloc (.cells #[.int .u8 (m : Int)] 5)) = .ok (.string (strOfNums [(m : Int)])) (w.alloc (.cells #[.int .u8 (m : Int)] 5)) :=
      own_string Tryd.underlying69 Tryd.underlying5 Tryd.underlying9 (own_lit w w.heap.size 5 .u8 [(m : Int)] (Nat.le_refl _) (by simp))
    go_enter Tryd.func57, Tryd.ntmps57
    go_wp2
    go_ret
    exact ⟨by rw [← HS.out]; rfl, (Below.refl _ w).alloc (Nat.le_refl _) _⟩
  · have HS := Aside0.mk (sign_two m hm h1)
    obtain ⟨q, hq0⟩ : ∃ q : Int, q = ((m / 16 : Nat) : Int) := ⟨_, rfl⟩
    obtain ⟨q1, hq1⟩ : ∃ q1 : Int, q1 = q + 1 := ⟨_, rfl⟩
    obtain ⟨e, he0⟩ : ∃ e : Int, e = ((m % 16 : Nat) : Int) := ⟨_, rfl⟩
    obtain ⟨e1, he1⟩ : ∃ e1 : Int, e1 = e + 1 := ⟨_, rfl⟩
    have HT : Aside0 (((⟨#[37]⟩ : ByteArray) ++ (⟨#[48, 49, 50, 51, 52, 53, 54, 55, 56, 57, 97, 98, 99, 100, 101, 102]⟩ : ByteArray).extract q.toNat q1.toNat) ++ (⟨#[48, 49, 50, 51, 52, 53, 54, 55, 56, 57, 97, 98, 99, 100, 101, 102]⟩ : ByteArray).extract e.toNat e1.toNat = B (signL (UInt8.ofNat m))) := ⟨by
      have := HS.out
      rw [show q.toNat = m / 16 by omega, show q1.toNat = m / 16 + 1 by omega, show e.toNat = m % 16 by omega, show e1.toNat = m % 16 + 1 by omega]
      exact this⟩
    have gq : IntKind.u8.wrap ((m : Int) / 16) = q := by
      have := IntKind.wrap_u8 ((m : Int) / 16)
      omega
    have gq1 : IntKind.u8.wrap (q + 1) = q1 := by
      have := IntKind.wrap_u8 (q + 1)
      omega
    have ge : (m : Int) % 16 = e := by omega
    have ge1 : IntKind.u8.wrap (e + 1) = e1 := by
      have := IntKind.wrap_u8 (e + 1)
      omega
    have k1 : (0 ≤ q) = True := eq_true (by omega)
    have k2 : (q ≤ q1) = True := eq_true (by omega)
    have k3 : (q1 ≤ 16) = True := eq_true (by omega)
    have k4 : (0 ≤ e) = True := eq_true (by omega)
    have k5 : (e ≤ e1) = True := eq_true (by omega)
    have k6 : (e1 ≤ 16) = True := eq_true (by omega)
    have u : 1 + ((⟨#[48, 49, 50, 51, 52, 53, 54, 55, 56, 57, 97, 98, 99, 100, 101, 102]⟩ : ByteArray).extract q.toNat q1.toNat).size ≤ 9223372036854775807 := by
      simp only [ByteArray.size_extract]
      have z1 : (⟨#[48, 49, 50, 51, 52, 53, 54, 55, 56, 57, 97, 98, 99, 100, 101, 102]⟩ : ByteArray).size = 16 := rfl
      have z2 : (⟨#[37]⟩ : ByteArray).size = 1 := rfl
      omega
    have ua := eq_true u
    have ub : decide (1 + ((⟨#[48, 49, 50, 51, 52, 53, 54, 55, 56, 57, 97, 98, 99, 100, 101, 102]⟩ : ByteArray).extract q.toNat q1.toNat).size ≤ 9223372036854775807) = true := decide_eq_true u
    have uc := eq_false (Nat.not_lt.2 u)
    have v : ((⟨#[37]⟩ : ByteArray) ++ (⟨#[48, 49, 50, 51, 52, 53, 54, 55, 56, 57, 97, 98, 99, 100, 101, 102]⟩ : ByteArray).extract q.toNat q1.toNat).size + ((⟨#[48, 49, 50, 51, 52, 53, 54, 55, 56, 57, 97, 98, 99, 100, 101, 102]⟩ : ByteArray).extract e.toNat e1.toNat).size ≤ 9223372036854775807 := by
      simp only [ByteArray.size_append, ByteArray.size_extract]
      have z1 : (⟨#[48, 49, 50, 51, 52, 53, 54, 55, 56, 57, 97, 98, 99, 100, 101, 102]⟩ : ByteArray).size = 16 := rfl
      have z2 : (⟨#[37]⟩ : ByteArray).size = 1 := rfl
      omega
    have va := eq_true v
    have vb : decide (((⟨#[37]⟩ : ByteArray) ++ (⟨#[48, 49, 50, 51, 52, 53, 54, 55, 56, 57, 97, 98, 99, 100, 101, 102]⟩ : ByteArray).extract q.toNat q1.toNat).size + ((⟨#[48, 49, 50, 51, 52, 53, 54, 55, 56, 57, 97, 98, 99, 100, 101, 102]⟩ : ByteArray).extract e.toNat e1.toNat).size ≤ 9223372036854775807) = true := decide_eq_true v
    have vc := eq_false (Nat.not_lt.2 v)
    have u9 : (9223372036854775807 < 1 + (q1.toNat - q.toNat)) = False := eq_false (by omega)
    have v9 : (9223372036854775807 < 1 + (q1.toNat - q.toNat) + (e1.toNat - e.toNat)) = False := eq_false (by omega)
    have c1 : decide ((32 : Int) < (m : Int)) = decide (32 < m) := by congr 1; rw [eq_iff_iff]; omega
    have c2 : decide ((m : Int) < 127) = decide (m < 127) := by congr 1; rw [eq_iff_iff]; omega
    have c3 : ((m : Int) == 37) = decide (m = 37) := by rw [Bool.eq_iff_iff]; simp; omega
    have c4 : ((m : Int) != 37) = !decide (m = 37) := by rw [Bool.eq_iff_iff]; simp; omega
    cases d1 : decide (32 < m)
    all_goals
      cases d2 : decide (m < 127)
      all_goals
        cases d3 : decide (m = 37)
        all_goals
          first
          | (exfalso; simp at d1 d2 d3; omega)
          | skip
    all_goals
      rw [d1] at c1
      rw [d2] at c2
      rw [d3] at c3 c4
      have c4' := c4
      simp only [Bool.not_true, Bool.not_false] at c4'
      clear c4 d1 d2 d3 hr h1 hq0 he0 hq1 he1 HS
      go_enter Tryd.func57, Tryd.ntmps57
      go_wp2
      repeat (go_quiet (fail); try go_wp2)
      go_ret
      exact ⟨by first | (rw [← HT.out]; rfl) | (rw [← HT.out]; simp), by first | exact Below.refl _ _ | exact pw_below_drewN (Below.refl _ _) _⟩

end Go.Proofs.YtloibeefopdhpaaDoor.G
set_option linter.unusedVariables false
namespace Go.Proofs.YtloibeefopdhpaaDoor.G
open Go.RowKit Go.Proofs.YtloibeefopdhpaaDoorW.PrintWords Go.Proofs.YtloibeefopdhpaaDoorW.PrintLast Go.Proofs.YtloibeefopdhpaaDoorW.PrintMore
def api_Step.l0 : Nat → List S34 → List S34 → Int → Option Bool
  | 0, _, _, _ => none
  | k + 1, x1, x15, i => if 0 ≤ i ∧ i < (x15.length : Int) ∧ i < (x1.length : Int) then (cmd_Same.f k (rd_T34 x15 i).f0 (rd_T34 x15 i).f1 (rd_T34 x15 i).f2 (rd_T34 x15 i).f3.f0 (rd_T34 x15 i).f3.f1 (rd_T34 x15 i).f3.f2 (rd_T34 x15 i).f3.f3.f0 (rd_T34 x15 i).f3.f3.f1 (rd_T34 x15 i).f3.f3.f2 (rd_T34 x15 i).f3.f3.f3 (rd_T34 x1 i).f0 (rd_T34 x1 i).f1 (rd_T34 x1 i).f2 (rd_T34 x1 i).f3.f0 (rd_T34 x1 i).f3.f1 (rd_T34 x1 i).f3.f2 (rd_T34 x1 i).f3.f3.f0 (rd_T34 x1 i).f3.f3.f1 (rd_T34 x1 i).f3.f3.f2 (rd_T34 x1 i).f3.f3.f3).bind fun b => if b = true then api_Step.l0 k x1 x15 (wrap64 (i + 1)) else some false
    else if 0 ≤ i ∧ i < (x15.length : Int) then none else some true
theorem api_Step.l0_mono : ∀ k x1 x15 i, LeO (api_Step.l0 k x1 x15 i) (api_Step.l0 (k + 1) x1 x15 i)
  | 0, _, _, _ => fun r h => by simp [api_Step.l0] at h
  | k + 1, x1, x15, i => by
    rw [api_Step.l0, api_Step.l0]
    exact LeO.ite (LeO.bind (cmd_Same.mono _ _ _ _ _ _ _ _ _ _ _ _ _ _ _ _ _ _ _ _ _) fun b => LeO.ite (api_Step.l0_mono k _ _ _) (LeO.refl _)) (LeO.refl _)
def api_Step.f (k : Nat) (l0 : List S34) (l1 : List S34) : Option Bool := if l0.length = l1.length then api_Step.l0 k l1 l0 0 else some false
theorem api_Step.mono : ∀ a0 a1 k, LeO (api_Step.f k a0 a1) (api_Step.f (k + 1) a0 a1) := by
  intro a0 a1 k
  unfold api_Step.f
  exact LeO.ite (api_Step.l0_mono _ _ _ _) (LeO.refl _)
set_option maxHeartbeats 4000000 in
set_option maxRecDepth 100000 in
theorem api_Step.calls (k : Nat) (A0 : Option Addr) (c0 : Nat) (l0 : List S34) (A1 : Option Addr) (c1 : Nat) (l1 : List S34) (r : Bool) (w : World) (hr0 : Kd.C k34 w A0 l0.length l0) (hc0 : l0.length ≤ c0) (hr1 : Kd.C k34 w A1 l1.length l1) (hc1 : l1.length ≤ c1) (h : api_Step.f k l0 l1 = some r) :
    Calls Tryd.prog 98 #[.slice A0 l0.length c0, .slice A1 l1.length c1, .func (.func 19) #[] #[]] w fun e w' => e = .returned (.bool r) ∧ Below w.heap.size w w' := by
  have HR0 := Aside0.mk hr0
  have HR1 := Aside0.mk hr1
  have HB0 := Aside0.mk (Below.refl w.heap.size w)
  clear hr0 hr1 hc0 hc1
  unfold api_Step.f at h
  go_enter Tryd.func98, Tryd.ntmps98
  by_cases hl : l0.length = l1.length
  case neg =>
    rw [if_neg hl] at h
    injection h with h
    subst h
    have hl1 : ((l0.length : Int) != (l1.length : Int)) = true := bne_iff_ne.2 (by omega)
    have hl2 : ((l0.length : Int) == (l1.length : Int)) = false := beq_eq_false_iff_ne.2 (by omega)
    have hl3 : (l0.length == l1.length) = false := beq_eq_false_iff_ne.2 hl
    go_wp2
    go_ret
    exact ⟨rfl, HB0.out⟩
  rw [if_pos hl] at h
  have hl1 : ((l0.length : Int) != (l1.length : Int)) = false := bne_eq_false_iff_eq.2 (by omega)
  have hl2 : ((l0.length : Int) == (l1.length : Int)) = true := beq_iff_eq.2 (by omega)
  have hl3 : (l0.length == l1.length) = true := beq_iff_eq.2 hl
  have HH := Aside0.mk h
  have HL := Aside0.mk hl
  clear h hl
  go_wp2
  clear hl1 hl2 hl3
  go_loopg [17] k (fun kq v17 w' => ∃ i : Int, v17 = .int .i64 i ∧ Aside0 (0 ≤ i) ∧ Aside0 (api_Step.l0 kq l1 l0 i = some r) ∧ Aside0 (Below w.heap.size w w'))
  case atStart => exact ⟨0, rfl, ⟨Int.le_refl 0⟩, HH, HB0⟩
  case round =>
    clear HH HB0
    obtain ⟨i, rfl, HI, HA, HB⟩ := hrel
    cases gk with
    | zero => exact absurd HA.out (by simp [api_Step.l0])
    | succ k1 =>
      have h := HA.out
      rw [api_Step.l0] at h
      have hi0 := HI.out
      by_cases hi : i < (l0.length : Int)
      case neg =>
        rw [if_neg (fun q => hi q.2.1), if_neg (fun q => hi q.2)] at h
        injection h with h
        subst h
        go_wp2
        go_ret
        exact ⟨rfl, HB.out⟩
      have hi1 : i < (l1.length : Int) := by have := HL.out; omega
      rw [if_pos ⟨hi0, hi, hi1⟩] at h
      obtain ⟨b, h1, h⟩ := Option.bind_eq_some_iff.mp h
      obtain ⟨ad, A5, c5, A9, c9, e0, x0, x1, x2, x3, x4, x5, x6, x7, x8, x9, g5, q5, g9, q9⟩ := at_T34 (Kd.C_below HR0.out HB.out) i hi0 hi
      obtain ⟨bd, B5, d5, B9, d9, e1, y0, y1, y2, y3, y4, y5, y6, y7, y8, y9, j5, p5, j9, p9⟩ := at_T34 (Kd.C_alloc (Kd.C_below HR1.out HB.out) (.cells #[.int .i64 (rd_T34 l0 i).f0, .string (rd_T34 l0 i).f1, .string (rd_T34 l0 i).f2, .int .i64 (rd_T34 l0 i).f3.f0, .string (rd_T34 l0 i).f3.f1, .slice A5 (rd_T34 l0 i).f3.f2.length c5, .int .i64 (rd_T34 l0 i).f3.f3.f0, .string (rd_T34 l0 i).f3.f3.f1, .string (rd_T34 l0 i).f3.f3.f2, .slice A9 (rd_T34 l0 i).f3.f3.f3.length c9] 34)) i hi0 hi1
      have hm := Kd.C_max HR0.out
      cases e0
      cases e1
      generalize rd_T34 l0 i = x at *
      generalize rd_T34 l1 i = y at *
      have H1 := Aside0.mk (fun W e1 e2 e3 e4 => cmd_Same.calls k1 x.f0 x.f1 x.f2 x.f3.f0 x.f3.f1 A5 c5 x.f3.f2 x.f3.f3.f0 x.f3.f3.f1 x.f3.f3.f2 A9 c9 x.f3.f3.f3 y.f0 y.f1 y.f2 y.f3.f0 y.f3.f1 B5 d5 y.f3.f2 y.f3.f3.f0 y.f3.f3.f1 y.f3.f3.f2 B9 d9 y.f3.f3.f3 b W e1 g5 e2 g9 e3 j5 e4 j9 h1)
      have HP := Aside0.mk (And.intro (And.intro q5 q9) (And.intro p5 p9))
      have HH := Aside0.mk h
      have p1 : (0 ≤ i) = True := eq_true hi0
      have p2 : (i < (l0.length : Int)) = True := eq_true hi
      have p3 : (i < (l1.length : Int)) = True := eq_true hi1
      clear h h1 HA g5 q5 g9 q9 j5 p5 j9 p9 HI
      go_wp2_with (fail)
      refine (H1.out _ (Kd.C_alloc (Kd.C_alloc HP.out.1.1 _) _) (Kd.C_alloc (Kd.C_alloc HP.out.1.2 _) _) (Kd.C_alloc HP.out.2.1 _) (Kd.C_alloc HP.out.2.2 _)).mono ?_
      rintro e_ w2 ⟨rfl, hb⟩
      have HB2 := Aside0.mk (below_then (below_alloc (below_alloc HB.out _) _) (below_alloc (below_alloc HB.out _) _).size hb)
      have hi9 : i + 1 ≤ 9223372036854775807 := by omega
      have h := HH.out
      clear hb HH HP H1 HB x0 x1 x2 x3 x4 x5 x6 x7 x8 x9 y0 y1 y2 y3 y4 y5 y6 y7 y8 y9
      cases b with
      | false =>
        rw [if_neg (by decide)] at h
        injection h with h
        subst h
        go_wp2
        go_ret
        exact ⟨rfl, HB2.out⟩
      | true =>
        rw [if_pos rfl] at h
        have HA2 := Aside0.mk h
        clear h
        have hw : wrap64 (i + 1) = i + 1 := by unfold wrap64; omega
        rw [hw] at HA2
        go_wp2
        go_roundg k1
        case measure => omega
        case rel => exact ⟨i + 1, rfl, ⟨by omega⟩, HA2, HB2⟩
end Go.Proofs.YtloibeefopdhpaaDoor.G
