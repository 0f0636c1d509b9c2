-- Words of the kit's print (as it laid them for this seat); what this claim does not use is left out.
import Derived.Test.YtloibeefopdhpaaDoorG25
import Derived.Test.YtloibeefopdhpaaDoorRef35LineP
import Derived.Deep.RegionHeld3
import Derived.Outline
set_option linter.unusedVariables false
namespace Go.Proofs.YtloibeefopdhpaaDoor.G
open Go.RowKit Go.Proofs.YtloibeefopdhpaaDoorW.PrintWords Go.Proofs.YtloibeefopdhpaaDoorW.PrintLast Go.Proofs.YtloibeefopdhpaaDoorW.PrintMore
def refTextC (k : Nat) : List S134 → ByteArray → Option ByteArray
  | [], out => some out
  | c :: cs, out => (rafterref36_Number.f k c.f0).bind fun n => (rafterref40_Mask.f c.f1).bind fun m => if out.size + n.size + m.size + 100 ≤ 9223372036854775807 then refTextC k cs (((((out ++ (⟨#[99, 114, 97, 115, 104, 32]⟩ : ByteArray)) ++ n) ++ (⟨#[32]⟩ : ByteArray)) ++ m) ++ (⟨#[10]⟩ : ByteArray)) else none
def refTextX (k : Nat) : List S34 → ByteArray → Option ByteArray
  | [], out => some out
  | x :: xs, out => (rafterref35_Line.f k x.f0 x.f1 x.f2 x.f3.f0 x.f3.f1 x.f3.f2 x.f3.f3.f0 x.f3.f3.f1 x.f3.f3.f2 x.f3.f3.f3).bind fun l => (rafterref35_Text.f k l).bind fun t => if out.size + t.size + 100 ≤ 9223372036854775807 then refTextX k xs ((out ++ t) ++ (⟨#[10]⟩ : ByteArray)) else none
def rafterref40_Text.f (k : Nat) (a0_0 : Int) (l0_1 : List S134) (l0_2 : List S34) : Option ByteArray :=
  (rafterref36_Number.f k a0_0).bind fun n => if n.size + 100 ≤ 9223372036854775807 then (refTextC k l0_1 (((⟨#[114, 111, 111, 109, 32]⟩ : ByteArray) ++ n) ++ (⟨#[10]⟩ : ByteArray))).bind fun out => refTextX k l0_2 out else none
theorem refTextC_mono (k : Nat) : ∀ l out, LeO (refTextC k l out) (refTextC (k + 1) l out)
  | [], out => LeO.refl _
  | c :: cs, out => LeO.bind (rafterref36_Number.mono _ _) fun n => LeO.bind (LeO.refl _) fun m => LeO.ite (refTextC_mono k cs _) (LeO.refl _)
theorem refTextX_mono (k : Nat) : ∀ l out, LeO (refTextX k l out) (refTextX (k + 1) l out)
  | [], out => LeO.refl _
  | x :: xs, out => LeO.bind (rafterref35_Line.mono _ _ _ _ _ _ _ _ _ _ _) fun l => LeO.bind (rafterref35_Text.mono _ _) fun t => LeO.ite (refTextX_mono k xs _) (LeO.refl _)
theorem rafterref40_Text.mono : ∀ a0 a1 a2 k, LeO (rafterref40_Text.f k a0 a1 a2) (rafterref40_Text.f (k + 1) a0 a1 a2) := by
  intro a0 a1 a2 k
  unfold rafterref40_Text.f
  exact LeO.bind (rafterref36_Number.mono _ _) fun n => LeO.ite (LeO.bind (refTextC_mono _ _ _) fun out => refTextX_mono _ _ _) (LeO.refl _)
set_option maxHeartbeats 4000000 in
set_option maxRecDepth 100000 in
theorem rafterref40_Text.calls (k : Nat) (a0_0 : Int) (A0_1 : Option Addr) (c0_1 : Nat) (l0_1 : List S134) (A0_2 : Option Addr) (c0_2 : Nat) (l0_2 : List S34) (r : ByteArray) (w : World) (hr0_1 : Kd.C k134 w A0_1 l0_1.length l0_1) (hc0_1 : l0_1.length ≤ c0_1) (hr0_2 : Kd.C k34 w A0_2 l0_2.length l0_2) (hc0_2 : l0_2.length ≤ c0_2) (h : rafterref40_Text.f k a0_0 l0_1 l0_2 = some r) :
    Calls Tryd.prog 52 #[.agg #[.int .i64 a0_0, .slice A0_1 l0_1.length c0_1, .slice A0_2 l0_2.length c0_2]] w fun e w' => e = .returned (.string r) ∧ Below w.heap.size w w' := by
  have HR1 := Aside0.mk hr0_1
  have HR2 := Aside0.mk hr0_2
  clear hr0_1 hc0_1 hr0_2 hc0_2
  have HB0 := Aside0.mk (below_alloc (Below.refl w.heap.size w) (.cells #[.int .i64 a0_0, .slice A0_1 l0_1.length c0_1, .slice A0_2 l0_2.length c0_2] 76))
  have HX0 := Aside0.mk (heap_alloc_new w (.cells #[.int .i64 a0_0, .slice A0_1 l0_1.length c0_1, .slice A0_2 l0_2.length c0_2] 76))
  unfold rafterref40_Text.f at h
  obtain ⟨n, h1, h⟩ := Option.bind_eq_some_iff.mp h
  by_cases hn : n.size + 100 ≤ 9223372036854775807
  case neg => rw [if_neg hn] at h; cases h
  rw [if_pos hn] at h
  obtain ⟨out, h2, h⟩ := Option.bind_eq_some_iff.mp h
  have H1 := Aside0.mk (fun W => rafterref36_Number.calls k a0_0 n W h1)
  have H2 := Aside0.mk h2
  have H3 := Aside0.mk h
  have s5 : (⟨#[114, 111, 111, 109, 32]⟩ : ByteArray).size = 5 := rfl
  have s1 : (⟨#[10]⟩ : ByteArray).size = 1 := rfl
  have u1 : (9223372036854775807 < 5 + n.size) = False := eq_false (by omega)
  have u2 : (9223372036854775807 < 5 + n.size + 1) = False := eq_false (by omega)
  clear h h1 h2
  go_enter Tryd.func52, Tryd.ntmps52
  go_wp2_with (fail)
  refine (H1.out _).mono ?_
  rintro e_ w1 ⟨rfl, ⟨⟨n1, rfl⟩⟩⟩
  obtain ⟨W, hW⟩ : ∃ W, W = (w.alloc (.cells #[.int .i64 a0_0, .slice A0_1 l0_1.length c0_1, .slice A0_2 l0_2.length c0_2] 76)).drewN n1 := ⟨_, rfl⟩
  have HX : Aside0 (W.heap[w.heap.size]? = some (.cells #[.int .i64 a0_0, .slice A0_1 l0_1.length c0_1, .slice A0_2 l0_2.length c0_2] 76 (0, 0))) := ⟨by rw [hW]; exact blk_drewN HX0.out n1⟩
  have HB : Aside0 (Below w.heap.size w W) := ⟨by rw [hW]; exact pw_below_drewN HB0.out n1⟩
  rw [← hW]
  clear hW HX0 HB0 H1
  go_wp2
  clear u1 u2 s5 hn
  go_loopg [3, 4] l0_1.length (fun gk v3 v4 w' => ∃ (i : Nat) (s : ByteArray), v3 = .string s ∧ v4 = .int .i64 i ∧ Aside0 (i + gk = l0_1.length) ∧ Aside0 (refTextC k (l0_1.drop i) s = some out) ∧ Aside0 (Below w.heap.size w w') ∧ Aside0 (w'.heap[w.heap.size]? = some (.cells #[.int .i64 a0_0, .slice A0_1 l0_1.length c0_1, .slice A0_2 l0_2.length c0_2] 76 (0, 0))))
  case atStart => exact ⟨0, _, rfl, rfl, ⟨by omega⟩, H2, HB, HX⟩
  case round =>
    clear H2 HB HX
    obtain ⟨i, s, rfl, rfl, HI, HC, HB, HX⟩ := hrel
    have hm := Kd.C_max HR1.out
    obtain ⟨x0, x1, x2, _⟩ := cells3 HX.out
    by_cases hi : i < l0_1.length
    · have hi' : (i : Int) < (l0_1.length : Int) := by omega
      obtain ⟨ad, A1, c1, e0, y0, y1, g1, q1⟩ := at_T134 (Kd.C_below HR1.out HB.out) (i : Int) (by omega) hi'
      rw [Int.toNat_natCast] at y0 y1
      have hrd : l0_1.drop i = rd_T134 l0_1 (i : Int) :: l0_1.drop (i + 1) := by
        rw [List.drop_eq_getElem_cons hi]
        simp [rd_T134, hi]
      have h := HC.out
      rw [hrd] at h
      generalize rd_T134 l0_1 (i : Int) = c at *
      rw [refTextC] at h
      obtain ⟨n2, h1, h⟩ := Option.bind_eq_some_iff.mp h
      obtain ⟨m2, h2, h⟩ := Option.bind_eq_some_iff.mp h
      by_cases hz : s.size + n2.size + m2.size + 100 ≤ 9223372036854775807
      case neg => rw [if_neg hz] at h; cases h
      rw [if_pos hz] at h
      have H4 := Aside0.mk (fun W => rafterref36_Number.calls k c.f0 n2 W h1)
      have H5 := Aside0.mk (fun W e1 => rafterref40_Mask.calls A1 c1 c.f1 m2 W e1 g1 h2)
      have HC2 := Aside0.mk h
      have HQ := Aside0.mk q1
      cases e0
      have p1 : (0 ≤ (i : Int)) = True := eq_true (by omega)
      have p2 : ((i : Int) < (l0_1.length : Int)) = True := eq_true hi'
      have s6 : (⟨#[99, 114, 97, 115, 104, 32]⟩ : ByteArray).size = 6 := rfl
      have s3 : (⟨#[32]⟩ : ByteArray).size = 1 := rfl
      have u1 : (9223372036854775807 < s.size + 6) = False := eq_false (by omega)
      have u2 : (9223372036854775807 < s.size + 6 + n2.size) = False := eq_false (by omega)
      have u3 : (9223372036854775807 < s.size + 6 + n2.size + 1) = False := eq_false (by omega)
      have u4 : (9223372036854775807 < s.size + 6 + n2.size + 1 + m2.size) = False := eq_false (by omega)
      have u5 : (9223372036854775807 < s.size + 6 + n2.size + 1 + m2.size + 1) = False := eq_false (by omega)
      clear h h1 h2 hrd HC hz g1 q1
      go_upto_region 5 with (fail)
      go_region_held3 (fun w' => w'.cell? ⟨w.heap.size, 1, none⟩ = some (.slice (some ad) l0_1.length c0_1) ∧ w'.cell? (ad.add (i * 2)) = some (.int .i64 c.f0) ∧ w'.cell? ⟨(ad.add (i * 2)).block, (ad.add (i * 2)).off + 1, none⟩ = some (.slice A1 c.f1.length c1)) (exact ⟨x1, y0, y1⟩) (first | (go_at_call 28; refine (H4.out _).mono ?_; rintro e_ w4 ⟨rfl, ⟨⟨n4, rfl⟩⟩⟩) | (go_at_call 43; refine (H5.out _ (Kd.C_drewN HQ.out _)).mono ?_; rintro e_ w5 ⟨rfl, ⟨⟨n5, rfl⟩⟩⟩))
      have hi9 : (i : Int) + 1 ≤ 9223372036854775807 := by omega
      go_wp2
      go_roundg (gk - 1)
      case measure => have := HI.out; omega
      case rel => exact ⟨i + 1, _, rfl, by go_num, ⟨by have := HI.out; omega⟩, HC2, ⟨pw_below_drewN HB.out _⟩, ⟨blk_drewN HX.out _⟩⟩
    · have hi' : ¬ (i : Int) < (l0_1.length : Int) := by omega
      have h := HC.out
      rw [List.drop_eq_nil_of_le (by omega), refTextC] at h
      injection h with h
      subst h
      go_wp2
      clear x0 x1 x2 hi' hi hm HC HI
      go_loopg [3, 5] l0_2.length (fun gk v3 v5 w' => ∃ (i : Nat) (s : ByteArray), v3 = .string s ∧ v5 = .int .i64 i ∧ Aside0 (i + gk = l0_2.length) ∧ Aside0 (refTextX k (l0_2.drop i) s = some r) ∧ Aside0 (Below w.heap.size w w') ∧ Aside0 (w'.heap[w.heap.size]? = some (.cells #[.int .i64 a0_0, .slice A0_1 l0_1.length c0_1, .slice A0_2 l0_2.length c0_2] 76 (0, 0))))
      case atStart => exact ⟨0, _, rfl, rfl, ⟨by omega⟩, H3, HB, HX⟩
      case round =>
        clear H3 HB HX
        obtain ⟨i, s, rfl, rfl, HI, HC, HB, HX⟩ := hrel
        have hm := Kd.C_max HR2.out
        obtain ⟨x0, x1, x2, _⟩ := cells3 HX.out
        by_cases hi : i < l0_2.length
        · have hi' : (i : Int) < (l0_2.length : Int) := by omega
          obtain ⟨ad, A5, c5, A9, c9, e0, y0, y1, y2, y3, y4, y5, y6, y7, y8, y9, g5, q5, g9, q9⟩ := at_T34 (Kd.C_below HR2.out HB.out) (i : Int) (by omega) hi'
          rw [Int.toNat_natCast] at y0 y1 y2 y3 y4 y5 y6 y7 y8 y9
          have hrd : l0_2.drop i = rd_T34 l0_2 (i : Int) :: l0_2.drop (i + 1) := by
            rw [List.drop_eq_getElem_cons hi]
            simp [rd_T34, hi]
          have h := HC.out
          rw [hrd] at h
          generalize rd_T34 l0_2 (i : Int) = x at *
          rw [refTextX] at h
          obtain ⟨l, h1, h⟩ := Option.bind_eq_some_iff.mp h
          obtain ⟨t, h2, h⟩ := Option.bind_eq_some_iff.mp h
          by_cases hz : s.size + t.size + 100 ≤ 9223372036854775807
          case neg => rw [if_neg hz] at h; cases h
          rw [if_pos hz] at h
          have H4 := Aside0.mk (fun W e1 e2 => rafterref35_Line.calls k x.f0 x.f1 x.f2 x.f3.f0 x.f3.f1 A5 c5 x.f3.f2 x.f3.f3.f0 x.f3.f3.f1 x.f3.f3.f2 A9 c9 x.f3.f3.f3 l W e1 g5 e2 g9 h1)
          have H5 := Aside0.mk (fun A c W e1 e2 => rafterref35_Text.calls k A c l t W e1 e2 h2)
          have HQ := Aside0.mk (And.intro q5 q9)
          have HC2 := Aside0.mk h
          cases e0
          have p1 : (0 ≤ (i : Int)) = True := eq_true (by omega)
          have p2 : ((i : Int) < (l0_2.length : Int)) = True := eq_true hi'
          have hi9 : (i : Int) + 1 ≤ 9223372036854775807 := by omega
          have u1 : (9223372036854775807 < s.size + t.size) = False := eq_false (by omega)
          have u2 : (9223372036854775807 < s.size + t.size + 1) = False := eq_false (by omega)
          clear h h1 h2 hrd HC g5 q5 g9 q9 hz
          go_wp2_with (fail)
          refine (H4.out _ HQ.out.1 HQ.out.2).mono ?_
          rintro e_ w4 ⟨v4, rfl, hR, hb⟩
          obtain ⟨AL, cL, rfl⟩ := Kd.R_slice hR
          have HL4 := Aside0.mk (Kd.R_reads' hR).2
          have HB4 := Aside0.mk (below_then HB.out HB.out.size hb)
          have HX4 := Aside0.mk (blk_below HX.out hb)
          clear hb hR HB HX H4 HQ x0 x1 x2 y0 y1 y2 y3 y4 y5 y6 y7 y8 y9
          go_wp2_with (fail)
          refine (H5.out _ _ _ HL4.out.2 HL4.out.1).mono ?_
          rintro e_ w5 ⟨rfl, hb⟩
          have HB5 := Aside0.mk (below_then HB4.out HB4.out.size hb)
          have HX5 := Aside0.mk (blk_below HX4.out hb)
          clear hb HB4 HX4 H5 HL4
          go_wp2
          go_roundg (gk - 1)
          case measure => have := HI.out; omega
          case rel => exact ⟨i + 1, _, rfl, by go_num, ⟨by have := HI.out; omega⟩, HC2, HB5, HX5⟩
        · have hi' : ¬ (i : Int) < (l0_2.length : Int) := by omega
          have h := HC.out
          rw [List.drop_eq_nil_of_le (by omega), refTextX] at h
          injection h with h
          subst h
          go_wp2
          go_ret
          exact ⟨rfl, HB.out⟩
end Go.Proofs.YtloibeefopdhpaaDoor.G
