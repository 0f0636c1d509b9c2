/- tape.Text: the walk. -/
import Derived.Test.YtloibeefopdhpaaDoorG13
import Derived.Test.YtloibeefopdhpaaDoorG1
import Derived.Deep.RegionHeld3
import Derived.Outline
set_option linter.unusedVariables false
namespace Go.Proofs.YtloibeefopdhpaaDoor.G
open Go.RowKit Go.Proofs.YtloibeefopdhpaaDoorW.PrintWords Go.Proofs.YtloibeefopdhpaaDoorW.PrintLast Go.Proofs.YtloibeefopdhpaaDoorW.PrintMore

/-- The lines of crashes. -/
def textC (k : Nat) : List S134 → ByteArray → Option ByteArray
  | [], out => some out
  | c :: cs, out => (reply_Number.f k c.f0).bind fun n => (tape_Mask.f k c.f1).bind fun m => if out.size + n.size + m.size + 100 ≤ 9223372036854775807 then textC k cs (out ++ (((((⟨#[99, 114, 97, 115, 104, 32]⟩ : ByteArray) ++ n) ++ (⟨#[32]⟩ : ByteArray)) ++ m) ++ (⟨#[10]⟩ : ByteArray))) else none
/-- The lines of steps. -/
def textX (k : Nat) : List S34 → ByteArray → Option (ByteArray × Int)
  | [], out => some (out, 0)
  | x :: xs, out => (cmd_Text.f k x.f0 x.f1 x.f2 x.f3.f0 x.f3.f1 x.f3.f2 x.f3.f3.f0 x.f3.f3.f1 x.f3.f3.f2 x.f3.f3.f3).bind fun t => if t.2 = 0 then (if out.size + t.1.size + 100 ≤ 9223372036854775807 then textX k xs (out ++ (t.1 ++ (⟨#[10]⟩ : ByteArray))) else none) else some ((⟨#[]⟩ : ByteArray), t.2)
def tape_Text.f (k : Nat) (a0_0 : Int) (l0_1 : List S134) (l0_2 : List S34) : Option (ByteArray × Int) :=
  if a0_0 < 0 ∨ a0_0 > 1073741824 then some ((⟨#[]⟩ : ByteArray), 3) else (reply_Number.f k a0_0).bind fun n => if n.size + 100 ≤ 9223372036854775807 then (textC k l0_1 (((⟨#[114, 111, 111, 109, 32]⟩ : ByteArray) ++ n) ++ (⟨#[10]⟩ : ByteArray))).bind fun out => textX k l0_2 out else none
theorem textC_mono (k : Nat) : ∀ l out, LeO (textC k l out) (textC (k + 1) l out)
  | [], out => LeO.refl _
  | c :: cs, out => LeO.bind (reply_Number.mono _ _) fun n => LeO.bind (tape_Mask.mono _ _) fun m => LeO.ite (textC_mono k cs _) (LeO.refl _)
theorem textX_mono (k : Nat) : ∀ l out, LeO (textX k l out) (textX (k + 1) l out)
  | [], out => LeO.refl _
  | x :: xs, out => LeO.bind (cmd_Text.mono _ _ _ _ _ _ _ _ _ _ _) fun t => LeO.ite (LeO.ite (textX_mono k xs _) (LeO.refl _)) (LeO.refl _)
theorem tape_Text.mono : ∀ a0 a1 a2 k, LeO (tape_Text.f k a0 a1 a2) (tape_Text.f (k + 1) a0 a1 a2) := by
  intro a0 a1 a2 k
  unfold tape_Text.f
  exact LeO.ite (LeO.refl _) (LeO.bind (reply_Number.mono _ _) fun n => LeO.ite (LeO.bind (textC_mono _ _ _) fun out => textX_mono _ _ _) (LeO.refl _))

set_option maxHeartbeats 4000000 in
set_option maxRecDepth 100000 in
theorem tape_Text.calls (k : Nat) (a0_0 : Int) (A0_1 : Option Addr) (c0_1 : Nat) (l0_1 : List S134) (A0_2 : Option Addr) (c0_2 : Nat) (l0_2 : List S34) (r1 : ByteArray) (r2 : Int) (w : World) (hr0_1 : Kd.C k134 w A0_1 l0_1.length l0_1) (hc0_1 : l0_1.length ≤ c0_1) (hr0_2 : Kd.C k34 w A0_2 l0_2.length l0_2) (hc0_2 : l0_2.length ≤ c0_2) (h : tape_Text.f k a0_0 l0_1 l0_2 = some (r1, r2)) :
    Calls Tryd.prog 47 #[.agg #[.int .i64 a0_0, .slice A0_1 l0_1.length c0_1, .slice A0_2 l0_2.length c0_2]] w fun e w' => e = .returned (.tuple #[.string r1, .int .i64 r2]) ∧ Below w.heap.size w w' := by
  have HR1 := Aside0.mk hr0_1
  have HR2 := Aside0.mk hr0_2
  clear hr0_1 hc0_1 hr0_2 hc0_2
  have HB0 := Aside0.mk (below_alloc (Below.refl w.heap.size w) (.cells #[.int .i64 a0_0, .slice A0_1 l0_1.length c0_1, .slice A0_2 l0_2.length c0_2] 76))
  have HX0 := Aside0.mk (heap_alloc_new w (.cells #[.int .i64 a0_0, .slice A0_1 l0_1.length c0_1, .slice A0_2 l0_2.length c0_2] 76))
  unfold tape_Text.f at h
  go_enter Tryd.func47, Tryd.ntmps47
  by_cases hc : a0_0 < 0 ∨ a0_0 > 1073741824
  case pos =>
    rw [if_pos hc] at h
    injection h with h
    simp only [Prod.mk.injEq] at h
    obtain ⟨rfl, rfl⟩ := h
    by_cases h0 : a0_0 < 0
    · have e0 : decide (a0_0 < 0) = true := decide_eq_true h0
      go_wp2
      go_ret2
      exact ⟨rfl, HB0.out⟩
    · have h1 : 1073741824 < a0_0 := by omega
      have e0 : decide (a0_0 < 0) = false := decide_eq_false h0
      have e1 : decide (1073741824 < a0_0) = true := decide_eq_true h1
      go_wp2
      go_ret2
      exact ⟨rfl, HB0.out⟩
  rw [if_neg hc] at h
  obtain ⟨n, h1, h⟩ := Option.bind_eq_some_iff.mp h
  by_cases hn : n.size + 100 ≤ 9223372036854775807
  case neg => rw [if_neg hn] at h; cases h
  rw [if_pos hn] at h
  obtain ⟨out, h2, h⟩ := Option.bind_eq_some_iff.mp h
  have H1 := Aside0.mk (fun W => reply_Number.calls k a0_0 n W h1)
  have H2 := Aside0.mk h2
  have H3 := Aside0.mk h
  have e0 : decide (a0_0 < 0) = false := decide_eq_false (by omega)
  have e1 : decide (1073741824 < a0_0) = false := decide_eq_false (by omega)
  have f0 : ¬ a0_0 < 0 := by omega
  have f1 : ¬ 1073741824 < a0_0 := by omega
  have s5 : (⟨#[114, 111, 111, 109, 32]⟩ : ByteArray).size = 5 := rfl
  have s1 : (⟨#[10]⟩ : ByteArray).size = 1 := rfl
  have u1 : (9223372036854775807 < 5 + n.size) = False := eq_false (by omega)
  have u2 : (9223372036854775807 < 5 + n.size + 1) = False := eq_false (by omega)
  clear h h1 h2 hc
  go_wp2_with (fail)
  refine (H1.out _).mono ?_
  rintro e_ w1 ⟨rfl, ⟨⟨n1, rfl⟩⟩⟩
  obtain ⟨W, hW⟩ : ∃ W, W = (w.alloc (.cells #[.int .i64 a0_0, .slice A0_1 l0_1.length c0_1, .slice A0_2 l0_2.length c0_2] 76)).drewN n1 := ⟨_, rfl⟩
  have HX : Aside0 (W.heap[w.heap.size]? = some (.cells #[.int .i64 a0_0, .slice A0_1 l0_1.length c0_1, .slice A0_2 l0_2.length c0_2] 76 (0, 0))) := ⟨by rw [hW]; exact blk_drewN HX0.out n1⟩
  have HB : Aside0 (Below w.heap.size w W) := ⟨by rw [hW]; exact pw_below_drewN HB0.out n1⟩
  rw [← hW]
  clear hW HX0 HB0 H1
  obtain ⟨x0, x1, x2, _⟩ := cells3 HX.out
  go_wp2
  clear x0 x1 x2 e0 e1 f0 f1 u1 u2 s5 hn
  go_loopg [4, 27] l0_1.length (fun gk v4 v27 w' => ∃ (i : Nat) (s : ByteArray), v4 = .string s ∧ v27 = .int .i64 i ∧ Aside0 (i + gk = l0_1.length) ∧ Aside0 (textC k (l0_1.drop i) s = some out) ∧ Aside0 (Below w.heap.size w w') ∧ Aside0 (w'.heap[w.heap.size]? = some (.cells #[.int .i64 a0_0, .slice A0_1 l0_1.length c0_1, .slice A0_2 l0_2.length c0_2] 76 (0, 0))))
  case atStart => exact ⟨0, _, rfl, rfl, ⟨by omega⟩, H2, HB, HX⟩
  case round =>
    clear H2 HB HX
    obtain ⟨i, s, rfl, rfl, HI, HC, HB, HX⟩ := hrel
    have hm := Kd.C_max HR1.out
    by_cases hi : i < l0_1.length
    · have hi' : (i : Int) < (l0_1.length : Int) := by omega
      obtain ⟨ad, A1, c1, e0, y0, y1, g1, q1⟩ := at_T134 (Kd.C_below HR1.out HB.out) (i : Int) (by omega) hi'
      rw [Int.toNat_natCast] at y0 y1
      have hrd : l0_1.drop i = rd_T134 l0_1 (i : Int) :: l0_1.drop (i + 1) := by
        rw [List.drop_eq_getElem_cons hi]
        simp [rd_T134, hi]
      have h := HC.out
      rw [hrd] at h
      generalize rd_T134 l0_1 (i : Int) = c at *
      rw [textC] at h
      obtain ⟨n2, h1, h⟩ := Option.bind_eq_some_iff.mp h
      obtain ⟨m2, h2, h⟩ := Option.bind_eq_some_iff.mp h
      by_cases hz : s.size + n2.size + m2.size + 100 ≤ 9223372036854775807
      case neg => rw [if_neg hz] at h; cases h
      rw [if_pos hz] at h
      have H4 := Aside0.mk (fun W => reply_Number.calls k c.f0 n2 W h1)
      have H5 := Aside0.mk (fun W e1 => tape_Mask.calls k A1 c1 c.f1 m2 W e1 g1 h2)
      have HC2 := Aside0.mk h
      have HQ := Aside0.mk q1
      cases e0
      have p1 : (0 ≤ (i : Int)) = True := eq_true (by omega)
      have p2 : ((i : Int) < (l0_1.length : Int)) = True := eq_true hi'
      have s6 : (⟨#[99, 114, 97, 115, 104, 32]⟩ : ByteArray).size = 6 := rfl
      have s3 : (⟨#[32]⟩ : ByteArray).size = 1 := rfl
      have u1 : (9223372036854775807 < 6 + n2.size) = False := eq_false (by omega)
      have u2 : (9223372036854775807 < 6 + n2.size + 1) = False := eq_false (by omega)
      have u3 : (9223372036854775807 < 6 + n2.size + 1 + m2.size) = False := eq_false (by omega)
      have u4 : (9223372036854775807 < 6 + n2.size + 1 + m2.size + 1) = False := eq_false (by omega)
      have u5 : (9223372036854775807 < s.size + (6 + n2.size + 1 + m2.size + 1)) = False := eq_false (by omega)
      clear h h1 h2 hrd HC hz g1 q1
      go_upto_region 7 with (fail)
      obtain ⟨W2, hW2⟩ : ∃ W2, W2 = wr.alloc (.cells #[.int .i64 c.f0, .slice A1 c.f1.length c1] 134) := ⟨_, rfl⟩
      have hb : W2.heap[wr.heap.size]? = some (.cells #[.int .i64 c.f0, .slice A1 c.f1.length c1] 134 (0, 0)) := by rw [hW2]; exact heap_alloc_new wr _
      have HQ2 := Aside0.mk (show Kd.C (Kd.int .u8) W2 A1 c.f1.length c.f1 by rw [hW2]; exact Kd.C_alloc HQ.out _)
      have HB2 := Aside0.mk (show Below w.heap.size w W2 by rw [hW2]; exact below_alloc HB.out _)
      have HX2 := Aside0.mk (show W2.heap[w.heap.size]? = some (.cells #[.int .i64 a0_0, .slice (some ad) l0_1.length c0_1, .slice A0_2 l0_2.length c0_2] 76 (0, 0)) by rw [hW2]; exact blk_alloc HX.out _)
      rw [← hW2]
      obtain ⟨z0, z1, _⟩ := cells2 hb
      clear hW2 hb y0 y1
      go_region_held3 (fun w' => w'.cell? ⟨wr.heap.size, 0, none⟩ = some (.int .i64 c.f0) ∧ w'.cell? ⟨wr.heap.size, 1, none⟩ = some (.slice A1 c.f1.length c1)) (exact ⟨z0, z1⟩) (first | (go_at_call 26; refine (H4.out _).mono ?_; rintro e_ w4 ⟨rfl, ⟨⟨n4, rfl⟩⟩⟩) | (go_at_call 41; refine (H5.out _ (Kd.C_drewN HQ2.out _)).mono ?_; rintro e_ w5 ⟨rfl, ⟨⟨n5, rfl⟩⟩⟩))
      have hi9 : (i : Int) + 1 ≤ 9223372036854775807 := by omega
      go_wp2
      go_roundg (gk - 1)
      case measure => have := HI.out; omega
      case rel => exact ⟨i + 1, _, rfl, by go_num, ⟨by have := HI.out; omega⟩, HC2, ⟨pw_below_drewN HB2.out _⟩, ⟨blk_drewN HX2.out _⟩⟩
    · have hi' : ¬ (i : Int) < (l0_1.length : Int) := by omega
      have h := HC.out
      rw [List.drop_eq_nil_of_le (by omega), textC] at h
      injection h with h
      subst h
      obtain ⟨x0, x1, x2, _⟩ := cells3 HX.out
      go_wp2
      clear x0 x1 x2 hi' hi hm HC HI HX
      go_loopg [4, 47] l0_2.length (fun gk v4 v47 w' => ∃ (i : Nat) (s : ByteArray), v4 = .string s ∧ v47 = .int .i64 i ∧ Aside0 (i + gk = l0_2.length) ∧ Aside0 (textX k (l0_2.drop i) s = some (r1, r2)) ∧ Aside0 (Below w.heap.size w w'))
      case atStart => exact ⟨0, _, rfl, rfl, ⟨by omega⟩, H3, HB⟩
      case round =>
        clear H3 HB
        obtain ⟨i, s, rfl, rfl, HI, HC, HB⟩ := hrel
        have hm := Kd.C_max HR2.out
        by_cases hi : i < l0_2.length
        · have hi' : (i : Int) < (l0_2.length : Int) := by omega
          obtain ⟨ad, A5, c5, A9, c9, e0, y0, y1, y2, y3, y4, y5, y6, y7, y8, y9, g5, q5, g9, q9⟩ := at_T34 (Kd.C_below HR2.out HB.out) (i : Int) (by omega) hi'
          rw [Int.toNat_natCast] at y0 y1 y2 y3 y4 y5 y6 y7 y8 y9
          have hrd : l0_2.drop i = rd_T34 l0_2 (i : Int) :: l0_2.drop (i + 1) := by
            rw [List.drop_eq_getElem_cons hi]
            simp [rd_T34, hi]
          have h := HC.out
          rw [hrd] at h
          generalize rd_T34 l0_2 (i : Int) = x at *
          rw [textX] at h
          obtain ⟨⟨t, e⟩, h1, h⟩ := Option.bind_eq_some_iff.mp h
          dsimp only at h
          have H4 := Aside0.mk (fun W e1 e2 => cmd_Text.calls k x.f0 x.f1 x.f2 x.f3.f0 x.f3.f1 A5 c5 x.f3.f2 x.f3.f3.f0 x.f3.f3.f1 x.f3.f3.f2 A9 c9 x.f3.f3.f3 t e W e1 g5 e2 g9 h1)
          have HQ := Aside0.mk (And.intro q5 q9)
          have HF := Aside0.mk h
          cases e0
          have p1 : (0 ≤ (i : Int)) = True := eq_true (by omega)
          have p2 : ((i : Int) < (l0_2.length : Int)) = True := eq_true hi'
          clear h h1 hrd HC g5 q5 g9 q9
          go_wp2_with (fail)
          refine (H4.out _ (Kd.C_alloc HQ.out.1 _) (Kd.C_alloc HQ.out.2 _)).mono ?_
          rintro e_ w5 ⟨rfl, hb⟩
          have HB5 := Aside0.mk (below_then (below_alloc HB.out _) (below_alloc HB.out _).size hb)
          have h := HF.out
          have hi9 : (i : Int) + 1 ≤ 9223372036854775807 := by omega
          clear hb HB HF H4 HQ y0 y1 y2 y3 y4 y5 y6 y7 y8 y9
          by_cases he : e = 0
          · subst he
            rw [if_pos rfl] at h
            by_cases hz : s.size + t.size + 100 ≤ 9223372036854775807
            case neg => rw [if_neg hz] at h; cases h
            rw [if_pos hz] at h
            have HC2 := Aside0.mk h
            have u1 : (9223372036854775807 < t.size + 1) = False := eq_false (by omega)
            have u2 : (9223372036854775807 < s.size + (t.size + 1)) = False := eq_false (by omega)
            clear h
            go_wp2
            go_roundg (gk - 1)
            case measure => have := HI.out; omega
            case rel => exact ⟨i + 1, _, rfl, by go_num, ⟨by have := HI.out; omega⟩, HC2, HB5⟩
          · rw [if_neg he] at h
            injection h with h
            simp only [Prod.mk.injEq] at h
            obtain ⟨rfl, rfl⟩ := h
            have hne : (e != 0) = true := bne_iff_ne.2 he
            go_wp2
            go_ret2
            exact ⟨rfl, HB5.out⟩
        · have hi' : ¬ (i : Int) < (l0_2.length : Int) := by omega
          have h := HC.out
          rw [List.drop_eq_nil_of_le (by omega), textX] at h
          injection h with h
          simp only [Prod.mk.injEq] at h
          obtain ⟨rfl, rfl⟩ := h
          go_wp2
          go_ret2
          exact ⟨rfl, HB.out⟩
end Go.Proofs.YtloibeefopdhpaaDoor.G
