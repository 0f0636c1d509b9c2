/- cmd.Check: the walk. -/
import Derived.Test.YtloibeefopdhpaaDoorCmdFill
import Derived.Test.YtloibeefopdhpaaDoorTexts
import Derived.Test.YtloibeefopdhpaaDoorCmdSameW
import Derived.Deep.RegionHeld3
import Derived.Outline
set_option linter.unusedVariables false
namespace Go.Proofs.YtloibeefopdhpaaDoor.G
open Go.RowKit Go.Proofs.YtloibeefopdhpaaDoorW.PrintWords Go.Proofs.YtloibeefopdhpaaDoorW.PrintLast Go.Proofs.YtloibeefopdhpaaDoorW.PrintMore

def cmd_Check.f (k : Nat) (a0_0 : Int) (a0_1 : ByteArray) (a0_2 : ByteArray) (a0_3 : Int) (a0_4 : ByteArray) (l0_5 : List ByteArray) (a0_6 : Int) (a0_7 : ByteArray) (a0_8 : ByteArray) (l0_9 : List ByteArray) : Option (Int) := (cmd_shapeOf.f a0_0 a0_1 a0_2 a0_3 a0_4 l0_5 a0_6 a0_7 a0_8 l0_9).bind fun bt624 => (if bt624.2.2.2.2.2.2 = true then ((cmd_texts.f k a0_0 a0_1 a0_2 a0_3 a0_4 l0_5 a0_6 a0_7 a0_8 l0_9 bt624.1).bind fun t632 => ((cmd_fill.f bt624.1 bt624.2.1 bt624.2.2.1 bt624.2.2.2.1 bt624.2.2.2.2.1 bt624.2.2.2.2.2.1 t632).bind fun bt635 => ((cmd_Same.f k bt635.1 bt635.2.1 bt635.2.2.1 bt635.2.2.2.1 bt635.2.2.2.2.1 bt635.2.2.2.2.2.1 bt635.2.2.2.2.2.2.1 bt635.2.2.2.2.2.2.2.1 bt635.2.2.2.2.2.2.2.2.1 bt635.2.2.2.2.2.2.2.2.2 a0_0 a0_1 a0_2 a0_3 a0_4 l0_5 a0_6 a0_7 a0_8 l0_9).bind fun t649 => (if t649 = true then (some 0) else (some 2))))) else (some 2))
theorem cmd_Check.mono : ∀ a0 a1 a2 a3 a4 a5 a6 a7 a8 a9 k, LeO (cmd_Check.f k a0 a1 a2 a3 a4 a5 a6 a7 a8 a9) (cmd_Check.f (k + 1) a0 a1 a2 a3 a4 a5 a6 a7 a8 a9) := by
  intro a0 a1 a2 a3 a4 a5 a6 a7 a8 a9 k
  unfold cmd_Check.f
  exact LeO.bind (LeO.refl _) fun s => LeO.ite (LeO.bind (cmd_texts.mono _ _ _ _ _ _ _ _ _ _ _ _) fun t => LeO.bind (LeO.refl _) fun x => LeO.bind (cmd_Same.mono _ _ _ _ _ _ _ _ _ _ _ _ _ _ _ _ _ _ _ _ _) fun b => LeO.refl _) (LeO.refl _)

set_option maxHeartbeats 4000000 in
set_option maxRecDepth 100000 in
theorem cmd_Check.calls (k : Nat) (a0_0 : Int) (a0_1 : ByteArray) (a0_2 : ByteArray) (a0_3 : Int) (a0_4 : ByteArray) (A0_5 : Option Addr) (c0_5 : Nat) (l0_5 : List ByteArray) (a0_6 : Int) (a0_7 : ByteArray) (a0_8 : ByteArray) (A0_9 : Option Addr) (c0_9 : Nat) (l0_9 : List ByteArray) (r : Int) (w : World) (hr0_5 : Kd.C Kd.string w A0_5 l0_5.length l0_5) (hc0_5 : l0_5.length ≤ c0_5) (hr0_9 : Kd.C Kd.string w A0_9 l0_9.length l0_9) (hc0_9 : l0_9.length ≤ c0_9) (h : cmd_Check.f k a0_0 a0_1 a0_2 a0_3 a0_4 l0_5 a0_6 a0_7 a0_8 l0_9 = some r) :
    Calls Tryd.prog 21 #[.agg #[.int .i64 a0_0, .string a0_1, .string a0_2, .int .i64 a0_3, .string a0_4, .slice A0_5 l0_5.length c0_5, .int .i64 a0_6, .string a0_7, .string a0_8, .slice A0_9 l0_9.length c0_9]] w fun e w' => e = .returned (.int .i64 r) ∧ Below w.heap.size w w' := by
  obtain ⟨⟨t1, t2, t3, t4, t5, t6, t7⟩, h1, h⟩ := Option.bind_eq_some_iff.mp h
  dsimp only at h1 h
  have HB := Aside0.mk (below_alloc (Below.refl w.heap.size w) (.cells #[.int .i64 a0_0, .string a0_1, .string a0_2, .int .i64 a0_3, .string a0_4, .slice A0_5 l0_5.length c0_5, .int .i64 a0_6, .string a0_7, .string a0_8, .slice A0_9 l0_9.length c0_9] 34))
  have HX := Aside0.mk (heap_alloc_new w (.cells #[.int .i64 a0_0, .string a0_1, .string a0_2, .int .i64 a0_3, .string a0_4, .slice A0_5 l0_5.length c0_5, .int .i64 a0_6, .string a0_7, .string a0_8, .slice A0_9 l0_9.length c0_9] 34))
  have H1 := Aside0.mk (fun W hx hy => cmd_shapeOf.calls a0_0 a0_1 a0_2 a0_3 a0_4 A0_5 c0_5 l0_5 a0_6 a0_7 a0_8 A0_9 c0_9 l0_9 t1 t2 t3 t4 t5 t6 t7 W hx hc0_5 hy hc0_9 h1)
  have HR := Aside0.mk (And.intro (And.intro hr0_5 hc0_5) (And.intro hr0_9 hc0_9))
  clear hr0_5 hc0_5 hr0_9 hc0_9 h1
  go_enter Tryd.func21, Tryd.ntmps21
  go_upto_region 1 with (fail)
  obtain ⟨W, hW⟩ : ∃ W, W = w.alloc (.cells #[.int .i64 a0_0, .string a0_1, .string a0_2, .int .i64 a0_3, .string a0_4, .slice A0_5 l0_5.length c0_5, .int .i64 a0_6, .string a0_7, .string a0_8, .slice A0_9 l0_9.length c0_9] 34) := ⟨_, rfl⟩
  have hx := HX.out
  have hb := HB.out
  rw [← hW] at hx hb
  have HX := Aside0.mk hx
  have HB := Aside0.mk hb
  clear hx hb
  rw [← hW]
  clear hW
  obtain ⟨y0, y1, y2, y3, y4, y5, y6, y7, y8, y9, d0, d1, d2, d3, d4, d5, d6, d7, d8, d9⟩ := cells10 HX.out
  clear d0 d1 d2 d3 d4 d5 d6 d7 d8 d9
  have HC5 := Aside0.mk (Kd.C_below HR.out.1.1 HB.out)
  have HC9 := Aside0.mk (Kd.C_below HR.out.2.1 HB.out)
  go_upto_region 2 with (go_at_call 65; refine (H1.out _ HC5.out HC9.out).mono ?_; rintro e_ w1 ⟨rfl, hb1⟩)
  clear y0 y1 y2 y3 y4 y5 y6 y7 y8 y9
  obtain ⟨W2, hW2⟩ : ∃ W2, W2 = w1.alloc (.cells #[.string t1, .int .i64 t2, .int .i64 t3, .int .i64 t4, .int .i64 t5, .bool t6] 93) := ⟨_, rfl⟩
  have HX2 := Aside0.mk (show W2.heap[w.heap.size]? = some (.cells #[.int .i64 a0_0, .string a0_1, .string a0_2, .int .i64 a0_3, .string a0_4, .slice A0_5 l0_5.length c0_5, .int .i64 a0_6, .string a0_7, .string a0_8, .slice A0_9 l0_9.length c0_9] 34 (0, 0)) by rw [hW2]; exact blk_alloc (blk_below HX.out hb1) _)
  have HS2 := Aside0.mk (show W2.heap[w1.heap.size]? = some (.cells #[.string t1, .int .i64 t2, .int .i64 t3, .int .i64 t4, .int .i64 t5, .bool t6] 93 (0, 0)) by rw [hW2]; exact heap_alloc_new w1 _)
  have HB2 := Aside0.mk (show Below w.heap.size w W2 by rw [hW2]; exact below_alloc (below_then HB.out HB.out.size hb1) _)
  rw [← hW2]
  clear hW2 hb1 HX HB HC5 HC9
  obtain ⟨x0, x1, x2, x3, x4, x5, x6, x7, x8, x9, _⟩ := cells10 HX2.out
  obtain ⟨s0, s1, s2, s3, s4, s5, _⟩ := cells6 HS2.out
  cases t7 with
  | false =>
    rw [if_neg (by decide)] at h
    injection h with h
    subst h
    repeat (go_quiet (fail); try go_wp2)
    go_ret
    exact ⟨rfl, pw_below_drewN HB2.out nq⟩
  | true =>
    rw [if_pos rfl] at h
    obtain ⟨t, h2, h⟩ := Option.bind_eq_some_iff.mp h
    obtain ⟨⟨q1, q2, q3, q4, q5, q6, q7, q8, q9, q10⟩, h3, h⟩ := Option.bind_eq_some_iff.mp h
    obtain ⟨b, h4, h⟩ := Option.bind_eq_some_iff.mp h
    dsimp only at h2 h3 h4 h
    have H2 := Aside0.mk (fun W hx hy => cmd_texts.calls k a0_0 a0_1 a0_2 a0_3 a0_4 A0_5 c0_5 l0_5 a0_6 a0_7 a0_8 A0_9 c0_9 l0_9 t1 t W hx HR.out.1.2 hy HR.out.2.2 h2)
    have H3 := Aside0.mk (fun A c W hx hy => cmd_fill.calls t1 t2 t3 t4 t5 t6 A c t q1 q2 q3 q4 q5 q6 q7 q8 q9 q10 W hx hy h3)
    have H4 := Aside0.mk (fun A5 c5 A9 c9 W e1 e2 e3 e4 e5 e6 => cmd_Same.calls k q1 q2 q3 q4 q5 A5 c5 q6 q7 q8 q9 A9 c9 q10 a0_0 a0_1 a0_2 a0_3 a0_4 A0_5 c0_5 l0_5 a0_6 a0_7 a0_8 A0_9 c0_9 l0_9 b W e1 e2 e3 e4 e5 HR.out.1.2 e6 HR.out.2.2 h4)
    have HF := Aside0.mk h
    clear h2 h3 h4 h
    go_region_held3 (fun w' => w'.cell? ⟨w.heap.size, 0, none⟩ = some (.int .i64 a0_0) ∧ w'.cell? ⟨w.heap.size, 1, none⟩ = some (.string a0_1) ∧ w'.cell? ⟨w.heap.size, 2, none⟩ = some (.string a0_2) ∧ w'.cell? ⟨w.heap.size, 3, none⟩ = some (.int .i64 a0_3) ∧ w'.cell? ⟨w.heap.size, 4, none⟩ = some (.string a0_4) ∧ w'.cell? ⟨w.heap.size, 5, none⟩ = some (.slice A0_5 l0_5.length c0_5) ∧ w'.cell? ⟨w.heap.size, 6, none⟩ = some (.int .i64 a0_6) ∧ w'.cell? ⟨w.heap.size, 7, none⟩ = some (.string a0_7) ∧ w'.cell? ⟨w.heap.size, 8, none⟩ = some (.string a0_8) ∧ w'.cell? ⟨w.heap.size, 9, none⟩ = some (.slice A0_9 l0_9.length c0_9) ∧ w'.cell? ⟨w1.heap.size, 0, none⟩ = some (.string t1) ∧ w'.cell? ⟨w1.heap.size, 1, none⟩ = some (.int .i64 t2) ∧ w'.cell? ⟨w1.heap.size, 2, none⟩ = some (.int .i64 t3) ∧ w'.cell? ⟨w1.heap.size, 3, none⟩ = some (.int .i64 t4) ∧ w'.cell? ⟨w1.heap.size, 4, none⟩ = some (.int .i64 t5) ∧ w'.cell? ⟨w1.heap.size, 5, none⟩ = some (.bool t6)) (exact ⟨x0, x1, x2, x3, x4, x5, x6, x7, x8, x9, s0, s1, s2, s3, s4, s5⟩) (first | (go_at_call 61; refine (H2.out _ (Kd.C_drew (Kd.C_below HR.out.1.1 HB2.out)) (Kd.C_drew (Kd.C_below HR.out.2.1 HB2.out))).mono ?_; rintro e_ w3 ⟨v3, rfl, hR3, hb3⟩; obtain ⟨A3, c3, rfl⟩ := Kd.R_slice hR3; have HR3 := Aside0.mk hR3; have HX3 := Aside0.mk (blk_below (blk_drew HX2.out) hb3); have HS3 := Aside0.mk (blk_below (blk_drew HS2.out) hb3); have HB3 := Aside0.mk (below_then (below_drew HB2.out) (below_drew HB2.out).size hb3); clear hR3 hb3; clear x0 x1 x2 x3 x4 x5 x6 x7 x8 x9 s0 s1 s2 s3 s4 s5; obtain ⟨x0, x1, x2, x3, x4, x5, x6, x7, x8, x9, _⟩ := cells10 HX3.out; obtain ⟨s0, s1, s2, s3, s4, s5, _⟩ := cells6 HS3.out) | (go_at_call 66; refine (H3.out A3 c3 _ (Kd.R_reads' HR3.out).2.2 (Kd.R_reads' HR3.out).2.1).mono ?_; rintro e_ w4 ⟨v5, v9, rfl, hR5, hR9, hb4⟩; obtain ⟨A5, c5, rfl⟩ := Kd.R_slice hR5; obtain ⟨A9, c9, rfl⟩ := Kd.R_slice hR9; have HR5 := Aside0.mk hR5; have HR9 := Aside0.mk hR9; have HX4 := Aside0.mk (blk_below HX3.out hb4); have HS4 := Aside0.mk (blk_below HS3.out hb4); have HB4 := Aside0.mk (below_then HB3.out HB3.out.size hb4); clear hR5 hR9 hb4; clear x0 x1 x2 x3 x4 x5 x6 x7 x8 x9 s0 s1 s2 s3 s4 s5; obtain ⟨x0, x1, x2, x3, x4, x5, x6, x7, x8, x9, _⟩ := cells10 HX4.out; obtain ⟨s0, s1, s2, s3, s4, s5, _⟩ := cells6 HS4.out) | (go_at_call 19; refine (H4.out A5 c5 A9 c9 _ (Kd.R_reads' HR5.out).2.2 (Kd.R_reads' HR5.out).2.1 (Kd.R_reads' HR9.out).2.2 (Kd.R_reads' HR9.out).2.1 (Kd.C_below HR.out.1.1 HB4.out) (Kd.C_below HR.out.2.1 HB4.out)).mono ?_; rintro e_ w5 ⟨rfl, hb5⟩; have HX5 := Aside0.mk (blk_below HX4.out hb5); have HS5 := Aside0.mk (blk_below HS4.out hb5); have HB5 := Aside0.mk (below_then HB4.out HB4.out.size hb5); clear hb5; clear x0 x1 x2 x3 x4 x5 x6 x7 x8 x9 s0 s1 s2 s3 s4 s5; obtain ⟨x0, x1, x2, x3, x4, x5, x6, x7, x8, x9, _⟩ := cells10 HX5.out; obtain ⟨s0, s1, s2, s3, s4, s5, _⟩ := cells6 HS5.out))
    have h := HF.out
    clear HF
    cases b
    all_goals
      injection h with h
      subst h
      go_wp2
      go_ret
      exact ⟨rfl, HB5.out⟩
end Go.Proofs.YtloibeefopdhpaaDoor.G
