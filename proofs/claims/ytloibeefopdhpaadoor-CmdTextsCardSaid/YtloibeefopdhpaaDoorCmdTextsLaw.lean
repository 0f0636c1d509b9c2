/- CmdTexts: the walk of the law. -/
import Derived.Test.YtloibeefopdhpaaDoorCells
import Derived.Test.YtloibeefopdhpaaDoorCmdParse
import Derived.Test.YtloibeefopdhpaaDoorCmdCheck
import Derived.Test.YtloibeefopdhpaaDoorG14
import Derived.Test.YtloibeefopdhpaaDoorG15
import Derived.Test.YtloibeefopdhpaaDoorG17
import Derived.Test.YtloibeefopdhpaaDoorG19
import Derived.Test.YtloibeefopdhpaaDoorG9
import Derived.Test.YtloibeefopdhpaaDoorG3
import Derived.Test.YtloibeefopdhpaaDoorG8
import Derived.Test.YtloibeefopdhpaaDoorG13
import Derived.Deep.RegionHeld3
import Derived.Outline
set_option linter.unusedVariables false
namespace Go.Proofs.YtloibeefopdhpaaDoor.G
open Go.RowKit Go.Proofs.YtloibeefopdhpaaDoorW.PrintWords Go.Proofs.YtloibeefopdhpaaDoorW.PrintLast Go.Proofs.YtloibeefopdhpaaDoorW.PrintMore

def rafterlaw35_CmdTexts.f (k : Nat) (a0_0 : Int) (a0_1 : ByteArray) (a0_2 : ByteArray) (a0_3 : Int) (a0_4 : ByteArray) (l0_5 : List ByteArray) (a0_6 : Int) (a0_7 : ByteArray) (a0_8 : ByteArray) (l0_9 : List ByteArray) (a1_0 : Int) (a1_1 : ByteArray) (a1_2 : ByteArray) (a1_3 : Int) (a1_4 : ByteArray) (l1_5 : List ByteArray) (a1_6 : Int) (a1_7 : ByteArray) (a1_8 : ByteArray) (l1_9 : List ByteArray) : Option Bool :=
  (rafterlaw35_Light.f k [(⟨a0_0, a0_1, a0_2, ⟨a0_3, a0_4, l0_5, ⟨a0_6, a0_7, a0_8, l0_9⟩⟩⟩ : S34), (⟨a1_0, a1_1, a1_2, ⟨a1_3, a1_4, l1_5, ⟨a1_6, a1_7, a1_8, l1_9⟩⟩⟩ : S34)]).bind fun t => if t = true then (rafterref35_Line.f k a0_0 a0_1 a0_2 a0_3 a0_4 l0_5 a0_6 a0_7 a0_8 l0_9).bind fun L => (cmd_Text.f k a0_0 a0_1 a0_2 a0_3 a0_4 l0_5 a0_6 a0_7 a0_8 l0_9).bind fun T => (cmd_Same.f k a0_0 a0_1 a0_2 a0_3 a0_4 l0_5 a0_6 a0_7 a0_8 l0_9 a1_0 a1_1 a1_2 a1_3 a1_4 l1_5 a1_6 a1_7 a1_8 l1_9).bind fun s1 => (rafterref35_Same.f k a0_0 a0_1 a0_2 a0_3 a0_4 l0_5 a0_6 a0_7 a0_8 l0_9 a1_0 a1_1 a1_2 a1_3 a1_4 l1_5 a1_6 a1_7 a1_8 l1_9).bind fun s2 => (cmd_Check.f k a0_0 a0_1 a0_2 a0_3 a0_4 l0_5 a0_6 a0_7 a0_8 l0_9).bind fun c =>
    if s1 = s2 ∧ (c == 0) = decide ((L.length : Int) > 0) then
      if L.length = 0 then (rafterlaw35_awake.f k).bind fun a => if a = true ∧ T.1.toList = [] ∧ T.2 = 2 ∧ c = 2 then some true else none
      else (cmd_Parse.f k T.1).bind fun z => (rafterlaw35_awake.f k).bind fun a => (rafterref35_Text.f k L).bind fun R => (rafterref35_Same.f k z.1 z.2.1 z.2.2.1 z.2.2.2.1 z.2.2.2.2.1 z.2.2.2.2.2.1 z.2.2.2.2.2.2.1 z.2.2.2.2.2.2.2.1 z.2.2.2.2.2.2.2.2.1 z.2.2.2.2.2.2.2.2.2.1 a0_0 a0_1 a0_2 a0_3 a0_4 l0_5 a0_6 a0_7 a0_8 l0_9).bind fun s3 => (cmd_Verb.f a0_0 a0_1 a0_2 a0_3 a0_4 l0_5 a0_6 a0_7 a0_8 l0_9).bind fun v => if a = true ∧ T.2 = 0 ∧ T.1.toList = R.toList ∧ z.2.2.2.2.2.2.2.2.2.2 = 0 ∧ s3 = true ∧ v.toList = (rdOf ByteArray.empty L 0).toList then some true else none
    else none
  else rafterlaw35_awake.f k
theorem two_steps {W : World} {g : Nat} {x y : S34} {cs ds : List Value} (hb : W.heap[g]? = some (.cells (cs ++ ds).toArray 34 (0, 0))) (hK : k34.K W x cs) (hL : k34.K W y ds) : k34.C W (some ⟨g, 0, none⟩) 2 [x, y] := by
  refine ⟨rfl, by simp, fun _ => ⟨_, rfl, fun j p hj => ?_⟩⟩
  have hjl := (List.getElem?_eq_some_iff.1 hj).1
  simp only [List.length_cons, List.length_nil] at hjl
  rcases (show j = 0 ∨ j = 1 by omega) with rfl | rfl
  · injection hj with hj
    subst hj
    refine ⟨cs, Kd.K_len _ hK, hK, fun i u hu => ?_⟩
    have hi := (List.getElem?_eq_some_iff.1 hu).1
    rw [Nat.zero_mul, Nat.zero_add, add_plain, blk_cell hb]
    simpa [List.getElem?_append_left hi] using hu
  · injection hj with hj
    subst hj
    refine ⟨ds, Kd.K_len _ hL, hL, fun i u hu => ?_⟩
    rw [Nat.one_mul, add_plain, blk_cell hb]
    have h1 := Kd.K_len _ hK
    simpa [List.getElem?_append_right (show cs.length ≤ k34.sz + i by omega), h1] using hu

set_option maxHeartbeats 8000000 in
set_option maxRecDepth 100000 in
theorem rafterlaw35_CmdTexts.calls (k : Nat) (a0_0 : Int) (a0_1 : ByteArray) (a0_2 : ByteArray) (a0_3 : Int) (a0_4 : ByteArray) (A0_5 : Option Addr) (c0_5 : Nat) (l0_5 : List ByteArray) (a0_6 : Int) (a0_7 : ByteArray) (a0_8 : ByteArray) (A0_9 : Option Addr) (c0_9 : Nat) (l0_9 : List ByteArray) (a1_0 : Int) (a1_1 : ByteArray) (a1_2 : ByteArray) (a1_3 : Int) (a1_4 : ByteArray) (A1_5 : Option Addr) (c1_5 : Nat) (l1_5 : List ByteArray) (a1_6 : Int) (a1_7 : ByteArray) (a1_8 : ByteArray) (A1_9 : Option Addr) (c1_9 : Nat) (l1_9 : List ByteArray) (r : Bool) (w : World) (hr0_5 : Kd.C Kd.string w A0_5 l0_5.length l0_5) (hc0_5 : l0_5.length ≤ c0_5) (hr0_9 : Kd.C Kd.string w A0_9 l0_9.length l0_9) (hc0_9 : l0_9.length ≤ c0_9) (hr1_5 : Kd.C Kd.string w A1_5 l1_5.length l1_5) (hc1_5 : l1_5.length ≤ c1_5) (hr1_9 : Kd.C Kd.string w A1_9 l1_9.length l1_9) (hc1_9 : l1_9.length ≤ c1_9) (h : rafterlaw35_CmdTexts.f k a0_0 a0_1 a0_2 a0_3 a0_4 l0_5 a0_6 a0_7 a0_8 l0_9 a1_0 a1_1 a1_2 a1_3 a1_4 l1_5 a1_6 a1_7 a1_8 l1_9 = some r) :
    Calls Tryd.prog 4 #[.agg #[.int .i64 a0_0, .string a0_1, .string a0_2, .int .i64 a0_3, .string a0_4, .slice A0_5 l0_5.length c0_5, .int .i64 a0_6, .string a0_7, .string a0_8, .slice A0_9 l0_9.length c0_9], .agg #[.int .i64 a1_0, .string a1_1, .string a1_2, .int .i64 a1_3, .string a1_4, .slice A1_5 l1_5.length c1_5, .int .i64 a1_6, .string a1_7, .string a1_8, .slice A1_9 l1_9.length c1_9]] w fun e w' => e = .returned (.bool r) ∧ Below w.heap.size w w' := by
  obtain ⟨t, h1, h⟩ := Option.bind_eq_some_iff.mp h
  have HR0 := Aside0.mk (And.intro (And.intro hr0_5 hc0_5) (And.intro hr0_9 hc0_9))
  have HR1 := Aside0.mk (And.intro (And.intro hr1_5 hc1_5) (And.intro hr1_9 hc1_9))
  clear hr0_5 hc0_5 hr0_9 hc0_9 hr1_5 hc1_5 hr1_9 hc1_9
  have H1 := Aside0.mk (fun A c W hx hy => rafterlaw35_Light.calls k A c [(⟨a0_0, a0_1, a0_2, ⟨a0_3, a0_4, l0_5, ⟨a0_6, a0_7, a0_8, l0_9⟩⟩⟩ : S34), (⟨a1_0, a1_1, a1_2, ⟨a1_3, a1_4, l1_5, ⟨a1_6, a1_7, a1_8, l1_9⟩⟩⟩ : S34)] t W hx hy h1)
  clear h1
  go_enter Tryd.func4, Tryd.ntmps4
  go_wp2_with (fail)
  obtain ⟨W0, hW0⟩ : ∃ W0, W0 = (((w.alloc (.cells #[.int .i64 a0_0, .string a0_1, .string a0_2, .int .i64 a0_3, .string a0_4, .slice A0_5 l0_5.length c0_5, .int .i64 a0_6, .string a0_7, .string a0_8, .slice A0_9 l0_9.length c0_9] 34)).alloc (.cells #[.int .i64 a1_0, .string a1_1, .string a1_2, .int .i64 a1_3, .string a1_4, .slice A1_5 l1_5.length c1_5, .int .i64 a1_6, .string a1_7, .string a1_8, .slice A1_9 l1_9.length c1_9] 34)).alloc (.cells #[.int .i64 a0_0, .string a0_1, .string a0_2, .int .i64 a0_3, .string a0_4, .slice A0_5 l0_5.length c0_5, .int .i64 a0_6, .string a0_7, .string a0_8, .slice A0_9 l0_9.length c0_9, .int .i64 a1_0, .string a1_1, .string a1_2, .int .i64 a1_3, .string a1_4, .slice A1_5 l1_5.length c1_5, .int .i64 a1_6, .string a1_7, .string a1_8, .slice A1_9 l1_9.length c1_9] 34)) := ⟨_, rfl⟩
  have HX0 : Aside0 (W0.heap[w.heap.size]? = some (.cells #[.int .i64 a0_0, .string a0_1, .string a0_2, .int .i64 a0_3, .string a0_4, .slice A0_5 l0_5.length c0_5, .int .i64 a0_6, .string a0_7, .string a0_8, .slice A0_9 l0_9.length c0_9] 34 (0, 0))) := ⟨by rw [hW0]; exact blk_alloc (blk_alloc (heap_alloc_new w _) _) _⟩
  have HY0 : Aside0 (W0.heap[w.heap.size + 1]? = some (.cells #[.int .i64 a1_0, .string a1_1, .string a1_2, .int .i64 a1_3, .string a1_4, .slice A1_5 l1_5.length c1_5, .int .i64 a1_6, .string a1_7, .string a1_8, .slice A1_9 l1_9.length c1_9] 34 (0, 0))) := ⟨by
    rw [hW0]
    refine blk_alloc ?_ _
    simpa using heap_alloc_new (w.alloc (.cells #[.int .i64 a0_0, .string a0_1, .string a0_2, .int .i64 a0_3, .string a0_4, .slice A0_5 l0_5.length c0_5, .int .i64 a0_6, .string a0_7, .string a0_8, .slice A0_9 l0_9.length c0_9] 34)) (.cells #[.int .i64 a1_0, .string a1_1, .string a1_2, .int .i64 a1_3, .string a1_4, .slice A1_5 l1_5.length c1_5, .int .i64 a1_6, .string a1_7, .string a1_8, .slice A1_9 l1_9.length c1_9] 34)⟩
  have HA0 : Aside0 (W0.heap[w.heap.size + 1 + 1]? = some (.cells ([.int .i64 a0_0, .string a0_1, .string a0_2, .int .i64 a0_3, .string a0_4, .slice A0_5 l0_5.length c0_5, .int .i64 a0_6, .string a0_7, .string a0_8, .slice A0_9 l0_9.length c0_9] ++ [.int .i64 a1_0, .string a1_1, .string a1_2, .int .i64 a1_3, .string a1_4, .slice A1_5 l1_5.length c1_5, .int .i64 a1_6, .string a1_7, .string a1_8, .slice A1_9 l1_9.length c1_9] : List Value).toArray 34 (0, 0))) := ⟨by
    rw [hW0]
    simpa using heap_alloc_new ((w.alloc (.cells #[.int .i64 a0_0, .string a0_1, .string a0_2, .int .i64 a0_3, .string a0_4, .slice A0_5 l0_5.length c0_5, .int .i64 a0_6, .string a0_7, .string a0_8, .slice A0_9 l0_9.length c0_9] 34)).alloc (.cells #[.int .i64 a1_0, .string a1_1, .string a1_2, .int .i64 a1_3, .string a1_4, .slice A1_5 l1_5.length c1_5, .int .i64 a1_6, .string a1_7, .string a1_8, .slice A1_9 l1_9.length c1_9] 34)) (.cells #[.int .i64 a0_0, .string a0_1, .string a0_2, .int .i64 a0_3, .string a0_4, .slice A0_5 l0_5.length c0_5, .int .i64 a0_6, .string a0_7, .string a0_8, .slice A0_9 l0_9.length c0_9, .int .i64 a1_0, .string a1_1, .string a1_2, .int .i64 a1_3, .string a1_4, .slice A1_5 l1_5.length c1_5, .int .i64 a1_6, .string a1_7, .string a1_8, .slice A1_9 l1_9.length c1_9] 34)⟩
  have HB0 : Aside0 (Below w.heap.size w W0) := ⟨by rw [hW0]; exact below_alloc (below_alloc (below_alloc (Below.refl _ _) _) _) _⟩
  rw [← hW0]
  clear hW0
  refine (H1.out _ 2 W0 (two_steps HA0.out (k34_mk W0 (⟨a0_0, a0_1, a0_2, ⟨a0_3, a0_4, l0_5, ⟨a0_6, a0_7, a0_8, l0_9⟩⟩⟩ : S34) HR0.out.1.2 (Kd.C_below HR0.out.1.1 HB0.out) HR0.out.2.2 (Kd.C_below HR0.out.2.1 HB0.out)) (k34_mk W0 (⟨a1_0, a1_1, a1_2, ⟨a1_3, a1_4, l1_5, ⟨a1_6, a1_7, a1_8, l1_9⟩⟩⟩ : S34) HR1.out.1.2 (Kd.C_below HR1.out.1.1 HB0.out) HR1.out.2.2 (Kd.C_below HR1.out.2.1 HB0.out))) (Nat.le_refl 2)).mono ?_
  rintro e_ w1 ⟨rfl, hb⟩
  have HX1 := Aside0.mk (blk_below HX0.out hb)
  have HY1 := Aside0.mk (blk_below HY0.out hb)
  have HB1 := Aside0.mk (below_then HB0.out HB0.out.size hb)
  clear hb HX0 HY0 HA0 HB0 H1
  obtain ⟨x0, x1, x2, x3, x4, x5, x6, x7, x8, x9, _⟩ := cells10 HX1.out
  obtain ⟨y0, y1, y2, y3, y4, y5, y6, y7, y8, y9, _⟩ := cells10 HY1.out
  cases t with
  | false =>
    rw [if_neg (by decide)] at h
    have H2 := Aside0.mk (fun W => rafterlaw35_awake.calls k r W h)
    go_wp2_with (fail)
    refine (H2.out _).mono ?_
    rintro e_ w2 ⟨rfl, hb⟩
    go_wp2_with (fail)
    go_ret
    exact ⟨rfl, below_then HB1.out HB1.out.size hb⟩
  | true =>
    rw [if_pos rfl] at h
    obtain ⟨l, h2, g⟩ := Option.bind_eq_some_iff.mp h
    clear h
    obtain ⟨⟨s, e⟩, h3, h⟩ := Option.bind_eq_some_iff.mp g
    clear g
    obtain ⟨s1, h4, g⟩ := Option.bind_eq_some_iff.mp h
    clear h
    obtain ⟨s2, h5, h⟩ := Option.bind_eq_some_iff.mp g
    clear g
    obtain ⟨c, h6, g⟩ := Option.bind_eq_some_iff.mp h
    clear h
    have h := g
    clear g
    dsimp only at h2 h3 h4 h5 h6 h
    by_cases hq : s1 = s2 ∧ (c == 0) = decide ((l.length : Int) > 0)
    case neg => rw [if_neg hq] at h; cases h
    rw [if_pos hq] at h
    obtain ⟨rfl, hq⟩ := hq
    have hne : (s1 != s1) = false := by simp
    have H2 := Aside0.mk (fun W e1 e2 e3 e4 => rafterref35_Line.calls k a0_0 a0_1 a0_2 a0_3 a0_4 A0_5 c0_5 l0_5 a0_6 a0_7 a0_8 A0_9 c0_9 l0_9 l W e1 e2 e3 e4 h2)
    have H3 := Aside0.mk (fun W e1 e2 e3 e4 => cmd_Text.calls k a0_0 a0_1 a0_2 a0_3 a0_4 A0_5 c0_5 l0_5 a0_6 a0_7 a0_8 A0_9 c0_9 l0_9 s e W e1 e2 e3 e4 h3)
    have H4 := Aside0.mk (fun W e1 e2 e3 e4 e5 e6 e7 e8 => cmd_Same.calls k a0_0 a0_1 a0_2 a0_3 a0_4 A0_5 c0_5 l0_5 a0_6 a0_7 a0_8 A0_9 c0_9 l0_9 a1_0 a1_1 a1_2 a1_3 a1_4 A1_5 c1_5 l1_5 a1_6 a1_7 a1_8 A1_9 c1_9 l1_9 s1 W e1 e2 e3 e4 e5 e6 e7 e8 h4)
    have H5 := Aside0.mk (fun W e1 e2 e3 e4 e5 e6 e7 e8 => rafterref35_Same.calls k a0_0 a0_1 a0_2 a0_3 a0_4 A0_5 c0_5 l0_5 a0_6 a0_7 a0_8 A0_9 c0_9 l0_9 a1_0 a1_1 a1_2 a1_3 a1_4 A1_5 c1_5 l1_5 a1_6 a1_7 a1_8 A1_9 c1_9 l1_9 s1 W e1 e2 e3 e4 e5 e6 e7 e8 h5)
    have H6 := Aside0.mk (fun W e1 e2 e3 e4 => cmd_Check.calls k a0_0 a0_1 a0_2 a0_3 a0_4 A0_5 c0_5 l0_5 a0_6 a0_7 a0_8 A0_9 c0_9 l0_9 c W e1 e2 e3 e4 h6)
    have HF := Aside0.mk h
    have HQ := Aside0.mk hq
    clear h2 h3 h4 h5 h6 h hq
    go_wp2_with (fail)
    refine (H2.out _ (Kd.C_below HR0.out.1.1 HB1.out) HR0.out.1.2 (Kd.C_below HR0.out.2.1 HB1.out) HR0.out.2.2).mono ?_
    rintro e_ w2 ⟨vL, rfl, hR, hb⟩
    obtain ⟨AL, cL, rfl⟩ := Kd.R_slice hR
    have HL2 := Aside0.mk (Kd.R_reads' hR).2
    have HX2 := Aside0.mk (blk_below HX1.out hb)
    have HY2 := Aside0.mk (blk_below HY1.out hb)
    have HB2 := Aside0.mk (below_then HB1.out HB1.out.size hb)
    clear x0 x1 x2 x3 x4 x5 x6 x7 x8 x9 y0 y1 y2 y3 y4 y5 y6 y7 y8 y9
    obtain ⟨x0, x1, x2, x3, x4, x5, x6, x7, x8, x9, _⟩ := cells10 HX2.out
    obtain ⟨y0, y1, y2, y3, y4, y5, y6, y7, y8, y9, _⟩ := cells10 HY2.out
    clear hR hb HX1 HY1 HB1 H2
    go_wp2_with (fail)
    refine (H3.out _ (Kd.C_below HR0.out.1.1 HB2.out) HR0.out.1.2 (Kd.C_below HR0.out.2.1 HB2.out) HR0.out.2.2).mono ?_
    rintro e_ w3 ⟨rfl, hb⟩
    have HL3 := Aside0.mk (And.intro HL2.out.1 (Kd.C_below HL2.out.2 hb))
    have HX3 := Aside0.mk (blk_below HX2.out hb)
    have HY3 := Aside0.mk (blk_below HY2.out hb)
    have HB3 := Aside0.mk (below_then HB2.out HB2.out.size hb)
    clear x0 x1 x2 x3 x4 x5 x6 x7 x8 x9 y0 y1 y2 y3 y4 y5 y6 y7 y8 y9
    obtain ⟨x0, x1, x2, x3, x4, x5, x6, x7, x8, x9, _⟩ := cells10 HX3.out
    obtain ⟨y0, y1, y2, y3, y4, y5, y6, y7, y8, y9, _⟩ := cells10 HY3.out
    clear hb HX2 HY2 HB2 HL2 H3
    go_upto_region 5 with (fail)
    go_region_held3 (fun w' => w'.cell? ⟨w.heap.size, 0, none⟩ = some (.int .i64 a0_0) ∧ w'.cell? ⟨w.heap.size, 1, none⟩ = some (.string a0_1) ∧ w'.cell? ⟨w.heap.size, 2, none⟩ = some (.string a0_2) ∧ w'.cell? ⟨w.heap.size, 3, none⟩ = some (.int .i64 a0_3) ∧ w'.cell? ⟨w.heap.size, 4, none⟩ = some (.string a0_4) ∧ w'.cell? ⟨w.heap.size, 5, none⟩ = some (.slice A0_5 l0_5.length c0_5) ∧ w'.cell? ⟨w.heap.size, 6, none⟩ = some (.int .i64 a0_6) ∧ w'.cell? ⟨w.heap.size, 7, none⟩ = some (.string a0_7) ∧ w'.cell? ⟨w.heap.size, 8, none⟩ = some (.string a0_8) ∧ w'.cell? ⟨w.heap.size, 9, none⟩ = some (.slice A0_9 l0_9.length c0_9) ∧ w'.cell? ⟨w.heap.size + 1, 0, none⟩ = some (.int .i64 a1_0) ∧ w'.cell? ⟨w.heap.size + 1, 1, none⟩ = some (.string a1_1) ∧ w'.cell? ⟨w.heap.size + 1, 2, none⟩ = some (.string a1_2) ∧ w'.cell? ⟨w.heap.size + 1, 3, none⟩ = some (.int .i64 a1_3) ∧ w'.cell? ⟨w.heap.size + 1, 4, none⟩ = some (.string a1_4) ∧ w'.cell? ⟨w.heap.size + 1, 5, none⟩ = some (.slice A1_5 l1_5.length c1_5) ∧ w'.cell? ⟨w.heap.size + 1, 6, none⟩ = some (.int .i64 a1_6) ∧ w'.cell? ⟨w.heap.size + 1, 7, none⟩ = some (.string a1_7) ∧ w'.cell? ⟨w.heap.size + 1, 8, none⟩ = some (.string a1_8) ∧ w'.cell? ⟨w.heap.size + 1, 9, none⟩ = some (.slice A1_9 l1_9.length c1_9)) (exact ⟨x0, x1, x2, x3, x4, x5, x6, x7, x8, x9, y0, y1, y2, y3, y4, y5, y6, y7, y8, y9⟩) (first | (go_at_call 19; refine (H4.out _ (Kd.C_drew (Kd.C_below HR0.out.1.1 HB3.out)) HR0.out.1.2 (Kd.C_drew (Kd.C_below HR0.out.2.1 HB3.out)) HR0.out.2.2 (Kd.C_drew (Kd.C_below HR1.out.1.1 HB3.out)) HR1.out.1.2 (Kd.C_drew (Kd.C_below HR1.out.2.1 HB3.out)) HR1.out.2.2).mono ?_; rintro e_ w4 ⟨rfl, hb⟩; have HX4 := Aside0.mk (blk_below (blk_drew HX3.out) hb); have HY4 := Aside0.mk (blk_below (blk_drew HY3.out) hb); have HB4 := Aside0.mk (below_then (below_drew HB3.out) (below_drew HB3.out).size hb); have HL4 := Aside0.mk (And.intro HL3.out.1 (Kd.C_below (Kd.C_drew HL3.out.2) hb)); clear x0 x1 x2 x3 x4 x5 x6 x7 x8 x9 y0 y1 y2 y3 y4 y5 y6 y7 y8 y9; obtain ⟨x0, x1, x2, x3, x4, x5, x6, x7, x8, x9, _⟩ := cells10 HX4.out; obtain ⟨y0, y1, y2, y3, y4, y5, y6, y7, y8, y9, _⟩ := cells10 HY4.out; clear hb) | (go_at_call 20; refine (H5.out _ (Kd.C_below HR0.out.1.1 HB4.out) HR0.out.1.2 (Kd.C_below HR0.out.2.1 HB4.out) HR0.out.2.2 (Kd.C_below HR1.out.1.1 HB4.out) HR1.out.1.2 (Kd.C_below HR1.out.2.1 HB4.out) HR1.out.2.2).mono ?_; rintro e_ w5 ⟨rfl, hb⟩; have HX5 := Aside0.mk (blk_below HX4.out hb); have HY5 := Aside0.mk (blk_below HY4.out hb); have HB5 := Aside0.mk (below_then HB4.out HB4.out.size hb); have HL5 := Aside0.mk (And.intro HL4.out.1 (Kd.C_below HL4.out.2 hb)); clear x0 x1 x2 x3 x4 x5 x6 x7 x8 x9 y0 y1 y2 y3 y4 y5 y6 y7 y8 y9; obtain ⟨x0, x1, x2, x3, x4, x5, x6, x7, x8, x9, _⟩ := cells10 HX5.out; obtain ⟨y0, y1, y2, y3, y4, y5, y6, y7, y8, y9, _⟩ := cells10 HY5.out; clear hb) | (go_at_call 21; refine (H6.out _ (Kd.C_below HR0.out.1.1 HB5.out) HR0.out.1.2 (Kd.C_below HR0.out.2.1 HB5.out) HR0.out.2.2).mono ?_; rintro e_ w6 ⟨rfl, hb⟩; have HX6 := Aside0.mk (blk_below HX5.out hb); have HY6 := Aside0.mk (blk_below HY5.out hb); have HB6 := Aside0.mk (below_then HB5.out HB5.out.size hb); have HL6 := Aside0.mk (And.intro HL5.out.1 (Kd.C_below HL5.out.2 hb)); clear x0 x1 x2 x3 x4 x5 x6 x7 x8 x9 y0 y1 y2 y3 y4 y5 y6 y7 y8 y9; obtain ⟨x0, x1, x2, x3, x4, x5, x6, x7, x8, x9, _⟩ := cells10 HX6.out; obtain ⟨y0, y1, y2, y3, y4, y5, y6, y7, y8, y9, _⟩ := cells10 HY6.out; clear hb))
    clear HX3 HY3 HB3 HL3 HX4 HY4 HB4 HL4 HX5 HY5 HB5 HL5 HY6 H4 H5 y0 y1 y2 y3 y4 y5 y6 y7 y8 y9
    by_cases hl0 : l.length = 0
    · have h := HF.out
      rw [if_pos hl0] at h
      obtain ⟨a, h7, g⟩ := Option.bind_eq_some_iff.mp h
      clear h
      have h := g
      clear g
      by_cases hk : a = true ∧ s.toList = [] ∧ e = 2 ∧ c = 2
      case neg => rw [if_neg hk] at h; cases h
      rw [if_pos hk] at h
      obtain ⟨rfl, hs, rfl, rfl⟩ := hk
      injection h with h
      subst h
      have H7 := Aside0.mk (fun W => rafterlaw35_awake.calls k true W h7)
      have hs1 : (s.toList == []) = true := by rw [hs]; rfl
      have hl1 : ((l.length : Int) == 0) = true := by rw [hl0]; rfl
      have hl2 : (0 < l.length) = False := eq_false (by omega)
      have hb2 : (!(((2 : Int) == 0) == decide (0 < l.length))) = false := by rw [show decide (0 < l.length) = false from decide_eq_false (by omega)]; rfl
      rw [hb2]
      clear HF HQ h7 hs hb2
      go_wp2_with (fail)
      refine (H7.out _).mono ?_
      rintro e_ w7 ⟨rfl, hb⟩
      have HX7 := Aside0.mk (blk_below HX6.out hb)
      have HB7 := Aside0.mk (below_then HB6.out HB6.out.size hb)
      clear x0 x1 x2 x3 x4 x5 x6 x7 x8 x9
      obtain ⟨x0, x1, x2, x3, x4, x5, x6, x7, x8, x9, _⟩ := cells10 HX7.out
      clear hb
      go_wp2_with (fail)
      refine (H6.out _ (Kd.C_below HR0.out.1.1 HB7.out) HR0.out.1.2 (Kd.C_below HR0.out.2.1 HB7.out) HR0.out.2.2).mono ?_
      rintro e_ w8 ⟨rfl, hb⟩
      go_wp2_with (fail)
      go_ret
      exact ⟨by rfl, below_then HB7.out HB7.out.size hb⟩
    · have h := HF.out
      rw [if_neg hl0] at h
      obtain ⟨⟨z0, z1, z2, z3, z4, z5, z6, z7, z8, z9, z10⟩, h7, g⟩ := Option.bind_eq_some_iff.mp h
      clear h
      obtain ⟨a, h8, h⟩ := Option.bind_eq_some_iff.mp g
      clear g
      obtain ⟨rt, h9, g⟩ := Option.bind_eq_some_iff.mp h
      clear h
      obtain ⟨s3, h10, h⟩ := Option.bind_eq_some_iff.mp g
      clear g
      obtain ⟨v, h11, g⟩ := Option.bind_eq_some_iff.mp h
      clear h
      have h := g
      clear g
      dsimp only at h7 h8 h9 h10 h11 h
      by_cases hk : a = true ∧ e = 0 ∧ s.toList = rt.toList ∧ z10 = 0 ∧ s3 = true ∧ v.toList = (rdOf ByteArray.empty l 0).toList
      case neg => rw [if_neg hk] at h; cases h
      rw [if_pos hk] at h
      obtain ⟨rfl, rfl, hs, rfl, rfl, hv⟩ := hk
      injection h with h
      subst h
      have hc : (c == 0) = true := by rw [HQ.out]; exact decide_eq_true (by omega)
      have hl1 : ((l.length : Int) == 0) = false := beq_eq_false_iff_ne.2 (by omega)
      have hl2 : (0 < l.length) = True := eq_true (by omega)
      have hb2 : (!((c == 0) == decide (0 < l.length))) = false := by rw [hc, show decide (0 < l.length) = true from decide_eq_true (by omega)]; rfl
      have H7 := Aside0.mk (fun W => cmd_Parse.calls k s z0 z1 z2 z3 z4 z5 z6 z7 z8 z9 0 W h7)
      have H8 := Aside0.mk (fun W => rafterlaw35_awake.calls k true W h8)
      have H9 := Aside0.mk (fun A c W e1 e2 => rafterref35_Text.calls k A c l rt W e1 e2 h9)
      have H10 := Aside0.mk (fun A5 c5 A9 c9 W e1 e2 e3 e4 e5 e6 e7 e8 => rafterref35_Same.calls k z0 z1 z2 z3 z4 A5 c5 z5 z6 z7 z8 A9 c9 z9 a0_0 a0_1 a0_2 a0_3 a0_4 A0_5 c0_5 l0_5 a0_6 a0_7 a0_8 A0_9 c0_9 l0_9 true W e1 e2 e3 e4 e5 e6 e7 e8 h10)
      have H11 := Aside0.mk (fun W e1 e2 e3 e4 => cmd_Verb.calls a0_0 a0_1 a0_2 a0_3 a0_4 A0_5 c0_5 l0_5 a0_6 a0_7 a0_8 A0_9 c0_9 l0_9 v W e1 e2 e3 e4 h11)
      have HV := Aside0.mk (And.intro hs hv)
      have HL0 := Aside0.mk hl0
      rw [hb2]
      clear HF HQ h7 h8 h9 h10 h11 H6 hs hv hl0 hb2
      go_wp2_with (fail)
      refine (H7.out _).mono ?_
      rintro e_ w7 ⟨v5, v9, rfl, hR5, hR9, hb⟩
      obtain ⟨B5, d5, rfl⟩ := Kd.R_slice hR5
      obtain ⟨B9, d9, rfl⟩ := Kd.R_slice hR9
      have HR5 := Aside0.mk (Kd.R_reads' hR5).2
      have HR9 := Aside0.mk (Kd.R_reads' hR9).2
      have HX7 := Aside0.mk (blk_below HX6.out hb)
      have HB7 := Aside0.mk (below_then HB6.out HB6.out.size hb)
      have HL7 := Aside0.mk (And.intro HL6.out.1 (Kd.C_below HL6.out.2 hb))
      clear x0 x1 x2 x3 x4 x5 x6 x7 x8 x9
      obtain ⟨x0, x1, x2, x3, x4, x5, x6, x7, x8, x9, _⟩ := cells10 HX7.out
      clear hR5 hR9 hb HX6 HB6 HL6 H7
      go_upto_region 10 with (fail)
      obtain ⟨W8, hW8⟩ : ∃ W8, W8 = w7.alloc (.cells #[.int .i64 z0, .string z1, .string z2, .int .i64 z3, .string z4, .slice B5 z5.length d5, .int .i64 z6, .string z7, .string z8, .slice B9 z9.length d9] 34) := ⟨_, rfl⟩
      have HZ8 : Aside0 (W8.heap[w7.heap.size]? = some (.cells #[.int .i64 z0, .string z1, .string z2, .int .i64 z3, .string z4, .slice B5 z5.length d5, .int .i64 z6, .string z7, .string z8, .slice B9 z9.length d9] 34 (0, 0))) := ⟨by rw [hW8]; exact heap_alloc_new w7 _⟩
      have HX8 : Aside0 (W8.heap[w.heap.size]? = some (.cells #[.int .i64 a0_0, .string a0_1, .string a0_2, .int .i64 a0_3, .string a0_4, .slice A0_5 l0_5.length c0_5, .int .i64 a0_6, .string a0_7, .string a0_8, .slice A0_9 l0_9.length c0_9] 34 (0, 0))) := ⟨by rw [hW8]; exact blk_alloc HX7.out _⟩
      have HB8 : Aside0 (Below w.heap.size w W8) := ⟨by rw [hW8]; exact below_alloc HB7.out _⟩
      have HL8 : Aside0 (l.length ≤ cL ∧ Kd.C Kd.string W8 AL l.length l) := ⟨HL7.out.1, by rw [hW8]; exact Kd.C_alloc HL7.out.2 _⟩
      have HP8 : Aside0 ((z5.length ≤ d5 ∧ Kd.C Kd.string W8 B5 z5.length z5) ∧ (z9.length ≤ d9 ∧ Kd.C Kd.string W8 B9 z9.length z9)) := ⟨by rw [hW8]; exact ⟨⟨HR5.out.1, Kd.C_alloc HR5.out.2 _⟩, ⟨HR9.out.1, Kd.C_alloc HR9.out.2 _⟩⟩⟩
      rw [← hW8]
      obtain ⟨ad, eA, hc0⟩ := Kd.at_string HL8.out.2 0 (by decide) (by have := HL0.out; omega)
      rw [show (0 : Int).toNat = 0 from rfl, Addr.add_zero'] at hc0
      cases eA
      clear hW8 HX7 HB7 HL7 HR5 HR9 x0 x1 x2 x3 x4 x5 x6 x7 x8 x9
      obtain ⟨x0, x1, x2, x3, x4, x5, x6, x7, x8, x9, _⟩ := cells10 HX8.out
      obtain ⟨u0, u1, u2, u3, u4, u5, u6, u7, u8, u9, _⟩ := cells10 HZ8.out
      have hs1 : (s.toList == rt.toList) = true := beq_iff_eq.2 HV.out.1
      have hv1 : (v.toList == (rdOf ByteArray.empty l 0).toList) = true := beq_iff_eq.2 HV.out.2
      have hl3 : (0 < (l.length : Int)) = True := eq_true (by have := HL0.out; omega)
      go_region_held3 (fun w' => w'.cell? ⟨w.heap.size, 0, none⟩ = some (.int .i64 a0_0) ∧ w'.cell? ⟨w.heap.size, 1, none⟩ = some (.string a0_1) ∧ w'.cell? ⟨w.heap.size, 2, none⟩ = some (.string a0_2) ∧ w'.cell? ⟨w.heap.size, 3, none⟩ = some (.int .i64 a0_3) ∧ w'.cell? ⟨w.heap.size, 4, none⟩ = some (.string a0_4) ∧ w'.cell? ⟨w.heap.size, 5, none⟩ = some (.slice A0_5 l0_5.length c0_5) ∧ w'.cell? ⟨w.heap.size, 6, none⟩ = some (.int .i64 a0_6) ∧ w'.cell? ⟨w.heap.size, 7, none⟩ = some (.string a0_7) ∧ w'.cell? ⟨w.heap.size, 8, none⟩ = some (.string a0_8) ∧ w'.cell? ⟨w.heap.size, 9, none⟩ = some (.slice A0_9 l0_9.length c0_9) ∧ w'.cell? ⟨w7.heap.size, 0, none⟩ = some (.int .i64 z0) ∧ w'.cell? ⟨w7.heap.size, 1, none⟩ = some (.string z1) ∧ w'.cell? ⟨w7.heap.size, 2, none⟩ = some (.string z2) ∧ w'.cell? ⟨w7.heap.size, 3, none⟩ = some (.int .i64 z3) ∧ w'.cell? ⟨w7.heap.size, 4, none⟩ = some (.string z4) ∧ w'.cell? ⟨w7.heap.size, 5, none⟩ = some (.slice B5 z5.length d5) ∧ w'.cell? ⟨w7.heap.size, 6, none⟩ = some (.int .i64 z6) ∧ w'.cell? ⟨w7.heap.size, 7, none⟩ = some (.string z7) ∧ w'.cell? ⟨w7.heap.size, 8, none⟩ = some (.string z8) ∧ w'.cell? ⟨w7.heap.size, 9, none⟩ = some (.slice B9 z9.length d9) ∧ w'.cell? ad = some (.string (rdOf ByteArray.empty l 0))) (exact ⟨x0, x1, x2, x3, x4, x5, x6, x7, x8, x9, u0, u1, u2, u3, u4, u5, u6, u7, u8, u9, hc0⟩) (first | (go_at_call 12; refine (H8.out _).mono ?_; rintro e_ w9 ⟨rfl, hb⟩; have HX9 := Aside0.mk (blk_below (blk_drew HX8.out) hb); have HZ9 := Aside0.mk (blk_below (blk_drew HZ8.out) hb); have HB9 := Aside0.mk (below_then (below_drew HB8.out) (below_drew HB8.out).size hb); have HL9 := Aside0.mk (And.intro HL8.out.1 (Kd.C_below (Kd.C_drew HL8.out.2) hb)); have HP9 := Aside0.mk (And.intro (And.intro HP8.out.1.1 (Kd.C_below (Kd.C_drew HP8.out.1.2) hb)) (And.intro HP8.out.2.1 (Kd.C_below (Kd.C_drew HP8.out.2.2) hb))); replace hc0 := (hb.cell (World.block_lt_of_cell? _ _ hc0)).trans hc0; clear x0 x1 x2 x3 x4 x5 x6 x7 x8 x9 u0 u1 u2 u3 u4 u5 u6 u7 u8 u9; obtain ⟨x0, x1, x2, x3, x4, x5, x6, x7, x8, x9, _⟩ := cells10 HX9.out; obtain ⟨u0, u1, u2, u3, u4, u5, u6, u7, u8, u9, _⟩ := cells10 HZ9.out; clear hb) | (go_at_call 23; refine (H9.out _ _ _ HL9.out.2 HL9.out.1).mono ?_; rintro e_ w10 ⟨rfl, hb⟩; have HX10 := Aside0.mk (blk_below HX9.out hb); have HZ10 := Aside0.mk (blk_below HZ9.out hb); have HB10 := Aside0.mk (below_then HB9.out HB9.out.size hb); have HL10 := Aside0.mk (And.intro HL9.out.1 (Kd.C_below HL9.out.2 hb)); have HP10 := Aside0.mk (And.intro (And.intro HP9.out.1.1 (Kd.C_below HP9.out.1.2 hb)) (And.intro HP9.out.2.1 (Kd.C_below HP9.out.2.2 hb))); replace hc0 := (hb.cell (World.block_lt_of_cell? _ _ hc0)).trans hc0; clear x0 x1 x2 x3 x4 x5 x6 x7 x8 x9 u0 u1 u2 u3 u4 u5 u6 u7 u8 u9; obtain ⟨x0, x1, x2, x3, x4, x5, x6, x7, x8, x9, _⟩ := cells10 HX10.out; obtain ⟨u0, u1, u2, u3, u4, u5, u6, u7, u8, u9, _⟩ := cells10 HZ10.out; clear hb) | (go_at_call 20; refine (H10.out B5 d5 B9 d9 _ HP10.out.1.2 HP10.out.1.1 HP10.out.2.2 HP10.out.2.1 (Kd.C_below HR0.out.1.1 HB10.out) HR0.out.1.2 (Kd.C_below HR0.out.2.1 HB10.out) HR0.out.2.2).mono ?_; rintro e_ w11 ⟨rfl, hb⟩; have HX11 := Aside0.mk (blk_below HX10.out hb); have HZ11 := Aside0.mk (blk_below HZ10.out hb); have HB11 := Aside0.mk (below_then HB10.out HB10.out.size hb); have HL11 := Aside0.mk (And.intro HL10.out.1 (Kd.C_below HL10.out.2 hb)); have HP11 := Aside0.mk (And.intro (And.intro HP10.out.1.1 (Kd.C_below HP10.out.1.2 hb)) (And.intro HP10.out.2.1 (Kd.C_below HP10.out.2.2 hb))); replace hc0 := (hb.cell (World.block_lt_of_cell? _ _ hc0)).trans hc0; clear x0 x1 x2 x3 x4 x5 x6 x7 x8 x9 u0 u1 u2 u3 u4 u5 u6 u7 u8 u9; obtain ⟨x0, x1, x2, x3, x4, x5, x6, x7, x8, x9, _⟩ := cells10 HX11.out; obtain ⟨u0, u1, u2, u3, u4, u5, u6, u7, u8, u9, _⟩ := cells10 HZ11.out; clear hb) | (go_at_call 24; refine (H11.out _ (Kd.C_below HR0.out.1.1 HB11.out) HR0.out.1.2 (Kd.C_below HR0.out.2.1 HB11.out) HR0.out.2.2).mono ?_; rintro e_ w12 ⟨rfl, hb⟩; have HX12 := Aside0.mk (blk_below HX11.out hb); have HZ12 := Aside0.mk (blk_below HZ11.out hb); have HB12 := Aside0.mk (below_then HB11.out HB11.out.size hb); have HL12 := Aside0.mk (And.intro HL11.out.1 (Kd.C_below HL11.out.2 hb)); have HP12 := Aside0.mk (And.intro (And.intro HP11.out.1.1 (Kd.C_below HP11.out.1.2 hb)) (And.intro HP11.out.2.1 (Kd.C_below HP11.out.2.2 hb))); replace hc0 := (hb.cell (World.block_lt_of_cell? _ _ hc0)).trans hc0; clear x0 x1 x2 x3 x4 x5 x6 x7 x8 x9 u0 u1 u2 u3 u4 u5 u6 u7 u8 u9; obtain ⟨x0, x1, x2, x3, x4, x5, x6, x7, x8, x9, _⟩ := cells10 HX12.out; obtain ⟨u0, u1, u2, u3, u4, u5, u6, u7, u8, u9, _⟩ := cells10 HZ12.out; clear hb))
      go_wp2
      go_ret
      exact ⟨by first | rfl | (simp [hs1, hv1]; done) | (rw [hv1]; rfl), HB12.out⟩

end Go.Proofs.YtloibeefopdhpaaDoor.G
