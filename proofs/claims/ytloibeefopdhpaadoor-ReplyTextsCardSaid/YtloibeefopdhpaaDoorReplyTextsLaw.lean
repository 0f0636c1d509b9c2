/- ReplyTexts: the walk of the law. -/
import Derived.Test.YtloibeefopdhpaaDoorReplyAwake
import Derived.Test.YtloibeefopdhpaaDoorRef36Same
import Derived.Test.YtloibeefopdhpaaDoorLight36
import Derived.Deep.RegionHeld3
import Derived.Outline
set_option linter.unusedVariables false
namespace Go.Proofs.YtloibeefopdhpaaDoor.G
open Go.RowKit Go.Proofs.YtloibeefopdhpaaDoorW.PrintWords Go.Proofs.YtloibeefopdhpaaDoorW.PrintLast Go.Proofs.YtloibeefopdhpaaDoorW.PrintMore Go.Proofs.YtloibeefopdhpaaDoor.Plain

/-- Two structs beside each other are a row of two. -/
theorem two_rows {W : World} {g t : Nat} {x y : S54} {cs ds : List Value} (hb : W.heap[g]? = some (.cells (cs ++ ds).toArray t (0, 0))) (hK : k54.K W x cs) (hL : k54.K W y ds) : k54.C W (some ⟨g, 0, none⟩) 2 [x, y] := by
  refine ⟨rfl, by simp, fun _ => ⟨_, rfl, fun j p hj => ?_⟩⟩
  have hjl := (List.getElem?_eq_some_iff.1 hj).1
  simp only [List.length_cons, List.length_nil] at hjl
  rcases (show j = 0 ∨ j = 1 by omega) with rfl | rfl
  · injection hj with hj
    subst hj
    refine ⟨cs, Kd.K_len _ hK, hK, fun i u hu => ?_⟩
    have hi := (List.getElem?_eq_some_iff.1 hu).1
    rw [Nat.zero_mul, Nat.zero_add, add_plain, blk_cell hb]
    simpa [List.getElem?_append_left hi] using hu
  · injection hj with hj
    subst hj
    refine ⟨ds, Kd.K_len _ hL, hL, fun i u hu => ?_⟩
    rw [Nat.one_mul, add_plain, blk_cell hb]
    have h1 := Kd.K_len _ hK
    simpa [List.getElem?_append_right (show cs.length ≤ k54.sz + i by omega), h1] using hu
abbrev TReplyT := Int × List ByteArray × List TPair × List TPrim × List TFile × Int
def rafterlaw36_ReplyTexts.f (k : Nat) (a0_0 : Int) (l0_1 : List ByteArray) (l0_2 : List S100) (l0_3 : List S108) (l0_4 : List S102) (a1_0 : Int) (l1_1 : List ByteArray) (l1_2 : List S100) (l1_3 : List S108) (l1_4 : List S102) (a2 : ByteArray) : Option Bool :=
  (rafterlaw36_Light.f k [(⟨a0_0, l0_1, l0_2, l0_3, l0_4⟩ : S54), (⟨a1_0, l1_1, l1_2, l1_3, l1_4⟩ : S54)]).bind fun b => if b = true ∧ a2.size ≤ 1000 then
    (reply_Text.f k a0_0 l0_1 l0_2 l0_3 l0_4).bind fun t => (reply_Parse.f k t).bind fun x => (reply_Parse.f k a2).bind fun y => (rafterref36_Text.f k a0_0 l0_1 l0_2 l0_3 l0_4).bind fun t2 => (rafterref36_Same.f k x.1 x.2.1 x.2.2.1 x.2.2.2.1 x.2.2.2.2.1 a0_0 l0_1 l0_2 l0_3 l0_4).bind fun s1 => (reply_Same.f k a0_0 l0_1 l0_2 l0_3 l0_4 a1_0 l1_1 l1_2 l1_3 l1_4).bind fun s2 => (rafterref36_Same.f k a0_0 l0_1 l0_2 l0_3 l0_4 a1_0 l1_1 l1_2 l1_3 l1_4).bind fun s3 => (rafterlaw36_awake.f k).bind fun a =>
    if t2 = t ∧ x.2.2.2.2.2 = 0 ∧ s1 = true ∧ s3 = s2 ∧ a = true then
      if y.2.2.2.2.2 = 0 then (rafterref36_Text.f k y.1 y.2.1 y.2.2.1 y.2.2.2.1 y.2.2.2.2.1).bind fun t3 => if t3 = a2 then some true else none
      else if y.2.2.2.2.2 = 17 then (rafterref36_Same.f k y.1 y.2.1 y.2.2.1 y.2.2.2.1 y.2.2.2.2.1 0 [] [] [] []).bind fun s4 => if s4 = true then some true else none
      else none
    else none
  else rafterlaw36_awake.f k

set_option maxHeartbeats 8000000 in
set_option maxRecDepth 100000 in
theorem rafterlaw36_ReplyTexts.calls (k : Nat) (a0_0 : Int) (A0_1 : Option Addr) (c0_1 : Nat) (l0_1 : List ByteArray) (A0_2 : Option Addr) (c0_2 : Nat) (l0_2 : List S100) (A0_3 : Option Addr) (c0_3 : Nat) (l0_3 : List S108) (A0_4 : Option Addr) (c0_4 : Nat) (l0_4 : List S102) (a1_0 : Int) (A1_1 : Option Addr) (c1_1 : Nat) (l1_1 : List ByteArray) (A1_2 : Option Addr) (c1_2 : Nat) (l1_2 : List S100) (A1_3 : Option Addr) (c1_3 : Nat) (l1_3 : List S108) (A1_4 : Option Addr) (c1_4 : Nat) (l1_4 : List S102) (a2 : ByteArray) (r : Bool) (w : World) (hr0_1 : Kd.C Kd.string w A0_1 l0_1.length l0_1) (hc0_1 : l0_1.length ≤ c0_1) (hr0_2 : Kd.C k100 w A0_2 l0_2.length l0_2) (hc0_2 : l0_2.length ≤ c0_2) (hr0_3 : Kd.C k108 w A0_3 l0_3.length l0_3) (hc0_3 : l0_3.length ≤ c0_3) (hr0_4 : Kd.C k102 w A0_4 l0_4.length l0_4) (hc0_4 : l0_4.length ≤ c0_4) (hr1_1 : Kd.C Kd.string w A1_1 l1_1.length l1_1) (hc1_1 : l1_1.length ≤ c1_1) (hr1_2 : Kd.C k100 w A1_2 l1_2.length l1_2) (hc1_2 : l1_2.length ≤ c1_2) (hr1_3 : Kd.C k108 w A1_3 l1_3.length l1_3) (hc1_3 : l1_3.length ≤ c1_3) (hr1_4 : Kd.C k102 w A1_4 l1_4.length l1_4) (hc1_4 : l1_4.length ≤ c1_4) (h : rafterlaw36_ReplyTexts.f k a0_0 l0_1 l0_2 l0_3 l0_4 a1_0 l1_1 l1_2 l1_3 l1_4 a2 = some r) :
    Calls Tryd.prog 7 #[.agg #[.int .i64 a0_0, .slice A0_1 l0_1.length c0_1, .slice A0_2 l0_2.length c0_2, .slice A0_3 l0_3.length c0_3, .slice A0_4 l0_4.length c0_4], .agg #[.int .i64 a1_0, .slice A1_1 l1_1.length c1_1, .slice A1_2 l1_2.length c1_2, .slice A1_3 l1_3.length c1_3, .slice A1_4 l1_4.length c1_4], .string a2] w fun e w' => e = .returned (.bool r) ∧ Below w.heap.size w w' := by
  have HR1 := Aside0.mk (And.intro (And.intro hr0_1 hc0_1) (And.intro hr1_1 hc1_1))
  have HR2 := Aside0.mk (And.intro (And.intro hr0_2 hc0_2) (And.intro hr1_2 hc1_2))
  have HR3 := Aside0.mk (And.intro (And.intro hr0_3 hc0_3) (And.intro hr1_3 hc1_3))
  have HR4 := Aside0.mk (And.intro (And.intro hr0_4 hc0_4) (And.intro hr1_4 hc1_4))
  clear hr0_1 hc0_1 hr0_2 hc0_2 hr0_3 hc0_3 hr0_4 hc0_4 hr1_1 hc1_1 hr1_2 hc1_2 hr1_3 hc1_3 hr1_4 hc1_4
  unfold rafterlaw36_ReplyTexts.f at h
  obtain ⟨b, h1, g⟩ := Option.bind_eq_some_iff.mp h
  clear h
  have H1 := Aside0.mk (fun A c W e1 e2 => rafterlaw36_Light.calls k A c [(⟨a0_0, l0_1, l0_2, l0_3, l0_4⟩ : S54), (⟨a1_0, l1_1, l1_2, l1_3, l1_4⟩ : S54)] b W e1 e2 h1)
  have HF := Aside0.mk g
  clear h1 g
  go_enter Tryd.func7, Tryd.ntmps7
  go_wp2_with (fail)
  obtain ⟨W0, hW0⟩ : ∃ W0, W0 = ((w.alloc (.cells #[.int .i64 a0_0, .slice A0_1 l0_1.length c0_1, .slice A0_2 l0_2.length c0_2, .slice A0_3 l0_3.length c0_3, .slice A0_4 l0_4.length c0_4] 54)).alloc (.cells #[.int .i64 a1_0, .slice A1_1 l1_1.length c1_1, .slice A1_2 l1_2.length c1_2, .slice A1_3 l1_3.length c1_3, .slice A1_4 l1_4.length c1_4] 54)).alloc (.cells #[.int .i64 a0_0, .slice A0_1 l0_1.length c0_1, .slice A0_2 l0_2.length c0_2, .slice A0_3 l0_3.length c0_3, .slice A0_4 l0_4.length c0_4, .int .i64 a1_0, .slice A1_1 l1_1.length c1_1, .slice A1_2 l1_2.length c1_2, .slice A1_3 l1_3.length c1_3, .slice A1_4 l1_4.length c1_4] 54) := ⟨_, rfl⟩
  have HX0 : Aside0 (W0.heap[w.heap.size]? = some (.cells #[.int .i64 a0_0, .slice A0_1 l0_1.length c0_1, .slice A0_2 l0_2.length c0_2, .slice A0_3 l0_3.length c0_3, .slice A0_4 l0_4.length c0_4] 54 (0, 0))) := ⟨by rw [hW0]; exact blk_alloc (blk_alloc (heap_alloc_new w _) _) _⟩
  have HY0 : Aside0 (W0.heap[w.heap.size + 1]? = some (.cells #[.int .i64 a1_0, .slice A1_1 l1_1.length c1_1, .slice A1_2 l1_2.length c1_2, .slice A1_3 l1_3.length c1_3, .slice A1_4 l1_4.length c1_4] 54 (0, 0))) := ⟨by
    rw [hW0]
    refine blk_alloc ?_ _
    simpa using heap_alloc_new (w.alloc (.cells #[.int .i64 a0_0, .slice A0_1 l0_1.length c0_1, .slice A0_2 l0_2.length c0_2, .slice A0_3 l0_3.length c0_3, .slice A0_4 l0_4.length c0_4] 54)) (.cells #[.int .i64 a1_0, .slice A1_1 l1_1.length c1_1, .slice A1_2 l1_2.length c1_2, .slice A1_3 l1_3.length c1_3, .slice A1_4 l1_4.length c1_4] 54)⟩
  have HA0 : Aside0 (W0.heap[w.heap.size + 1 + 1]? = some (.cells ([.int .i64 a0_0, .slice A0_1 l0_1.length c0_1, .slice A0_2 l0_2.length c0_2, .slice A0_3 l0_3.length c0_3, .slice A0_4 l0_4.length c0_4] ++ [.int .i64 a1_0, .slice A1_1 l1_1.length c1_1, .slice A1_2 l1_2.length c1_2, .slice A1_3 l1_3.length c1_3, .slice A1_4 l1_4.length c1_4] : List Value).toArray 54 (0, 0))) := ⟨by
    rw [hW0]
    simpa using heap_alloc_new ((w.alloc (.cells #[.int .i64 a0_0, .slice A0_1 l0_1.length c0_1, .slice A0_2 l0_2.length c0_2, .slice A0_3 l0_3.length c0_3, .slice A0_4 l0_4.length c0_4] 54)).alloc (.cells #[.int .i64 a1_0, .slice A1_1 l1_1.length c1_1, .slice A1_2 l1_2.length c1_2, .slice A1_3 l1_3.length c1_3, .slice A1_4 l1_4.length c1_4] 54)) (.cells #[.int .i64 a0_0, .slice A0_1 l0_1.length c0_1, .slice A0_2 l0_2.length c0_2, .slice A0_3 l0_3.length c0_3, .slice A0_4 l0_4.length c0_4, .int .i64 a1_0, .slice A1_1 l1_1.length c1_1, .slice A1_2 l1_2.length c1_2, .slice A1_3 l1_3.length c1_3, .slice A1_4 l1_4.length c1_4] 54)⟩
  have HB0 : Aside0 (Below w.heap.size w W0) := ⟨by rw [hW0]; exact below_alloc (below_alloc (below_alloc (Below.refl _ _) _) _) _⟩
  rw [← hW0]
  clear hW0
  refine (H1.out _ 2 W0 (two_rows HA0.out (k54_mk W0 (⟨a0_0, l0_1, l0_2, l0_3, l0_4⟩ : S54) HR1.out.1.2 (Kd.C_below HR1.out.1.1 HB0.out) HR2.out.1.2 (Kd.C_below HR2.out.1.1 HB0.out) HR3.out.1.2 (Kd.C_below HR3.out.1.1 HB0.out) HR4.out.1.2 (Kd.C_below HR4.out.1.1 HB0.out)) (k54_mk W0 (⟨a1_0, l1_1, l1_2, l1_3, l1_4⟩ : S54) HR1.out.2.2 (Kd.C_below HR1.out.2.1 HB0.out) HR2.out.2.2 (Kd.C_below HR2.out.2.1 HB0.out) HR3.out.2.2 (Kd.C_below HR3.out.2.1 HB0.out) HR4.out.2.2 (Kd.C_below HR4.out.2.1 HB0.out))) (Nat.le_refl 2)).mono ?_
  rintro e_ w1 ⟨rfl, hb⟩
  have HX1 := Aside0.mk (blk_below HX0.out hb)
  have HY1 := Aside0.mk (blk_below HY0.out hb)
  have HB1 := Aside0.mk (below_then HB0.out HB0.out.size hb)
  clear hb HX0 HY0 HA0 HB0 H1
  obtain ⟨kx0, kx1, kx2, kx3, kx4, -⟩ := cells5 HX1.out
  obtain ⟨ky0, ky1, ky2, ky3, ky4, -⟩ := cells5 HY1.out
  have h := HF.out
  clear HF
  cases b with
  | false =>
    rw [if_neg (fun q => Bool.noConfusion q.1)] at h
    have H9 := Aside0.mk (fun W => rafterlaw36_awake.calls k r W h)
    clear h
    go_wp2_with (fail)
    refine (H9.out _).mono ?_
    rintro e_ w9 ⟨rfl, hb⟩
    go_wp2
    go_ret
    exact ⟨rfl, below_then HB1.out HB1.out.size hb⟩
  | true =>
    by_cases hs : a2.size ≤ 1000
    case neg =>
      rw [if_neg (fun q => hs q.2)] at h
      have q1 : (1000 < a2.size) = True := eq_true (by omega)
      have q2 : ((a2.size : Int) > 1000) = True := eq_true (by omega)
      have q3 : (1000 < (a2.size : Int)) = True := eq_true (by omega)
      clear hs
      have H9 := Aside0.mk (fun W => rafterlaw36_awake.calls k r W h)
      clear h
      go_wp2_with (fail)
      refine (H9.out _).mono ?_
      rintro e_ w9 ⟨rfl, hb⟩
      go_wp2
      go_ret
      exact ⟨rfl, below_then HB1.out HB1.out.size hb⟩
    rw [if_pos ⟨rfl, hs⟩] at h
    have q1 : (1000 < a2.size) = False := eq_false (by omega)
    have q2 : ((a2.size : Int) > 1000) = False := eq_false (by omega)
    have q3 : (1000 < (a2.size : Int)) = False := eq_false (by omega)
    clear hs
    obtain ⟨t, h1, g⟩ := Option.bind_eq_some_iff.mp h
    clear h
    obtain ⟨⟨x0, x1, x2, x3, x4, e⟩, h2, h⟩ := Option.bind_eq_some_iff.mp g
    clear g
    obtain ⟨⟨y0, y1, y2, y3, y4, e'⟩, h3, g⟩ := Option.bind_eq_some_iff.mp h
    clear h
    obtain ⟨t2, h4, h⟩ := Option.bind_eq_some_iff.mp g
    clear g
    obtain ⟨s1, h5, g⟩ := Option.bind_eq_some_iff.mp h
    clear h
    obtain ⟨s2, h6, h⟩ := Option.bind_eq_some_iff.mp g
    clear g
    obtain ⟨s3, h7, g⟩ := Option.bind_eq_some_iff.mp h
    clear h
    obtain ⟨a, h8, h⟩ := Option.bind_eq_some_iff.mp g
    clear g
    dsimp only at h5 h
    by_cases hk : t2 = t ∧ e = 0 ∧ s1 = true ∧ s3 = s2 ∧ a = true
    case neg => rw [if_neg hk] at h; cases h
    rw [if_pos hk] at h
    obtain ⟨rfl, rfl, rfl, rfl, rfl⟩ := hk
    have H1 := Aside0.mk (fun W e1 e2 e3 e4 => reply_Text.calls k a0_0 A0_1 c0_1 l0_1 A0_2 c0_2 l0_2 A0_3 c0_3 l0_3 A0_4 c0_4 l0_4 t2 W e1 HR1.out.1.2 e2 HR2.out.1.2 e3 HR3.out.1.2 e4 HR4.out.1.2 h1)
    have H2 := Aside0.mk (fun W => reply_Parse.calls k t2 x0 x1 x2 x3 x4 0 W h2)
    have H3 := Aside0.mk (fun W => reply_Parse.calls k a2 y0 y1 y2 y3 y4 e' W h3)
    have H4 := Aside0.mk (fun W e1 e2 e3 e4 => rafterref36_Text.calls k a0_0 A0_1 c0_1 l0_1 A0_2 c0_2 l0_2 A0_3 c0_3 l0_3 A0_4 c0_4 l0_4 t2 W e1 HR1.out.1.2 e2 HR2.out.1.2 e3 HR3.out.1.2 e4 HR4.out.1.2 h4)
    have H5 := Aside0.mk (fun Ax1 cx1 (m1 : x1.length ≤ cx1) Ax2 cx2 (m2 : x2.length ≤ cx2) Ax3 cx3 (m3 : x3.length ≤ cx3) Ax4 cx4 (m4 : x4.length ≤ cx4) W e1 e2 e3 e4 f1 f2 f3 f4 => rafterref36_Same.calls k x0 Ax1 cx1 x1 Ax2 cx2 x2 Ax3 cx3 x3 Ax4 cx4 x4 a0_0 A0_1 c0_1 l0_1 A0_2 c0_2 l0_2 A0_3 c0_3 l0_3 A0_4 c0_4 l0_4 true W e1 m1 e2 m2 e3 m3 e4 m4 f1 HR1.out.1.2 f2 HR2.out.1.2 f3 HR3.out.1.2 f4 HR4.out.1.2 h5)
    have H6 := Aside0.mk (fun W e1 e2 e3 e4 f1 f2 f3 f4 => reply_Same.calls k a0_0 A0_1 c0_1 l0_1 A0_2 c0_2 l0_2 A0_3 c0_3 l0_3 A0_4 c0_4 l0_4 a1_0 A1_1 c1_1 l1_1 A1_2 c1_2 l1_2 A1_3 c1_3 l1_3 A1_4 c1_4 l1_4 s3 W e1 HR1.out.1.2 e2 HR2.out.1.2 e3 HR3.out.1.2 e4 HR4.out.1.2 f1 HR1.out.2.2 f2 HR2.out.2.2 f3 HR3.out.2.2 f4 HR4.out.2.2 h6)
    have H7 := Aside0.mk (fun W e1 e2 e3 e4 f1 f2 f3 f4 => rafterref36_Same.calls k a0_0 A0_1 c0_1 l0_1 A0_2 c0_2 l0_2 A0_3 c0_3 l0_3 A0_4 c0_4 l0_4 a1_0 A1_1 c1_1 l1_1 A1_2 c1_2 l1_2 A1_3 c1_3 l1_3 A1_4 c1_4 l1_4 s3 W e1 HR1.out.1.2 e2 HR2.out.1.2 e3 HR3.out.1.2 e4 HR4.out.1.2 f1 HR1.out.2.2 f2 HR2.out.2.2 f3 HR3.out.2.2 f4 HR4.out.2.2 h7)
    have H9 := Aside0.mk (fun W => rafterlaw36_awake.calls k true W h8)
    have HF := Aside0.mk h
    clear h1 h2 h3 h4 h5 h6 h7 h8 h
    go_wp2_with (fail)
    refine (H1.out _ (Kd.C_below HR1.out.1.1 HB1.out) (Kd.C_below HR2.out.1.1 HB1.out) (Kd.C_below HR3.out.1.1 HB1.out) (Kd.C_below HR4.out.1.1 HB1.out)).mono ?_
    rintro e_ w2 ⟨rfl, hb⟩
    have HX2 := Aside0.mk (blk_below HX1.out hb)
    have HY2 := Aside0.mk (blk_below HY1.out hb)
    have HB2 := Aside0.mk (below_then HB1.out HB1.out.size hb)
    clear kx0 kx1 kx2 kx3 kx4 ky0 ky1 ky2 ky3 ky4
    obtain ⟨kx0, kx1, kx2, kx3, kx4, -⟩ := cells5 HX2.out
    obtain ⟨ky0, ky1, ky2, ky3, ky4, -⟩ := cells5 HY2.out
    clear hb HX1 HY1 HB1 H1 q1 q2 q3
    go_wp2_with (fail)
    refine (H2.out _).mono ?_
    rintro e_ w3 ⟨v1, v2, v3, v4, rfl, g1, g2, g3, g4, hb⟩
    obtain ⟨Ax1, cx1, rfl⟩ := Kd.R_slice g1
    have Hx1 := Aside0.mk (Kd.R_reads' g1).2
    obtain ⟨Ax2, cx2, rfl⟩ := Kd.R_slice g2
    have Hx2 := Aside0.mk (Kd.R_reads' g2).2
    obtain ⟨Ax3, cx3, rfl⟩ := Kd.S_slice g3
    have Hx3 := Aside0.mk (Kd.S_reads' g3).2
    obtain ⟨Ax4, cx4, rfl⟩ := Kd.S_slice g4
    have Hx4 := Aside0.mk (Kd.S_reads' g4).2
    have HX3 := Aside0.mk (blk_below HX2.out hb)
    have HY3 := Aside0.mk (blk_below HY2.out hb)
    have HB3 := Aside0.mk (below_then HB2.out HB2.out.size hb)
    clear kx0 kx1 kx2 kx3 kx4 ky0 ky1 ky2 ky3 ky4
    obtain ⟨kx0, kx1, kx2, kx3, kx4, -⟩ := cells5 HX3.out
    obtain ⟨ky0, ky1, ky2, ky3, ky4, -⟩ := cells5 HY3.out
    clear hb g1 g2 g3 g4 HX2 HY2 HB2 H2
    go_upto_region 5 with (fail)
    obtain ⟨W4, hW⟩ : ∃ W4, W4 = w3.alloc (.cells #[.int .i64 x0, .slice Ax1 x1.length cx1, .slice Ax2 x2.length cx2, .slice Ax3 x3.length cx3, .slice Ax4 x4.length cx4] 54) := ⟨_, rfl⟩
    have HZ4 : Aside0 (W4.heap[w3.heap.size]? = some (.cells #[.int .i64 x0, .slice Ax1 x1.length cx1, .slice Ax2 x2.length cx2, .slice Ax3 x3.length cx3, .slice Ax4 x4.length cx4] 54 (0, 0))) := ⟨by rw [hW]; exact heap_alloc_new w3 _⟩
    have HX4 : Aside0 (W4.heap[w.heap.size]? = some (.cells #[.int .i64 a0_0, .slice A0_1 l0_1.length c0_1, .slice A0_2 l0_2.length c0_2, .slice A0_3 l0_3.length c0_3, .slice A0_4 l0_4.length c0_4] 54 (0, 0))) := ⟨by rw [hW]; exact blk_alloc HX3.out _⟩
    have HY4 : Aside0 (W4.heap[w.heap.size + 1]? = some (.cells #[.int .i64 a1_0, .slice A1_1 l1_1.length c1_1, .slice A1_2 l1_2.length c1_2, .slice A1_3 l1_3.length c1_3, .slice A1_4 l1_4.length c1_4] 54 (0, 0))) := ⟨by rw [hW]; exact blk_alloc HY3.out _⟩
    have HB4 : Aside0 (Below w.heap.size w W4) := ⟨by rw [hW]; exact below_alloc HB3.out _⟩
    replace Hx1 : Aside0 (x1.length ≤ cx1 ∧ Kd.C Kd.string W4 Ax1 x1.length x1) := ⟨Hx1.out.1, by rw [hW]; exact Kd.C_alloc Hx1.out.2 _⟩
    replace Hx2 : Aside0 (x2.length ≤ cx2 ∧ Kd.C k100 W4 Ax2 x2.length x2) := ⟨Hx2.out.1, by rw [hW]; exact Kd.C_alloc Hx2.out.2 _⟩
    replace Hx3 : Aside0 (x3.length ≤ cx3 ∧ Kd.C k108 W4 Ax3 x3.length x3) := ⟨Hx3.out.1, by rw [hW]; exact Kd.C_alloc Hx3.out.2 _⟩
    replace Hx4 : Aside0 (x4.length ≤ cx4 ∧ Kd.C k102 W4 Ax4 x4.length x4) := ⟨Hx4.out.1, by rw [hW]; exact Kd.C_alloc Hx4.out.2 _⟩
    rw [← hW]
    clear hW HX3 HY3 HB3 kx0 kx1 kx2 kx3 kx4 ky0 ky1 ky2 ky3 ky4
    obtain ⟨kx0, kx1, kx2, kx3, kx4, -⟩ := cells5 HX4.out
    obtain ⟨ky0, ky1, ky2, ky3, ky4, -⟩ := cells5 HY4.out
    obtain ⟨kz0, kz1, kz2, kz3, kz4, -⟩ := cells5 HZ4.out
    go_wp2_with (fail)
    refine (H3.out _).mono ?_
    rintro e_ w5 ⟨v1, v2, v3, v4, rfl, g1, g2, g3, g4, hb⟩
    obtain ⟨Ay1, cy1, rfl⟩ := Kd.R_slice g1
    have Hy1 := Aside0.mk (Kd.R_reads' g1).2
    obtain ⟨Ay2, cy2, rfl⟩ := Kd.R_slice g2
    have Hy2 := Aside0.mk (Kd.R_reads' g2).2
    obtain ⟨Ay3, cy3, rfl⟩ := Kd.S_slice g3
    have Hy3 := Aside0.mk (Kd.S_reads' g3).2
    obtain ⟨Ay4, cy4, rfl⟩ := Kd.S_slice g4
    have Hy4 := Aside0.mk (Kd.S_reads' g4).2
    have HX5 := Aside0.mk (blk_below HX4.out hb)
    have HY5 := Aside0.mk (blk_below HY4.out hb)
    have HZ5 := Aside0.mk (blk_below HZ4.out hb)
    have HB5 := Aside0.mk (below_then HB4.out HB4.out.size hb)
    have Hx1b := Aside0.mk (Kd.C_below Hx1.out.2 hb)
    have Hx2b := Aside0.mk (Kd.C_below Hx2.out.2 hb)
    have Hx3b := Aside0.mk (Kd.C_below Hx3.out.2 hb)
    have Hx4b := Aside0.mk (Kd.C_below Hx4.out.2 hb)
    clear kx0 kx1 kx2 kx3 kx4 ky0 ky1 ky2 ky3 ky4 kz0 kz1 kz2 kz3 kz4
    obtain ⟨kx0, kx1, kx2, kx3, kx4, -⟩ := cells5 HX5.out
    obtain ⟨ky0, ky1, ky2, ky3, ky4, -⟩ := cells5 HY5.out
    obtain ⟨kz0, kz1, kz2, kz3, kz4, -⟩ := cells5 HZ5.out
    clear hb g1 g2 g3 g4 HX4 HY4 HZ4 HB4 H3
    go_upto_region 6 with (fail)
    obtain ⟨W6, hW⟩ : ∃ W6, W6 = w5.alloc (.cells #[.int .i64 y0, .slice Ay1 y1.length cy1, .slice Ay2 y2.length cy2, .slice Ay3 y3.length cy3, .slice Ay4 y4.length cy4] 54) := ⟨_, rfl⟩
    have HU6 : Aside0 (W6.heap[w5.heap.size]? = some (.cells #[.int .i64 y0, .slice Ay1 y1.length cy1, .slice Ay2 y2.length cy2, .slice Ay3 y3.length cy3, .slice Ay4 y4.length cy4] 54 (0, 0))) := ⟨by rw [hW]; exact heap_alloc_new w5 _⟩
    have HX6 : Aside0 (W6.heap[w.heap.size]? = some (.cells #[.int .i64 a0_0, .slice A0_1 l0_1.length c0_1, .slice A0_2 l0_2.length c0_2, .slice A0_3 l0_3.length c0_3, .slice A0_4 l0_4.length c0_4] 54 (0, 0))) := ⟨by rw [hW]; exact blk_alloc HX5.out _⟩
    have HY6 : Aside0 (W6.heap[w.heap.size + 1]? = some (.cells #[.int .i64 a1_0, .slice A1_1 l1_1.length c1_1, .slice A1_2 l1_2.length c1_2, .slice A1_3 l1_3.length c1_3, .slice A1_4 l1_4.length c1_4] 54 (0, 0))) := ⟨by rw [hW]; exact blk_alloc HY5.out _⟩
    have HZ6 : Aside0 (W6.heap[w3.heap.size]? = some (.cells #[.int .i64 x0, .slice Ax1 x1.length cx1, .slice Ax2 x2.length cx2, .slice Ax3 x3.length cx3, .slice Ax4 x4.length cx4] 54 (0, 0))) := ⟨by rw [hW]; exact blk_alloc HZ5.out _⟩
    have HB6 : Aside0 (Below w.heap.size w W6) := ⟨by rw [hW]; exact below_alloc HB5.out _⟩
    replace Hx1b : Aside0 (Kd.C Kd.string W6 Ax1 x1.length x1) := ⟨by rw [hW]; exact Kd.C_alloc Hx1b.out _⟩
    replace Hy1 : Aside0 (y1.length ≤ cy1 ∧ Kd.C Kd.string W6 Ay1 y1.length y1) := ⟨Hy1.out.1, by rw [hW]; exact Kd.C_alloc Hy1.out.2 _⟩
    replace Hx2b : Aside0 (Kd.C k100 W6 Ax2 x2.length x2) := ⟨by rw [hW]; exact Kd.C_alloc Hx2b.out _⟩
    replace Hy2 : Aside0 (y2.length ≤ cy2 ∧ Kd.C k100 W6 Ay2 y2.length y2) := ⟨Hy2.out.1, by rw [hW]; exact Kd.C_alloc Hy2.out.2 _⟩
    replace Hx3b : Aside0 (Kd.C k108 W6 Ax3 x3.length x3) := ⟨by rw [hW]; exact Kd.C_alloc Hx3b.out _⟩
    replace Hy3 : Aside0 (y3.length ≤ cy3 ∧ Kd.C k108 W6 Ay3 y3.length y3) := ⟨Hy3.out.1, by rw [hW]; exact Kd.C_alloc Hy3.out.2 _⟩
    replace Hx4b : Aside0 (Kd.C k102 W6 Ax4 x4.length x4) := ⟨by rw [hW]; exact Kd.C_alloc Hx4b.out _⟩
    replace Hy4 : Aside0 (y4.length ≤ cy4 ∧ Kd.C k102 W6 Ay4 y4.length y4) := ⟨Hy4.out.1, by rw [hW]; exact Kd.C_alloc Hy4.out.2 _⟩
    rw [← hW]
    clear hW HX5 HY5 HZ5 HB5 kx0 kx1 kx2 kx3 kx4 ky0 ky1 ky2 ky3 ky4 kz0 kz1 kz2 kz3 kz4
    obtain ⟨kx0, kx1, kx2, kx3, kx4, -⟩ := cells5 HX6.out
    obtain ⟨ky0, ky1, ky2, ky3, ky4, -⟩ := cells5 HY6.out
    obtain ⟨kz0, kz1, kz2, kz3, kz4, -⟩ := cells5 HZ6.out
    have n1 : (s3 != s3) = false := by simp
    go_region_held3 (fun w' => w'.cell? ⟨w.heap.size, 0, none⟩ = some (.int .i64 a0_0) ∧ w'.cell? ⟨w.heap.size, 1, none⟩ = some (.slice A0_1 l0_1.length c0_1) ∧ w'.cell? ⟨w.heap.size, 2, none⟩ = some (.slice A0_2 l0_2.length c0_2) ∧ w'.cell? ⟨w.heap.size, 3, none⟩ = some (.slice A0_3 l0_3.length c0_3) ∧ w'.cell? ⟨w.heap.size, 4, none⟩ = some (.slice A0_4 l0_4.length c0_4) ∧ w'.cell? ⟨w.heap.size + 1, 0, none⟩ = some (.int .i64 a1_0) ∧ w'.cell? ⟨w.heap.size + 1, 1, none⟩ = some (.slice A1_1 l1_1.length c1_1) ∧ w'.cell? ⟨w.heap.size + 1, 2, none⟩ = some (.slice A1_2 l1_2.length c1_2) ∧ w'.cell? ⟨w.heap.size + 1, 3, none⟩ = some (.slice A1_3 l1_3.length c1_3) ∧ w'.cell? ⟨w.heap.size + 1, 4, none⟩ = some (.slice A1_4 l1_4.length c1_4) ∧ w'.cell? ⟨w3.heap.size, 0, none⟩ = some (.int .i64 x0) ∧ w'.cell? ⟨w3.heap.size, 1, none⟩ = some (.slice Ax1 x1.length cx1) ∧ w'.cell? ⟨w3.heap.size, 2, none⟩ = some (.slice Ax2 x2.length cx2) ∧ w'.cell? ⟨w3.heap.size, 3, none⟩ = some (.slice Ax3 x3.length cx3) ∧ w'.cell? ⟨w3.heap.size, 4, none⟩ = some (.slice Ax4 x4.length cx4)) (exact ⟨kx0, kx1, kx2, kx3, kx4, ky0, ky1, ky2, ky3, ky4, kz0, kz1, kz2, kz3, kz4⟩) (first | (go_at_call 32; refine (H4.out _ (Kd.C_drew (Kd.C_below HR1.out.1.1 HB6.out)) (Kd.C_drew (Kd.C_below HR2.out.1.1 HB6.out)) (Kd.C_drew (Kd.C_below HR3.out.1.1 HB6.out)) (Kd.C_drew (Kd.C_below HR4.out.1.1 HB6.out))).mono ?_; rintro e_ w7 ⟨rfl, hb⟩; have HX7 := Aside0.mk (blk_below (blk_drew HX6.out) hb); have HY7 := Aside0.mk (blk_below (blk_drew HY6.out) hb); have HZ7 := Aside0.mk (blk_below (blk_drew HZ6.out) hb); have HU7 := Aside0.mk (blk_below (blk_drew HU6.out) hb); have HB7 := Aside0.mk (below_then (below_drew1 HB6.out) (below_drew1 HB6.out).size hb); have Hx1c := Aside0.mk (Kd.C_below (Kd.C_drew Hx1b.out) hb); have Hx2c := Aside0.mk (Kd.C_below (Kd.C_drew Hx2b.out) hb); have Hx3c := Aside0.mk (Kd.C_below (Kd.C_drew Hx3b.out) hb); have Hx4c := Aside0.mk (Kd.C_below (Kd.C_drew Hx4b.out) hb); have Hy1b := Aside0.mk (Kd.C_below (Kd.C_drew Hy1.out.2) hb); have Hy2b := Aside0.mk (Kd.C_below (Kd.C_drew Hy2.out.2) hb); have Hy3b := Aside0.mk (Kd.C_below (Kd.C_drew Hy3.out.2) hb); have Hy4b := Aside0.mk (Kd.C_below (Kd.C_drew Hy4.out.2) hb); clear hb kx0 kx1 kx2 kx3 kx4 ky0 ky1 ky2 ky3 ky4 kz0 kz1 kz2 kz3 kz4; obtain ⟨kx0, kx1, kx2, kx3, kx4, -⟩ := cells5 HX7.out; obtain ⟨ky0, ky1, ky2, ky3, ky4, -⟩ := cells5 HY7.out; obtain ⟨kz0, kz1, kz2, kz3, kz4, -⟩ := cells5 HZ7.out) | (go_at_call 34; refine (H6.out _ (Kd.C_below HR1.out.1.1 HB8.out) (Kd.C_below HR2.out.1.1 HB8.out) (Kd.C_below HR3.out.1.1 HB8.out) (Kd.C_below HR4.out.1.1 HB8.out) (Kd.C_below HR1.out.2.1 HB8.out) (Kd.C_below HR2.out.2.1 HB8.out) (Kd.C_below HR3.out.2.1 HB8.out) (Kd.C_below HR4.out.2.1 HB8.out)).mono ?_; rintro e_ w10 ⟨rfl, hb⟩; have HX10 := Aside0.mk (blk_below HX8.out hb); have HY10 := Aside0.mk (blk_below HY8.out hb); have HZ10 := Aside0.mk (blk_below HZ8.out hb); have HU10 := Aside0.mk (blk_below HU8.out hb); have HB10 := Aside0.mk (below_then HB8.out HB8.out.size hb); have Hy1d := Aside0.mk (Kd.C_below Hy1c.out hb); have Hy2d := Aside0.mk (Kd.C_below Hy2c.out hb); have Hy3d := Aside0.mk (Kd.C_below Hy3c.out hb); have Hy4d := Aside0.mk (Kd.C_below Hy4c.out hb); clear hb kx0 kx1 kx2 kx3 kx4 ky0 ky1 ky2 ky3 ky4 kz0 kz1 kz2 kz3 kz4; obtain ⟨kx0, kx1, kx2, kx3, kx4, -⟩ := cells5 HX10.out; obtain ⟨ky0, ky1, ky2, ky3, ky4, -⟩ := cells5 HY10.out; obtain ⟨kz0, kz1, kz2, kz3, kz4, -⟩ := cells5 HZ10.out) | (go_at_call 33; refine (H7.out _ (Kd.C_below HR1.out.1.1 HB10.out) (Kd.C_below HR2.out.1.1 HB10.out) (Kd.C_below HR3.out.1.1 HB10.out) (Kd.C_below HR4.out.1.1 HB10.out) (Kd.C_below HR1.out.2.1 HB10.out) (Kd.C_below HR2.out.2.1 HB10.out) (Kd.C_below HR3.out.2.1 HB10.out) (Kd.C_below HR4.out.2.1 HB10.out)).mono ?_; rintro e_ w11 ⟨rfl, hb⟩; have HX11 := Aside0.mk (blk_below HX10.out hb); have HY11 := Aside0.mk (blk_below HY10.out hb); have HZ11 := Aside0.mk (blk_below HZ10.out hb); have HU11 := Aside0.mk (blk_below HU10.out hb); have HB11 := Aside0.mk (below_then HB10.out HB10.out.size hb); have Hy1e := Aside0.mk (Kd.C_below Hy1d.out hb); have Hy2e := Aside0.mk (Kd.C_below Hy2d.out hb); have Hy3e := Aside0.mk (Kd.C_below Hy3d.out hb); have Hy4e := Aside0.mk (Kd.C_below Hy4d.out hb); clear hb kx0 kx1 kx2 kx3 kx4 ky0 ky1 ky2 ky3 ky4 kz0 kz1 kz2 kz3 kz4; obtain ⟨kx0, kx1, kx2, kx3, kx4, -⟩ := cells5 HX11.out; obtain ⟨ky0, ky1, ky2, ky3, ky4, -⟩ := cells5 HY11.out; obtain ⟨kz0, kz1, kz2, kz3, kz4, -⟩ := cells5 HZ11.out) | (go_at_call 33; refine (H5.out Ax1 cx1 Hx1.out.1 Ax2 cx2 Hx2.out.1 Ax3 cx3 Hx3.out.1 Ax4 cx4 Hx4.out.1 _ Hx1c.out Hx2c.out Hx3c.out Hx4c.out (Kd.C_below HR1.out.1.1 HB7.out) (Kd.C_below HR2.out.1.1 HB7.out) (Kd.C_below HR3.out.1.1 HB7.out) (Kd.C_below HR4.out.1.1 HB7.out)).mono ?_; rintro e_ w8 ⟨rfl, hb⟩; have HX8 := Aside0.mk (blk_below HX7.out hb); have HY8 := Aside0.mk (blk_below HY7.out hb); have HZ8 := Aside0.mk (blk_below HZ7.out hb); have HU8 := Aside0.mk (blk_below HU7.out hb); have HB8 := Aside0.mk (below_then HB7.out HB7.out.size hb); have Hy1c := Aside0.mk (Kd.C_below Hy1b.out hb); have Hy2c := Aside0.mk (Kd.C_below Hy2b.out hb); have Hy3c := Aside0.mk (Kd.C_below Hy3b.out hb); have Hy4c := Aside0.mk (Kd.C_below Hy4b.out hb); clear hb kx0 kx1 kx2 kx3 kx4 ky0 ky1 ky2 ky3 ky4 kz0 kz1 kz2 kz3 kz4; obtain ⟨kx0, kx1, kx2, kx3, kx4, -⟩ := cells5 HX8.out; obtain ⟨ky0, ky1, ky2, ky3, ky4, -⟩ := cells5 HY8.out; obtain ⟨kz0, kz1, kz2, kz3, kz4, -⟩ := cells5 HZ8.out))
    have h := HF.out
    clear HF kx0 kx1 kx2 kx3 kx4 ky0 ky1 ky2 ky3 ky4 kz0 kz1 kz2 kz3 kz4 HX6 HY6 HZ6 HB6 HX7 HY7 HZ7 HB7 HX8 HY8 HZ8 HB8 HX10 HY10 HZ10 HB10 H4 H5 H6 H7 HU6 HU7 HU8 HU10
    by_cases he : e' = 0
    case pos =>
      subst he
      rw [if_pos rfl] at h
      obtain ⟨t3, h4, g⟩ := Option.bind_eq_some_iff.mp h
      clear h
      try dsimp only at h4
      by_cases hk : t3 = a2
      case neg => rw [if_neg hk] at g; cases g
      rw [if_pos hk] at g
      injection g with g
      subst hk
      subst g
      have H4 := Aside0.mk (fun Ay1 cy1 (m1 : y1.length ≤ cy1) Ay2 cy2 (m2 : y2.length ≤ cy2) Ay3 cy3 (m3 : y3.length ≤ cy3) Ay4 cy4 (m4 : y4.length ≤ cy4) W e1 e2 e3 e4 => rafterref36_Text.calls k y0 Ay1 cy1 y1 Ay2 cy2 y2 Ay3 cy3 y3 Ay4 cy4 y4 t3 W e1 m1 e2 m2 e3 m3 e4 m4 h4)
      clear h4
      go_wp2_with (fail)
      refine (H9.out _).mono ?_
      rintro e_ w12 ⟨rfl, hb⟩
      have HU12 := Aside0.mk (blk_below HU11.out hb)
      have HB12 := Aside0.mk (below_then HB11.out HB11.out.size hb)
      have Hz := Aside0.mk hb
      clear hb
      obtain ⟨ku0, ku1, ku2, ku3, ku4, -⟩ := cells5 HU12.out
      go_wp2_with (fail)
      refine (H4.out Ay1 cy1 Hy1.out.1 Ay2 cy2 Hy2.out.1 Ay3 cy3 Hy3.out.1 Ay4 cy4 Hy4.out.1 _ (Kd.C_below Hy1e.out Hz.out) (Kd.C_below Hy2e.out Hz.out) (Kd.C_below Hy3e.out Hz.out) (Kd.C_below Hy4e.out Hz.out)).mono ?_
      rintro e_ w13 ⟨rfl, hb⟩
      go_wp2
      go_ret
      exact ⟨by first | rfl | (simp; done), below_then HB12.out HB12.out.size hb⟩
    rw [if_neg he] at h
    by_cases he2 : e' = 17
    case neg => rw [if_neg he2] at h; cases h
    subst he2
    rw [if_pos rfl] at h
    clear he
    obtain ⟨s4, h4, g⟩ := Option.bind_eq_some_iff.mp h
    clear h
    try dsimp only at h4
    by_cases hk : s4 = true
    case neg => rw [if_neg hk] at g; cases g
    rw [if_pos hk] at g
    injection g with g
    subst hk
    subst g
    have H4 := Aside0.mk (fun Ay1 cy1 (m1 : y1.length ≤ cy1) Ay2 cy2 (m2 : y2.length ≤ cy2) Ay3 cy3 (m3 : y3.length ≤ cy3) Ay4 cy4 (m4 : y4.length ≤ cy4) W e1 e2 e3 e4 => rafterref36_Same.calls k y0 Ay1 cy1 y1 Ay2 cy2 y2 Ay3 cy3 y3 Ay4 cy4 y4 0 none 0 [] none 0 [] none 0 [] none 0 [] true W e1 m1 e2 m2 e3 m3 e4 m4 (Kd.C_nil _ _) (Nat.le_refl 0) (Kd.C_nil _ _) (Nat.le_refl 0) (Kd.C_nil _ _) (Nat.le_refl 0) (Kd.C_nil _ _) (Nat.le_refl 0) h4)
    clear h4
    go_wp2_with (fail)
    refine (H9.out _).mono ?_
    rintro e_ w12 ⟨rfl, hb⟩
    have HU12 := Aside0.mk (blk_below HU11.out hb)
    have HB12 := Aside0.mk (below_then HB11.out HB11.out.size hb)
    have Hz := Aside0.mk hb
    clear hb
    obtain ⟨ku0, ku1, ku2, ku3, ku4, -⟩ := cells5 HU12.out
    go_wp2_with (fail)
    refine (H4.out Ay1 cy1 Hy1.out.1 Ay2 cy2 Hy2.out.1 Ay3 cy3 Hy3.out.1 Ay4 cy4 Hy4.out.1 _ (Kd.C_below Hy1e.out Hz.out) (Kd.C_below Hy2e.out Hz.out) (Kd.C_below Hy3e.out Hz.out) (Kd.C_below Hy4e.out Hz.out)).mono ?_
    rintro e_ w13 ⟨rfl, hb⟩
    go_wp2
    go_ret
    exact ⟨rfl, below_then HB12.out HB12.out.size hb⟩
end Go.Proofs.YtloibeefopdhpaaDoor.G
