/- TapeTexts: the walk of the law. -/
import Derived.Test.YtloibeefopdhpaaDoorRef40Same
import Derived.Test.YtloibeefopdhpaaDoorTapeLines
import Derived.Deep.RegionHeld3
import Derived.Outline
set_option linter.unusedVariables false
namespace Go.Proofs.YtloibeefopdhpaaDoor.G
open Go.RowKit Go.Proofs.YtloibeefopdhpaaDoorW.PrintWords Go.Proofs.YtloibeefopdhpaaDoorW.PrintLast Go.Proofs.YtloibeefopdhpaaDoorW.PrintMore

structure S76 where
  f0 : Int
  f1 : List S134
  f2 : List S34
def k76 : Kd S76 := Kd.iso (Kd.pair (Kd.int .i64) (Kd.pair (Kd.slice 134 k134) (Kd.slice 34 k34))) (fun x : S76 => (x.f0, x.f1, x.f2))
theorem k76_open {w : World} {x : S76} {cs : List Value} (h : k76.K w x cs) : ∃ A1 c1 A2 c2, cs = [.int .i64 x.f0, .slice A1 x.f1.length c1, .slice A2 x.f2.length c2] ∧ x.f1.length ≤ c1 ∧ k134.C w A1 x.f1.length x.f1 ∧ x.f2.length ≤ c2 ∧ k34.C w A2 x.f2.length x.f2 := by
  obtain ⟨_, _, rfl, rfl, ⟨_, _, rfl, ⟨A1, c1, rfl, l1, g1⟩, ⟨A2, c2, rfl, l2, g2⟩⟩⟩ := h
  exact ⟨A1, c1, A2, c2, rfl, l1, g1, l2, g2⟩
def rafterlaw40_TapeTexts.f (k : Nat) (a0_0 : Int) (l0_1 : List S134) (l0_2 : List S34) (a1_0 : Int) (l1_1 : List S134) (l1_2 : List S34) : Option Bool :=
  (rafterlaw40_Light.f k a0_0 l0_1 l0_2).bind fun b => if b = true then ((rafterlaw40_Light.f k a1_0 l1_1 l1_2).bind fun d => if d = true then ((tape_Text.f k a0_0 l0_1 l0_2).bind fun T => (rafterref40_May.f k a0_0 l0_1 l0_2).bind fun m => (tape_Same.f k a0_0 l0_1 l0_2 a1_0 l1_1 l1_2).bind fun s1 => (rafterref40_Same.f k a0_0 l0_1 l0_2 a1_0 l1_1 l1_2).bind fun s2 => (rafterlaw40_awake.f k).bind fun a =>
    if T.2 = m ∧ s1 = s2 ∧ a = true then
      if m = 0 then (tape_Parse.f k T.1).bind fun x => (rafterref40_Text.f k a0_0 l0_1 l0_2).bind fun t => (rafterref40_Same.f k x.1 x.2.1 x.2.2.1 a0_0 l0_1 l0_2).bind fun b => if T.1.toList = t.toList ∧ x.2.2.2 = 0 ∧ b = true then some true else none
      else if T.1.toList = [] then some true else none
    else none) else rafterlaw40_awake.f k) else rafterlaw40_awake.f k

set_option maxHeartbeats 4000000 in
set_option maxRecDepth 100000 in
theorem rafterlaw40_TapeTexts.calls (k : Nat) (a0_0 : Int) (A0_1 : Option Addr) (c0_1 : Nat) (l0_1 : List S134) (A0_2 : Option Addr) (c0_2 : Nat) (l0_2 : List S34) (a1_0 : Int) (A1_1 : Option Addr) (c1_1 : Nat) (l1_1 : List S134) (A1_2 : Option Addr) (c1_2 : Nat) (l1_2 : List S34) (r : Bool) (w : World) (hr0_1 : Kd.C k134 w A0_1 l0_1.length l0_1) (hc0_1 : l0_1.length ≤ c0_1) (hr0_2 : Kd.C k34 w A0_2 l0_2.length l0_2) (hc0_2 : l0_2.length ≤ c0_2) (hr1_1 : Kd.C k134 w A1_1 l1_1.length l1_1) (hc1_1 : l1_1.length ≤ c1_1) (hr1_2 : Kd.C k34 w A1_2 l1_2.length l1_2) (hc1_2 : l1_2.length ≤ c1_2) (h : rafterlaw40_TapeTexts.f k a0_0 l0_1 l0_2 a1_0 l1_1 l1_2 = some r) :
    Calls Tryd.prog 10 #[.agg #[.int .i64 a0_0, .slice A0_1 l0_1.length c0_1, .slice A0_2 l0_2.length c0_2], .agg #[.int .i64 a1_0, .slice A1_1 l1_1.length c1_1, .slice A1_2 l1_2.length c1_2]] w fun e w' => e = .returned (.bool r) ∧ Below w.heap.size w w' := by
  have HR0 := Aside0.mk (And.intro (And.intro hr0_1 hc0_1) (And.intro hr0_2 hc0_2))
  have HR1 := Aside0.mk (And.intro (And.intro hr1_1 hc1_1) (And.intro hr1_2 hc1_2))
  clear hr0_1 hc0_1 hr0_2 hc0_2 hr1_1 hc1_1 hr1_2 hc1_2
  unfold rafterlaw40_TapeTexts.f at h
  obtain ⟨b, h1, g⟩ := Option.bind_eq_some_iff.mp h
  clear h
  have H1 := Aside0.mk (fun W e1 e2 => rafterlaw40_Light.calls k a0_0 A0_1 c0_1 l0_1 A0_2 c0_2 l0_2 b W e1 HR0.out.1.2 e2 HR0.out.2.2 h1)
  have HF := Aside0.mk g
  clear h1 g
  go_enter Tryd.func10, Tryd.ntmps10
  go_upto_region 1 with (fail)
  obtain ⟨W, hW⟩ : ∃ W, W = (w.alloc (.cells #[.int .i64 a0_0, .slice A0_1 l0_1.length c0_1, .slice A0_2 l0_2.length c0_2] 76)).alloc (.cells #[.int .i64 a1_0, .slice A1_1 l1_1.length c1_1, .slice A1_2 l1_2.length c1_2] 76) := ⟨_, rfl⟩
  have HX0 : Aside0 (W.heap[w.heap.size]? = some (.cells #[.int .i64 a0_0, .slice A0_1 l0_1.length c0_1, .slice A0_2 l0_2.length c0_2] 76 (0, 0))) := ⟨by rw [hW]; exact blk_alloc (heap_alloc_new w _) _⟩
  have HY0 : Aside0 (W.heap[w.heap.size + 1]? = some (.cells #[.int .i64 a1_0, .slice A1_1 l1_1.length c1_1, .slice A1_2 l1_2.length c1_2] 76 (0, 0))) := ⟨by
    rw [hW]
    simpa using heap_alloc_new (w.alloc (.cells #[.int .i64 a0_0, .slice A0_1 l0_1.length c0_1, .slice A0_2 l0_2.length c0_2] 76)) (.cells #[.int .i64 a1_0, .slice A1_1 l1_1.length c1_1, .slice A1_2 l1_2.length c1_2] 76)⟩
  have HB0 : Aside0 (Below w.heap.size w W) := ⟨by rw [hW]; exact below_alloc (below_alloc (Below.refl _ _) _) _⟩
  rw [← hW]
  clear hW
  obtain ⟨x0, x1, x2, -⟩ := cells3 HX0.out
  obtain ⟨y0, y1, y2, -⟩ := cells3 HY0.out
  go_wp2_with (fail)
  refine (H1.out _ (Kd.C_below HR0.out.1.1 HB0.out) (Kd.C_below HR0.out.2.1 HB0.out)).mono ?_
  rintro e_ w1 ⟨rfl, hb⟩
  have HX1 := Aside0.mk (blk_below HX0.out hb)
  have HY1 := Aside0.mk (blk_below HY0.out hb)
  have HB1 := Aside0.mk (below_then HB0.out HB0.out.size hb)
  clear hb x0 x1 x2 y0 y1 y2
  obtain ⟨x0, x1, x2, -⟩ := cells3 HX1.out
  obtain ⟨y0, y1, y2, -⟩ := cells3 HY1.out
  clear HX0 HY0 HB0 H1
  have h := HF.out
  cases b with
  | false =>
    rw [if_neg (by decide)] at h
    have H9 := Aside0.mk (fun W => rafterlaw40_awake.calls k r W h)
    clear h HF
    go_wp2_with (fail)
    refine (H9.out _).mono ?_
    rintro e_ w9 ⟨rfl, hb⟩
    go_wp2
    go_ret
    exact ⟨rfl, below_then HB1.out HB1.out.size hb⟩
  | true =>
    rw [if_pos rfl] at h
    clear HF
    obtain ⟨b, h1, g⟩ := Option.bind_eq_some_iff.mp h
    clear h
    have H1 := Aside0.mk (fun W e1 e2 => rafterlaw40_Light.calls k a1_0 A1_1 c1_1 l1_1 A1_2 c1_2 l1_2 b W e1 HR1.out.1.2 e2 HR1.out.2.2 h1)
    have HF := Aside0.mk g
    clear h1 g
    go_wp2_with (fail)
    refine (H1.out _ (Kd.C_below HR1.out.1.1 HB1.out) (Kd.C_below HR1.out.2.1 HB1.out)).mono ?_
    rintro e_ w2 ⟨rfl, hb⟩
    have HX2 := Aside0.mk (blk_below HX1.out hb)
    have HY2 := Aside0.mk (blk_below HY1.out hb)
    have HB2 := Aside0.mk (below_then HB1.out HB1.out.size hb)
    clear hb x0 x1 x2 y0 y1 y2
    obtain ⟨x0, x1, x2, -⟩ := cells3 HX2.out
    obtain ⟨y0, y1, y2, -⟩ := cells3 HY2.out
    clear HX1 HY1 HB1 H1
    have h := HF.out
    cases b with
    | false =>
      rw [if_neg (by decide)] at h
      have H9 := Aside0.mk (fun W => rafterlaw40_awake.calls k r W h)
      clear h HF
      go_wp2_with (fail)
      refine (H9.out _).mono ?_
      rintro e_ w9 ⟨rfl, hb⟩
      go_wp2
      go_ret
      exact ⟨rfl, below_then HB2.out HB2.out.size hb⟩
    | true =>
      rw [if_pos rfl] at h
      clear HF
      obtain ⟨⟨t, e⟩, h1, g⟩ := Option.bind_eq_some_iff.mp h
      clear h
      obtain ⟨m, h2, h⟩ := Option.bind_eq_some_iff.mp g
      clear g
      obtain ⟨s1, h3, g⟩ := Option.bind_eq_some_iff.mp h
      clear h
      obtain ⟨s2, h4, h⟩ := Option.bind_eq_some_iff.mp g
      clear g
      obtain ⟨a, h5, g⟩ := Option.bind_eq_some_iff.mp h
      clear h
      dsimp only at h1 g
      by_cases hk : e = m ∧ s1 = s2 ∧ a = true
      case neg => rw [if_neg hk] at g; cases g
      rw [if_pos hk] at g
      obtain ⟨rfl, rfl, rfl⟩ := hk
      have H1 := Aside0.mk (fun W e1 e2 => tape_Text.calls k a0_0 A0_1 c0_1 l0_1 A0_2 c0_2 l0_2 t e W e1 HR0.out.1.2 e2 HR0.out.2.2 h1)
      have H2 := Aside0.mk (fun W e1 e2 => rafterref40_May.calls k a0_0 A0_1 c0_1 l0_1 A0_2 c0_2 l0_2 e W e1 HR0.out.1.2 e2 HR0.out.2.2 h2)
      have H3 := Aside0.mk (fun W e1 e2 e3 e4 e5 e6 e7 e8 => tape_Same.calls k a0_0 A0_1 c0_1 l0_1 A0_2 c0_2 l0_2 a1_0 A1_1 c1_1 l1_1 A1_2 c1_2 l1_2 s1 W e1 e2 e3 e4 e5 e6 e7 e8 h3)
      have H4 := Aside0.mk (fun W e1 e2 e3 e4 e5 e6 e7 e8 => rafterref40_Same.calls k a0_0 A0_1 c0_1 l0_1 A0_2 c0_2 l0_2 a1_0 A1_1 c1_1 l1_1 A1_2 c1_2 l1_2 s1 W e1 e2 e3 e4 e5 e6 e7 e8 h4)
      have H5 := Aside0.mk (fun W => rafterlaw40_awake.calls k true W h5)
      have HF := Aside0.mk g
      clear h1 h2 h3 h4 h5 g
      go_wp2_with (fail)
      refine (H1.out _ (Kd.C_below HR0.out.1.1 HB2.out) (Kd.C_below HR0.out.2.1 HB2.out)).mono ?_
      rintro e_ w3 ⟨rfl, hb⟩
      have HX3 := Aside0.mk (blk_below HX2.out hb)
      have HY3 := Aside0.mk (blk_below HY2.out hb)
      have HB3 := Aside0.mk (below_then HB2.out HB2.out.size hb)
      clear hb x0 x1 x2 y0 y1 y2
      obtain ⟨x0, x1, x2, -⟩ := cells3 HX3.out
      obtain ⟨y0, y1, y2, -⟩ := cells3 HY3.out
      clear HX2 HY2 HB2 H1
      go_wp2_with (fail)
      refine (H2.out _ (Kd.C_below HR0.out.1.1 HB3.out) (Kd.C_below HR0.out.2.1 HB3.out)).mono ?_
      rintro e_ w4 ⟨rfl, hb⟩
      have HX4 := Aside0.mk (blk_below HX3.out hb)
      have HY4 := Aside0.mk (blk_below HY3.out hb)
      have HB4 := Aside0.mk (below_then HB3.out HB3.out.size hb)
      clear hb x0 x1 x2 y0 y1 y2
      obtain ⟨x0, x1, x2, -⟩ := cells3 HX4.out
      obtain ⟨y0, y1, y2, -⟩ := cells3 HY4.out
      clear HX3 HY3 HB3 H2
      have n1 : (e != e) = false := by simp
      have n2 : (s1 != s1) = false := by simp
      have n3 : (s1 == s1) = true := by simp
      go_upto_region 5 with (fail)
      go_region_held3 (fun w' => w'.cell? ⟨w.heap.size, 0, none⟩ = some (.int .i64 a0_0) ∧ w'.cell? ⟨w.heap.size, 1, none⟩ = some (.slice A0_1 l0_1.length c0_1) ∧ w'.cell? ⟨w.heap.size, 2, none⟩ = some (.slice A0_2 l0_2.length c0_2) ∧ w'.cell? ⟨w.heap.size + 1, 0, none⟩ = some (.int .i64 a1_0) ∧ w'.cell? ⟨w.heap.size + 1, 1, none⟩ = some (.slice A1_1 l1_1.length c1_1) ∧ w'.cell? ⟨w.heap.size + 1, 2, none⟩ = some (.slice A1_2 l1_2.length c1_2)) (exact ⟨x0, x1, x2, y0, y1, y2⟩) (first | (go_at_call 49; refine (H3.out _ (Kd.C_drew (Kd.C_below HR0.out.1.1 HB4.out)) HR0.out.1.2 (Kd.C_drew (Kd.C_below HR0.out.2.1 HB4.out)) HR0.out.2.2 (Kd.C_drew (Kd.C_below HR1.out.1.1 HB4.out)) HR1.out.1.2 (Kd.C_drew (Kd.C_below HR1.out.2.1 HB4.out)) HR1.out.2.2).mono ?_; rintro e_ w5 ⟨rfl, hb⟩; have HX5 := Aside0.mk (blk_below (blk_drew HX4.out) hb); have HY5 := Aside0.mk (blk_below (blk_drew HY4.out) hb); have HB5 := Aside0.mk (below_then (below_drew HB4.out) (below_drew HB4.out).size hb); clear hb x0 x1 x2 y0 y1 y2; obtain ⟨x0, x1, x2, -⟩ := cells3 HX5.out; obtain ⟨y0, y1, y2, -⟩ := cells3 HY5.out) | (go_at_call 50; refine (H4.out _ (Kd.C_below HR0.out.1.1 HB5.out) HR0.out.1.2 (Kd.C_below HR0.out.2.1 HB5.out) HR0.out.2.2 (Kd.C_below HR1.out.1.1 HB5.out) HR1.out.1.2 (Kd.C_below HR1.out.2.1 HB5.out) HR1.out.2.2).mono ?_; rintro e_ w6 ⟨rfl, hb⟩; have HX6 := Aside0.mk (blk_below HX5.out hb); have HY6 := Aside0.mk (blk_below HY5.out hb); have HB6 := Aside0.mk (below_then HB5.out HB5.out.size hb); clear hb x0 x1 x2 y0 y1 y2; obtain ⟨x0, x1, x2, -⟩ := cells3 HX6.out; obtain ⟨y0, y1, y2, -⟩ := cells3 HY6.out))
      clear HX4 HY4 HB4 HX5 HY5 HB5 HY6 H3 H4 y0 y1 y2
      have h := HF.out
      clear HF
      by_cases he : e = 0
      · subst he
        rw [if_pos rfl] at h
        obtain ⟨⟨n, cs, xs, f⟩, h1, g⟩ := Option.bind_eq_some_iff.mp h
        clear h
        obtain ⟨t2, h2, h⟩ := Option.bind_eq_some_iff.mp g
        clear g
        obtain ⟨b, h3, g⟩ := Option.bind_eq_some_iff.mp h
        clear h
        dsimp only at g h3
        by_cases hk : t.toList = t2.toList ∧ f = 0 ∧ b = true
        case neg => rw [if_neg hk] at g; cases g
        rw [if_pos hk] at g
        obtain ⟨ht, rfl, rfl⟩ := hk
        injection g with g
        subst g
        have H1 := Aside0.mk (fun W => tape_Parse.calls k t n cs xs 0 W h1)
        have H2 := Aside0.mk (fun W e1 e2 => rafterref40_Text.calls k a0_0 A0_1 c0_1 l0_1 A0_2 c0_2 l0_2 t2 W e1 HR0.out.1.2 e2 HR0.out.2.2 h2)
        have H3 := Aside0.mk (fun AC dC AS dS W e1 e2 e3 e4 e5 e6 e7 e8 => rafterref40_Same.calls k n AC dC cs AS dS xs a0_0 A0_1 c0_1 l0_1 A0_2 c0_2 l0_2 true W e1 e2 e3 e4 e5 e6 e7 e8 h3)
        have ht1 : (t.toList == t2.toList) = true := beq_iff_eq.2 ht
        clear h1 h2 h3 ht
        go_wp2_with (fail)
        refine (H1.out _).mono ?_
        rintro e_ w7 ⟨vC, vS, rfl, hC, hS, hb⟩
        obtain ⟨AC, dC, rfl⟩ := Kd.S_slice hC
        obtain ⟨AS, dS, rfl⟩ := Kd.S_slice hS
        have HC7 := Aside0.mk (Kd.S_reads' hC).2
        have HS7 := Aside0.mk (Kd.S_reads' hS).2
        have HX7 := Aside0.mk (blk_below HX6.out hb)
        have HB7 := Aside0.mk (below_then HB6.out HB6.out.size hb)
        clear hb hC hS H1 HX6 HB6 x0 x1 x2
        go_upto_region 10 with (fail)
        obtain ⟨W8, hW⟩ : ∃ W8, W8 = w7.alloc (.cells #[.int .i64 n, .slice AC cs.length dC, .slice AS xs.length dS] 76) := ⟨_, rfl⟩
        have HZ8 : Aside0 (W8.heap[w7.heap.size]? = some (.cells #[.int .i64 n, .slice AC cs.length dC, .slice AS xs.length dS] 76 (0, 0))) := ⟨by rw [hW]; exact heap_alloc_new w7 _⟩
        have HX8 : Aside0 (W8.heap[w.heap.size]? = some (.cells #[.int .i64 a0_0, .slice A0_1 l0_1.length c0_1, .slice A0_2 l0_2.length c0_2] 76 (0, 0))) := ⟨by rw [hW]; exact blk_alloc HX7.out _⟩
        have HB8 : Aside0 (Below w.heap.size w W8) := ⟨by rw [hW]; exact below_alloc HB7.out _⟩
        have HC8 : Aside0 (cs.length ≤ dC ∧ Kd.C k134 W8 AC cs.length cs) := ⟨HC7.out.1, by rw [hW]; exact Kd.C_alloc HC7.out.2 _⟩
        have HS8 : Aside0 (xs.length ≤ dS ∧ Kd.C k34 W8 AS xs.length xs) := ⟨HS7.out.1, by rw [hW]; exact Kd.C_alloc HS7.out.2 _⟩
        rw [← hW]
        clear hW HX7 HB7 HC7 HS7
        go_wp2_with (fail)
        refine (H5.out _).mono ?_
        rintro e_ w9 ⟨rfl, hb⟩
        have HX9 := Aside0.mk (blk_below HX8.out hb)
        have HZ9 := Aside0.mk (blk_below HZ8.out hb)
        have HB9 := Aside0.mk (below_then HB8.out HB8.out.size hb)
        have HC9 := Aside0.mk (Kd.C_below HC8.out.2 hb)
        have HS9 := Aside0.mk (Kd.C_below HS8.out.2 hb)
        obtain ⟨x0, x1, x2, -⟩ := cells3 HX9.out
        clear hb HX8 HZ8 HB8 H5
        go_wp2_with (fail)
        refine (H2.out _ (Kd.C_below HR0.out.1.1 HB9.out) (Kd.C_below HR0.out.2.1 HB9.out)).mono ?_
        rintro e_ w10 ⟨rfl, hb⟩
        have HX10 := Aside0.mk (blk_below HX9.out hb)
        have HZ10 := Aside0.mk (blk_below HZ9.out hb)
        have HB10 := Aside0.mk (below_then HB9.out HB9.out.size hb)
        have HC10 := Aside0.mk (Kd.C_below HC9.out hb)
        have HS10 := Aside0.mk (Kd.C_below HS9.out hb)
        clear x0 x1 x2
        obtain ⟨x0, x1, x2, -⟩ := cells3 HX10.out
        obtain ⟨z0, z1, z2, -⟩ := cells3 HZ10.out
        clear hb HX9 HZ9 HB9 H2 HC9 HS9
        go_wp2_with (fail)
        refine (H3.out AC dC AS dS _ HC10.out HC8.out.1 HS10.out HS8.out.1 (Kd.C_below HR0.out.1.1 HB10.out) HR0.out.1.2 (Kd.C_below HR0.out.2.1 HB10.out) HR0.out.2.2).mono ?_
        rintro e_ w11 ⟨rfl, hb⟩
        have HB11 := Aside0.mk (below_then HB10.out HB10.out.size hb)
        clear hb x0 x1 x2 z0 z1 z2
        go_wp2
        go_ret
        exact ⟨by first | rfl | (simp [ht1]; done), HB11.out⟩
      · rw [if_neg he] at h
        by_cases hk : t.toList = []
        case neg => rw [if_neg hk] at h; cases h
        rw [if_pos hk] at h
        injection h with h
        subst h
        have e1 : (e != 0) = true := bne_iff_ne.2 he
        have ht1 : (t.toList == []) = true := by rw [hk]; rfl
        clear he hk
        go_wp2_with (fail)
        refine (H5.out _).mono ?_
        rintro e_ w7 ⟨rfl, hb⟩
        go_wp2
        go_ret
        exact ⟨by first | rfl | (simp [ht1]; done), below_then HB6.out HB6.out.size hb⟩
end Go.Proofs.YtloibeefopdhpaaDoor.G
