/- The reference: are replies the same: the walk by hand. -/
import Derived.Test.YtloibeefopdhpaaDoorRef07Same
import Derived.Test.YtloibeefopdhpaaDoorRef06Same
import Derived.Outline
set_option linter.unusedVariables false
namespace Go.Proofs.YtloibeefopdhpaaDoor.G
open Go.RowKit Go.Proofs.YtloibeefopdhpaaDoorW.PrintWords Go.Proofs.YtloibeefopdhpaaDoorW.PrintLast Go.Proofs.YtloibeefopdhpaaDoorW.PrintMore
attribute [local go_sem high] eqA100

def samePairs : List S100 → List S100 → Bool
  | x :: xs, y :: ys => (x.f0.toList == y.f0.toList) && (x.f1.toList == y.f1.toList) && samePairs xs ys
  | _, _ => true
def rafterref36_Same.f (k : Nat) (a0_0 : Int) (l0_1 : List ByteArray) (l0_2 : List S100) (l0_3 : List S108) (l0_4 : List S102) (a1_0 : Int) (l1_1 : List ByteArray) (l1_2 : List S100) (l1_3 : List S108) (l1_4 : List S102) : Option Bool :=
  if a0_0 = a1_0 then (rafterref01_Same.f k l0_1 l1_1).bind fun b1 => if b1 = true then (if l0_2.length = l1_2.length then (rafterref07_Same.f k l0_3 l1_3).bind fun b3 => if b3 = true then (rafterref06_Same.f k l0_4 l1_4).bind fun b4 => if b4 = true then some (samePairs l0_2 l1_2) else some false else some false else some false) else some false else some false
theorem rafterref36_Same.mono : ∀ a0 a1 a2 a3 a4 a5 a6 a7 a8 a9 k, LeO (rafterref36_Same.f k a0 a1 a2 a3 a4 a5 a6 a7 a8 a9) (rafterref36_Same.f (k + 1) a0 a1 a2 a3 a4 a5 a6 a7 a8 a9) := by
  intro a0 a1 a2 a3 a4 a5 a6 a7 a8 a9 k
  unfold rafterref36_Same.f
  exact LeO.ite (LeO.bind (rafterref01_Same.mono _ _ _) fun _ => LeO.ite (LeO.ite (LeO.bind (rafterref07_Same.mono _ _ _) fun _ => LeO.ite (LeO.bind (rafterref06_Same.mono _ _ _) fun _ => LeO.refl _) (LeO.refl _)) (LeO.refl _)) (LeO.refl _)) (LeO.refl _)

set_option maxHeartbeats 4000000 in
set_option maxRecDepth 100000 in
theorem rafterref36_Same.calls (k : Nat) (a0_0 : Int) (A0_1 : Option Addr) (c0_1 : Nat) (l0_1 : List ByteArray) (A0_2 : Option Addr) (c0_2 : Nat) (l0_2 : List S100) (A0_3 : Option Addr) (c0_3 : Nat) (l0_3 : List S108) (A0_4 : Option Addr) (c0_4 : Nat) (l0_4 : List S102) (a1_0 : Int) (A1_1 : Option Addr) (c1_1 : Nat) (l1_1 : List ByteArray) (A1_2 : Option Addr) (c1_2 : Nat) (l1_2 : List S100) (A1_3 : Option Addr) (c1_3 : Nat) (l1_3 : List S108) (A1_4 : Option Addr) (c1_4 : Nat) (l1_4 : List S102) (r : Bool) (w : World) (hr0_1 : Kd.C Kd.string w A0_1 l0_1.length l0_1) (hc0_1 : l0_1.length ≤ c0_1) (hr0_2 : Kd.C k100 w A0_2 l0_2.length l0_2) (hc0_2 : l0_2.length ≤ c0_2) (hr0_3 : Kd.C k108 w A0_3 l0_3.length l0_3) (hc0_3 : l0_3.length ≤ c0_3) (hr0_4 : Kd.C k102 w A0_4 l0_4.length l0_4) (hc0_4 : l0_4.length ≤ c0_4) (hr1_1 : Kd.C Kd.string w A1_1 l1_1.length l1_1) (hc1_1 : l1_1.length ≤ c1_1) (hr1_2 : Kd.C k100 w A1_2 l1_2.length l1_2) (hc1_2 : l1_2.length ≤ c1_2) (hr1_3 : Kd.C k108 w A1_3 l1_3.length l1_3) (hc1_3 : l1_3.length ≤ c1_3) (hr1_4 : Kd.C k102 w A1_4 l1_4.length l1_4) (hc1_4 : l1_4.length ≤ c1_4) (h : rafterref36_Same.f k a0_0 l0_1 l0_2 l0_3 l0_4 a1_0 l1_1 l1_2 l1_3 l1_4 = some r) :
    Calls Tryd.prog 33 #[.agg #[.int .i64 a0_0, .slice A0_1 l0_1.length c0_1, .slice A0_2 l0_2.length c0_2, .slice A0_3 l0_3.length c0_3, .slice A0_4 l0_4.length c0_4], .agg #[.int .i64 a1_0, .slice A1_1 l1_1.length c1_1, .slice A1_2 l1_2.length c1_2, .slice A1_3 l1_3.length c1_3, .slice A1_4 l1_4.length c1_4]] w fun e w' => e = .returned (.bool r) ∧ Below w.heap.size w w' := by
  have HR1 := Aside0.mk (And.intro (And.intro hr0_1 hc0_1) (And.intro hr1_1 hc1_1))
  have HR2 := Aside0.mk (And.intro (And.intro hr0_2 hc0_2) (And.intro hr1_2 hc1_2))
  have HR3 := Aside0.mk (And.intro (And.intro hr0_3 hc0_3) (And.intro hr1_3 hc1_3))
  have HR4 := Aside0.mk (And.intro (And.intro hr0_4 hc0_4) (And.intro hr1_4 hc1_4))
  clear hr0_1 hc0_1 hr0_2 hc0_2 hr0_3 hc0_3 hr0_4 hc0_4 hr1_1 hc1_1 hr1_2 hc1_2 hr1_3 hc1_3 hr1_4 hc1_4
  unfold rafterref36_Same.f at h
  go_enter Tryd.func33, Tryd.ntmps33
  go_upto_region 1 with (fail)
  obtain ⟨W, hW⟩ : ∃ W, W = (w.alloc (.cells #[.int .i64 a0_0, .slice A0_1 l0_1.length c0_1, .slice A0_2 l0_2.length c0_2, .slice A0_3 l0_3.length c0_3, .slice A0_4 l0_4.length c0_4] 54)).alloc (.cells #[.int .i64 a1_0, .slice A1_1 l1_1.length c1_1, .slice A1_2 l1_2.length c1_2, .slice A1_3 l1_3.length c1_3, .slice A1_4 l1_4.length c1_4] 54) := ⟨_, rfl⟩
  have HX : Aside0 (W.heap[w.heap.size]? = some (.cells #[.int .i64 a0_0, .slice A0_1 l0_1.length c0_1, .slice A0_2 l0_2.length c0_2, .slice A0_3 l0_3.length c0_3, .slice A0_4 l0_4.length c0_4] 54 (0, 0))) := ⟨by rw [hW]; exact blk_alloc (heap_alloc_new w _) _⟩
  have HY : Aside0 (W.heap[w.heap.size + 1]? = some (.cells #[.int .i64 a1_0, .slice A1_1 l1_1.length c1_1, .slice A1_2 l1_2.length c1_2, .slice A1_3 l1_3.length c1_3, .slice A1_4 l1_4.length c1_4] 54 (0, 0))) := ⟨by
    rw [hW]
    simpa using heap_alloc_new (w.alloc (.cells #[.int .i64 a0_0, .slice A0_1 l0_1.length c0_1, .slice A0_2 l0_2.length c0_2, .slice A0_3 l0_3.length c0_3, .slice A0_4 l0_4.length c0_4] 54)) (.cells #[.int .i64 a1_0, .slice A1_1 l1_1.length c1_1, .slice A1_2 l1_2.length c1_2, .slice A1_3 l1_3.length c1_3, .slice A1_4 l1_4.length c1_4] 54)⟩
  have HB : Aside0 (Below w.heap.size w W) := ⟨by rw [hW]; exact below_alloc (below_alloc (Below.refl _ _) _) _⟩
  rw [← hW]
  clear hW
  obtain ⟨x0, x1, x2, x3, x4, -⟩ := cells5 HX.out
  obtain ⟨y0, y1, y2, y3, y4, -⟩ := cells5 HY.out
  by_cases q0 : a0_0 = a1_0
  case neg =>
    rw [if_neg q0] at h
    injection h with h
    subst h
    have e0 : (a0_0 != a1_0) = true := bne_iff_ne.2 q0
    have e1 : (a0_0 == a1_0) = false := beq_eq_false_iff_ne.2 q0
    clear q0
    go_wp2
    go_ret
    exact ⟨rfl, HB.out⟩
  rw [if_pos q0] at h
  have e0 : (a0_0 != a1_0) = false := bne_eq_false_iff_eq.2 q0
  have e1 : (a0_0 == a1_0) = true := beq_iff_eq.2 q0
  clear q0
  obtain ⟨b1, h1, g⟩ := Option.bind_eq_some_iff.mp h
  clear h
  have H1 := Aside0.mk (fun W g1 g2 => rafterref01_Same.calls k A0_1 c0_1 l0_1 A1_1 c1_1 l1_1 b1 W g1 HR1.out.1.2 g2 HR1.out.2.2 h1)
  clear h1
  have h := g
  clear g
  cases b1 with
  | false =>
    rw [if_neg (by decide)] at h
    injection h with h
    subst h
    go_wp2_with (fail)
    refine (H1.out _ (Kd.C_below HR1.out.1.1 HB.out) (Kd.C_below HR1.out.2.1 HB.out)).mono ?_
    rintro e_ w1 ⟨rfl, ⟨⟨n1, rfl⟩⟩⟩
    have HB1 := Aside0.mk (pw_below_drewN HB.out n1)
    have HX1 := Aside0.mk (blk_drewN HX.out n1)
    have HY1 := Aside0.mk (blk_drewN HY.out n1)
    go_wp2
    go_ret
    exact ⟨rfl, HB1.out⟩
  | true =>
    rw [if_pos rfl] at h
    by_cases q2 : l0_2.length = l1_2.length
    case neg =>
      rw [if_neg q2] at h
      injection h with h
      subst h
      have p0 : ((l0_2.length : Int) != (l1_2.length : Int)) = true := bne_iff_ne.2 (by omega)
      have p1 : (l0_2.length == l1_2.length) = false := beq_eq_false_iff_ne.2 q2
      clear q2
      go_wp2_with (fail)
      refine (H1.out _ (Kd.C_below HR1.out.1.1 HB.out) (Kd.C_below HR1.out.2.1 HB.out)).mono ?_
      rintro e_ w1 ⟨rfl, ⟨⟨n1, rfl⟩⟩⟩
      have HB1 := Aside0.mk (pw_below_drewN HB.out n1)
      have HX1 := Aside0.mk (blk_drewN HX.out n1)
      have HY1 := Aside0.mk (blk_drewN HY.out n1)
      go_wp2
      go_ret
      exact ⟨rfl, HB1.out⟩
    rw [if_pos q2] at h
    have p0 : ((l0_2.length : Int) != (l1_2.length : Int)) = false := bne_eq_false_iff_eq.2 (by omega)
    have p1 : (l0_2.length == l1_2.length) = true := beq_iff_eq.2 q2
    have HL := Aside0.mk q2
    clear q2
    obtain ⟨b3, h3, g⟩ := Option.bind_eq_some_iff.mp h
    clear h
    have H3 := Aside0.mk (fun W g1 g2 => rafterref07_Same.calls k A0_3 c0_3 l0_3 A1_3 c1_3 l1_3 b3 W g1 HR3.out.1.2 g2 HR3.out.2.2 h3)
    clear h3
    have h := g
    clear g
    cases b3 with
    | false =>
      rw [if_neg (by decide)] at h
      injection h with h
      subst h
      go_wp2_with (fail)
      refine (H1.out _ (Kd.C_below HR1.out.1.1 HB.out) (Kd.C_below HR1.out.2.1 HB.out)).mono ?_
      rintro e_ w1 ⟨rfl, ⟨⟨n1, rfl⟩⟩⟩
      have HB1 := Aside0.mk (pw_below_drewN HB.out n1)
      have HX1 := Aside0.mk (blk_drewN HX.out n1)
      have HY1 := Aside0.mk (blk_drewN HY.out n1)
      go_wp2_with (fail)
      refine (H3.out _ (Kd.C_below HR3.out.1.1 HB1.out) (Kd.C_below HR3.out.2.1 HB1.out)).mono ?_
      rintro e_ w3 ⟨rfl, hb⟩
      have HB3 := Aside0.mk (below_then HB1.out HB1.out.size hb)
      have HX3 := Aside0.mk (blk_below HX1.out hb)
      have HY3 := Aside0.mk (blk_below HY1.out hb)
      clear hb x0 x1 x2 x3 x4 y0 y1 y2 y3 y4
      obtain ⟨x0, x1, x2, x3, x4, -⟩ := cells5 HX3.out
      obtain ⟨y0, y1, y2, y3, y4, -⟩ := cells5 HY3.out
      go_wp2
      go_ret
      exact ⟨rfl, HB3.out⟩
    | true =>
      rw [if_pos rfl] at h
      obtain ⟨b4, h4, g⟩ := Option.bind_eq_some_iff.mp h
      clear h
      have H4 := Aside0.mk (fun W g1 g2 => rafterref06_Same.calls k A0_4 c0_4 l0_4 A1_4 c1_4 l1_4 b4 W g1 HR4.out.1.2 g2 HR4.out.2.2 h4)
      clear h4
      have h := g
      clear g
      cases b4 with
      | false =>
        rw [if_neg (by decide)] at h
        injection h with h
        subst h
        go_wp2_with (fail)
        refine (H1.out _ (Kd.C_below HR1.out.1.1 HB.out) (Kd.C_below HR1.out.2.1 HB.out)).mono ?_
        rintro e_ w1 ⟨rfl, ⟨⟨n1, rfl⟩⟩⟩
        have HB1 := Aside0.mk (pw_below_drewN HB.out n1)
        have HX1 := Aside0.mk (blk_drewN HX.out n1)
        have HY1 := Aside0.mk (blk_drewN HY.out n1)
        go_wp2_with (fail)
        refine (H3.out _ (Kd.C_below HR3.out.1.1 HB1.out) (Kd.C_below HR3.out.2.1 HB1.out)).mono ?_
        rintro e_ w3 ⟨rfl, hb⟩
        have HB3 := Aside0.mk (below_then HB1.out HB1.out.size hb)
        have HX3 := Aside0.mk (blk_below HX1.out hb)
        have HY3 := Aside0.mk (blk_below HY1.out hb)
        clear hb x0 x1 x2 x3 x4 y0 y1 y2 y3 y4
        obtain ⟨x0, x1, x2, x3, x4, -⟩ := cells5 HX3.out
        obtain ⟨y0, y1, y2, y3, y4, -⟩ := cells5 HY3.out
        go_wp2_with (fail)
        refine (H4.out _ (Kd.C_below HR4.out.1.1 HB3.out) (Kd.C_below HR4.out.2.1 HB3.out)).mono ?_
        rintro e_ w4 ⟨rfl, hb⟩
        have HB4 := Aside0.mk (below_then HB3.out HB3.out.size hb)
        have HX4 := Aside0.mk (blk_below HX3.out hb)
        have HY4 := Aside0.mk (blk_below HY3.out hb)
        clear hb x0 x1 x2 x3 x4 y0 y1 y2 y3 y4
        obtain ⟨x0, x1, x2, x3, x4, -⟩ := cells5 HX4.out
        obtain ⟨y0, y1, y2, y3, y4, -⟩ := cells5 HY4.out
        go_wp2
        go_ret
        exact ⟨rfl, HB4.out⟩
      | true =>
        rw [if_pos rfl] at h
        injection h with h
        have HF := Aside0.mk h
        clear h
        go_wp2_with (fail)
        refine (H1.out _ (Kd.C_below HR1.out.1.1 HB.out) (Kd.C_below HR1.out.2.1 HB.out)).mono ?_
        rintro e_ w1 ⟨rfl, ⟨⟨n1, rfl⟩⟩⟩
        have HB1 := Aside0.mk (pw_below_drewN HB.out n1)
        have HX1 := Aside0.mk (blk_drewN HX.out n1)
        have HY1 := Aside0.mk (blk_drewN HY.out n1)
        go_wp2_with (fail)
        refine (H3.out _ (Kd.C_below HR3.out.1.1 HB1.out) (Kd.C_below HR3.out.2.1 HB1.out)).mono ?_
        rintro e_ w3 ⟨rfl, hb⟩
        have HB3 := Aside0.mk (below_then HB1.out HB1.out.size hb)
        have HX3 := Aside0.mk (blk_below HX1.out hb)
        have HY3 := Aside0.mk (blk_below HY1.out hb)
        clear hb x0 x1 x2 x3 x4 y0 y1 y2 y3 y4
        obtain ⟨x0, x1, x2, x3, x4, -⟩ := cells5 HX3.out
        obtain ⟨y0, y1, y2, y3, y4, -⟩ := cells5 HY3.out
        go_wp2_with (fail)
        refine (H4.out _ (Kd.C_below HR4.out.1.1 HB3.out) (Kd.C_below HR4.out.2.1 HB3.out)).mono ?_
        rintro e_ w4 ⟨rfl, hb⟩
        have HB4 := Aside0.mk (below_then HB3.out HB3.out.size hb)
        have HX4 := Aside0.mk (blk_below HX3.out hb)
        have HY4 := Aside0.mk (blk_below HY3.out hb)
        clear hb x0 x1 x2 x3 x4 y0 y1 y2 y3 y4
        obtain ⟨x0, x1, x2, x3, x4, -⟩ := cells5 HX4.out
        obtain ⟨y0, y1, y2, y3, y4, -⟩ := cells5 HY4.out
        go_wp2
        clear e0 e1 p0 p1 x0 x1 x2 x3 x4 y0 y1 y2 y3 y4
        go_loopg [5] l0_2.length (fun gk v5 w' => ∃ i : Nat, v5 = .int .i64 i ∧ Aside0 (i + gk = l0_2.length) ∧ Aside0 (samePairs (l0_2.drop i) (l1_2.drop i) = r) ∧ Aside0 (Below w.heap.size w w') ∧ Aside0 (w'.heap[w.heap.size]? = some (.cells #[.int .i64 a0_0, .slice A0_1 l0_1.length c0_1, .slice A0_2 l0_2.length c0_2, .slice A0_3 l0_3.length c0_3, .slice A0_4 l0_4.length c0_4] 54 (0, 0))) ∧ Aside0 (w'.heap[w.heap.size + 1]? = some (.cells #[.int .i64 a1_0, .slice A1_1 l1_1.length c1_1, .slice A1_2 l1_2.length c1_2, .slice A1_3 l1_3.length c1_3, .slice A1_4 l1_4.length c1_4] 54 (0, 0))))
        case atStart => exact ⟨0, rfl, ⟨by omega⟩, HF, HB4, HX4, HY4⟩
        case round =>
          clear HB HX HY HB1 HX1 HY1 HB3 HX3 HY3 HB4 HX4 HY4 HF
          obtain ⟨i, rfl, HI, HC, HB, HX, HY⟩ := hrel
          have hm := Kd.C_max HR2.out.1.1
          obtain ⟨x0, x1, x2, x3, x4, -⟩ := cells5 HX.out
          obtain ⟨y0, y1, y2, y3, y4, -⟩ := cells5 HY.out
          by_cases hi : i < l0_2.length
          case neg =>
            have hi' : ¬ (i : Int) < (l0_2.length : Int) := by omega
            have h := HC.out
            rw [List.drop_eq_nil_of_le (by omega), samePairs] at h
            subst h
            go_wp2
            go_ret
            exact ⟨rfl, HB.out⟩
            all_goals
              intro x xs y ys hx
              cases hx
          have hi' : (i : Int) < (l0_2.length : Int) := by omega
          have hj : i < l1_2.length := by have := HL.out; omega
          have hj' : (i : Int) < (l1_2.length : Int) := by omega
          obtain ⟨ad, e0, u0, u1⟩ := at_T100 (Kd.C_below HR2.out.1.1 HB.out) (i : Int) (by omega) hi'
          obtain ⟨bd, e1, v0, v1⟩ := at_T100 (Kd.C_below HR2.out.2.1 HB.out) (i : Int) (by omega) hj'
          rw [Int.toNat_natCast] at u0 u1 v0 v1
          have hrd : l0_2.drop i = rd_T100 l0_2 (i : Int) :: l0_2.drop (i + 1) := by
            rw [List.drop_eq_getElem_cons hi]
            simp [rd_T100, hi]
          have hrd2 : l1_2.drop i = rd_T100 l1_2 (i : Int) :: l1_2.drop (i + 1) := by
            rw [List.drop_eq_getElem_cons hj]
            simp [rd_T100, hj]
          have h := HC.out
          rw [hrd, hrd2, samePairs] at h
          generalize rd_T100 l0_2 (i : Int) = x at *
          generalize rd_T100 l1_2 (i : Int) = y at *
          cases e0
          cases e1
          have r1 : (0 ≤ (i : Int)) = True := eq_true (by omega)
          have r2 : ((i : Int) < (l0_2.length : Int)) = True := eq_true hi'
          have r3 : ((i : Int) < (l1_2.length : Int)) = True := eq_true hj'
          have hi9 : (i : Int) + 1 ≤ 9223372036854775807 := by omega
          clear hrd hrd2 HC
          cases s0 : x.f0.toList == y.f0.toList <;> cases s1 : x.f1.toList == y.f1.toList
          case true.true =>
            rw [s0, s1] at h
            have HC2 := Aside0.mk h
            clear h
            go_upto_region 6 with (fail)
            go_quiet (fail)
            go_wp2
            go_roundg (gk - 1)
            case measure => have := HI.out; omega
            case rel => exact ⟨i + 1, by go_num, ⟨by have := HI.out; omega⟩, HC2, ⟨pw_below_drewN HB.out _⟩, ⟨blk_drewN HX.out _⟩, ⟨blk_drewN HY.out _⟩⟩
          all_goals
            rw [s0, s1] at h
            subst h
            go_upto_region 6 with (fail)
            go_quiet (fail)
            go_wp2
            go_ret
            exact ⟨rfl, pw_below_drewN HB.out _⟩
end Go.Proofs.YtloibeefopdhpaaDoor.G
