-- Words of the kit's print (as it laid them for this seat); what this claim does not use is left out.
import Derived.Test.YtloibeefopdhpaaDoorRef35Same
import Derived.Deep.RegionHeld3
import Derived.Outline
set_option linter.unusedVariables false
namespace Go.Proofs.YtloibeefopdhpaaDoor.G
open Go.RowKit Go.Proofs.YtloibeefopdhpaaDoorW.PrintWords Go.Proofs.YtloibeefopdhpaaDoorW.PrintLast Go.Proofs.YtloibeefopdhpaaDoorW.PrintMore
def sameC : List S134 → List S134 → Bool
  | c :: cs, d :: ds => (c.f0 == d.f0) && ((strOfNums c.f1).toList == (strOfNums d.f1).toList) && sameC cs ds
  | _, _ => true
def refSameX (k : Nat) : List S34 → List S34 → Option Bool
  | x :: xs, y :: ys => (rafterref35_Same.f k x.f0 x.f1 x.f2 x.f3.f0 x.f3.f1 x.f3.f2 x.f3.f3.f0 x.f3.f3.f1 x.f3.f3.f2 x.f3.f3.f3 y.f0 y.f1 y.f2 y.f3.f0 y.f3.f1 y.f3.f2 y.f3.f3.f0 y.f3.f3.f1 y.f3.f3.f2 y.f3.f3.f3).bind fun b => if b = true then refSameX k xs ys else some false
  | _, _ => some true
theorem refSameX_mono (k : Nat) : ∀ l m, LeO (refSameX k l m) (refSameX (k + 1) l m)
  | x :: xs, y :: ys => LeO.bind (rafterref35_Same.mono _ _ _ _ _ _ _ _ _ _ _ _ _ _ _ _ _ _ _ _ _) fun b => LeO.ite (refSameX_mono k xs ys) (LeO.refl _)
  | [], _ => LeO.refl _
  | _ :: _, [] => LeO.refl _
def rafterref40_Same.f (k : Nat) (a0_0 : Int) (l0_1 : List S134) (l0_2 : List S34) (a1_0 : Int) (l1_1 : List S134) (l1_2 : List S34) : Option Bool :=
  if a0_0 = a1_0 then (if l0_1.length = l1_1.length then (if l0_2.length = l1_2.length then (if sameC l0_1 l1_1 = true then refSameX k l0_2 l1_2 else some false) else some false) else some false) else some false
theorem rafterref40_Same.mono : ∀ a0 a1 a2 a3 a4 a5 k, LeO (rafterref40_Same.f k a0 a1 a2 a3 a4 a5) (rafterref40_Same.f (k + 1) a0 a1 a2 a3 a4 a5) := by
  intro a0 a1 a2 a3 a4 a5 k
  unfold rafterref40_Same.f
  exact LeO.ite (LeO.ite (LeO.ite (LeO.ite (refSameX_mono _ _ _) (LeO.refl _)) (LeO.refl _)) (LeO.refl _)) (LeO.refl _)
set_option maxHeartbeats 4000000 in
set_option maxRecDepth 100000 in
theorem rafterref40_Same.calls (k : Nat) (a0_0 : Int) (A0_1 : Option Addr) (c0_1 : Nat) (l0_1 : List S134) (A0_2 : Option Addr) (c0_2 : Nat) (l0_2 : List S34) (a1_0 : Int) (A1_1 : Option Addr) (c1_1 : Nat) (l1_1 : List S134) (A1_2 : Option Addr) (c1_2 : Nat) (l1_2 : List S34) (r : Bool) (w : World) (hr0_1 : Kd.C k134 w A0_1 l0_1.length l0_1) (hc0_1 : l0_1.length ≤ c0_1) (hr0_2 : Kd.C k34 w A0_2 l0_2.length l0_2) (hc0_2 : l0_2.length ≤ c0_2) (hr1_1 : Kd.C k134 w A1_1 l1_1.length l1_1) (hc1_1 : l1_1.length ≤ c1_1) (hr1_2 : Kd.C k34 w A1_2 l1_2.length l1_2) (hc1_2 : l1_2.length ≤ c1_2) (h : rafterref40_Same.f k a0_0 l0_1 l0_2 a1_0 l1_1 l1_2 = some r) :
    Calls Tryd.prog 50 #[.agg #[.int .i64 a0_0, .slice A0_1 l0_1.length c0_1, .slice A0_2 l0_2.length c0_2], .agg #[.int .i64 a1_0, .slice A1_1 l1_1.length c1_1, .slice A1_2 l1_2.length c1_2]] w fun e w' => e = .returned (.bool r) ∧ Below w.heap.size w w' := by
  have HR1 := Aside0.mk hr0_1
  have HR2 := Aside0.mk hr0_2
  have HQ1 := Aside0.mk hr1_1
  have HQ2 := Aside0.mk hr1_2
  clear hr0_1 hc0_1 hr0_2 hc0_2 hr1_1 hc1_1 hr1_2 hc1_2
  unfold rafterref40_Same.f at h
  go_enter Tryd.func50, Tryd.ntmps50
  go_upto_region 1 with (fail)
  obtain ⟨W, hW⟩ : ∃ W, W = (w.alloc (.cells #[.int .i64 a0_0, .slice A0_1 l0_1.length c0_1, .slice A0_2 l0_2.length c0_2] 76)).alloc (.cells #[.int .i64 a1_0, .slice A1_1 l1_1.length c1_1, .slice A1_2 l1_2.length c1_2] 76) := ⟨_, rfl⟩
  have HX : Aside0 (W.heap[w.heap.size]? = some (.cells #[.int .i64 a0_0, .slice A0_1 l0_1.length c0_1, .slice A0_2 l0_2.length c0_2] 76 (0, 0))) := ⟨by rw [hW]; exact blk_alloc (heap_alloc_new w _) _⟩
  have HY : Aside0 (W.heap[w.heap.size + 1]? = some (.cells #[.int .i64 a1_0, .slice A1_1 l1_1.length c1_1, .slice A1_2 l1_2.length c1_2] 76 (0, 0))) := ⟨by
    rw [hW]
    simpa using heap_alloc_new (w.alloc (.cells #[.int .i64 a0_0, .slice A0_1 l0_1.length c0_1, .slice A0_2 l0_2.length c0_2] 76)) (.cells #[.int .i64 a1_0, .slice A1_1 l1_1.length c1_1, .slice A1_2 l1_2.length c1_2] 76)⟩
  have HB : Aside0 (Below w.heap.size w W) := ⟨by rw [hW]; exact below_alloc (below_alloc (Below.refl _ _) _) _⟩
  rw [← hW]
  clear hW
  obtain ⟨x0, x1, x2, _⟩ := cells3 HX.out
  obtain ⟨y0, y1, y2, _⟩ := cells3 HY.out
  by_cases h0 : a0_0 = a1_0
  case neg =>
    rw [if_neg h0] at h
    injection h with h
    subst h
    have e0 : (a0_0 != a1_0) = true := bne_iff_ne.2 h0
    have e1 : (a0_0 == a1_0) = false := beq_eq_false_iff_ne.2 h0
    go_wp2
    go_ret
    exact ⟨rfl, HB.out⟩
  rw [if_pos h0] at h
  by_cases h1 : l0_1.length = l1_1.length
  case neg =>
    rw [if_neg h1] at h
    injection h with h
    subst h
    subst h0
    have e1 : ((l0_1.length : Int) != (l1_1.length : Int)) = true := bne_iff_ne.2 (by omega)
    have e2 : (l0_1.length == l1_1.length) = false := beq_eq_false_iff_ne.2 h1
    go_wp2
    go_ret
    exact ⟨rfl, HB.out⟩
  rw [if_pos h1] at h
  by_cases h2 : l0_2.length = l1_2.length
  case neg =>
    rw [if_neg h2] at h
    injection h with h
    subst h
    subst h0
    have e1 : ((l0_1.length : Int) != (l1_1.length : Int)) = false := bne_eq_false_iff_eq.2 (by omega)
    have e2 : (l0_1.length == l1_1.length) = true := beq_iff_eq.2 h1
    have e3 : ((l0_2.length : Int) != (l1_2.length : Int)) = true := bne_iff_ne.2 (by omega)
    have e4 : (l0_2.length == l1_2.length) = false := beq_eq_false_iff_ne.2 h2
    clear h1
    go_wp2
    go_ret
    exact ⟨rfl, HB.out⟩
  rw [if_pos h2] at h
  subst h0
  have e1 : ((l0_1.length : Int) != (l1_1.length : Int)) = false := bne_eq_false_iff_eq.2 (by omega)
  have e2 : (l0_1.length == l1_1.length) = true := beq_iff_eq.2 h1
  have e3 : ((l0_2.length : Int) != (l1_2.length : Int)) = false := bne_eq_false_iff_eq.2 (by omega)
  have e4 : (l0_2.length == l1_2.length) = true := beq_iff_eq.2 h2
  have HL := Aside0.mk (And.intro h1 h2)
  have HF := Aside0.mk h
  clear h1 h2 h
  go_wp2
  clear e1 e2 e3 e4 x0 x1 x2 y0 y1 y2
  go_loopg [5] l0_1.length (fun gk v5 w' => ∃ i : Nat, v5 = .int .i64 i ∧ Aside0 (i + gk = l0_1.length) ∧ Aside0 (sameC (l0_1.drop i) (l1_1.drop i) = sameC l0_1 l1_1) ∧ Aside0 (Below w.heap.size w w') ∧ Aside0 (w'.heap[w.heap.size]? = some (.cells #[.int .i64 a0_0, .slice A0_1 l0_1.length c0_1, .slice A0_2 l0_2.length c0_2] 76 (0, 0))) ∧ Aside0 (w'.heap[w.heap.size + 1]? = some (.cells #[.int .i64 a0_0, .slice A1_1 l1_1.length c1_1, .slice A1_2 l1_2.length c1_2] 76 (0, 0))))
  case atStart => exact ⟨0, rfl, ⟨by omega⟩, ⟨rfl⟩, HB, HX, HY⟩
  case round =>
    clear HB HX HY
    obtain ⟨i, rfl, HI, HC, HB, HX, HY⟩ := hrel
    have hm := Kd.C_max HR1.out
    obtain ⟨x0, x1, x2, _⟩ := cells3 HX.out
    obtain ⟨y0, y1, y2, _⟩ := cells3 HY.out
    by_cases hi : i < l0_1.length
    · have hi' : (i : Int) < (l0_1.length : Int) := by omega
      have hj : i < l1_1.length := by have := HL.out.1; omega
      have hj' : (i : Int) < (l1_1.length : Int) := by omega
      obtain ⟨ad, A1, c1, e0, u0, u1, g1, q1⟩ := at_T134 (Kd.C_below HR1.out HB.out) (i : Int) (by omega) hi'
      obtain ⟨bd, B1, d1, e1, v0, v1, g2, q2⟩ := at_T134 (Kd.C_below HQ1.out HB.out) (i : Int) (by omega) hj'
      rw [Int.toNat_natCast] at u0 u1 v0 v1
      have hrd : l0_1.drop i = rd_T134 l0_1 (i : Int) :: l0_1.drop (i + 1) := by
        rw [List.drop_eq_getElem_cons hi]
        simp [rd_T134, hi]
      have hrd2 : l1_1.drop i = rd_T134 l1_1 (i : Int) :: l1_1.drop (i + 1) := by
        rw [List.drop_eq_getElem_cons hj]
        simp [rd_T134, hj]
      have h := HC.out
      rw [hrd, hrd2, sameC] at h
      generalize rd_T134 l0_1 (i : Int) = c at *
      generalize rd_T134 l1_1 (i : Int) = d at *
      cases e0
      cases e1
      have hcv1 := fun nn => Kd.C_string (P := Tryd.prog) (A := A1) (c := c1) Tryd.underlying69 Tryd.underlying5 Tryd.underlying9 (Kd.C_drewN q1 nn)
      have hcv2 := fun nn => Kd.C_string (P := Tryd.prog) (A := B1) (c := d1) Tryd.underlying69 Tryd.underlying5 Tryd.underlying9 (Kd.C_drewN q2 nn)
      have p1 : (0 ≤ (i : Int)) = True := eq_true (by omega)
      have p2 : ((i : Int) < (l0_1.length : Int)) = True := eq_true hi'
      have p3 : ((i : Int) < (l1_1.length : Int)) = True := eq_true hj'
      have hi9 : (i : Int) + 1 ≤ 9223372036854775807 := by omega
      clear hrd hrd2 HC q1 q2
      cases hs0 : (c.f0 == d.f0) with
      | false =>
        have hs1 : (c.f0 != d.f0) = true := by rw [bne, hs0]; rfl
        rw [hs0] at h
        simp only [Bool.false_and] at h
        have hf := HF.out
        rw [← h, if_neg (by decide)] at hf
        injection hf with hf
        subst hf
        clear h HF
        go_upto_region 6 with (fail)
        repeat (go_quiet (fail); try go_wp2)
        go_ret
        exact ⟨rfl, pw_below_drewN HB.out _⟩
      | true =>
        have hs1 : (c.f0 != d.f0) = false := by rw [bne, hs0]; rfl
        rw [hs0, Bool.true_and] at h
        cases ht0 : ((strOfNums c.f1).toList == (strOfNums d.f1).toList) with
        | false =>
          have ht1 : ((strOfNums c.f1).toList != (strOfNums d.f1).toList) = true := by rw [bne, ht0]; rfl
          rw [ht0, Bool.false_and] at h
          have hf := HF.out
          rw [← h, if_neg (by decide)] at hf
          injection hf with hf
          subst hf
          clear h HF
          go_upto_region 6 with (fail)
          repeat (go_quiet (fail); try go_wp2)
          go_ret
          exact ⟨rfl, pw_below_drewN HB.out _⟩
        | true =>
          have ht1 : ((strOfNums c.f1).toList != (strOfNums d.f1).toList) = false := by rw [bne, ht0]; rfl
          rw [ht0, Bool.true_and] at h
          have HC2 := Aside0.mk h
          clear h
          go_upto_region 6 with (fail)
          repeat (go_quiet (fail); try go_wp2)
          go_roundg (gk - 1)
          case measure => have := HI.out; omega
          case rel => exact ⟨i + 1, by go_num, ⟨by have := HI.out; omega⟩, HC2, ⟨pw_below_drewN HB.out _⟩, ⟨blk_drewN HX.out _⟩, ⟨blk_drewN HY.out _⟩⟩
    · have hi' : ¬ (i : Int) < (l0_1.length : Int) := by omega
      have h := HC.out
      rw [List.drop_eq_nil_of_le (by omega), sameC] at h
      have hf := HF.out
      rw [← h, if_pos rfl] at hf
      have HF2 := Aside0.mk hf
      clear h hf HF HC HI hi hm
      go_wp2
      clear x0 x1 x2 y0 y1 y2 hi'
      go_loopg [6] l0_2.length (fun gk v6 w' => ∃ i : Nat, v6 = .int .i64 i ∧ Aside0 (i + gk = l0_2.length) ∧ Aside0 (refSameX k (l0_2.drop i) (l1_2.drop i) = some r) ∧ Aside0 (Below w.heap.size w w') ∧ Aside0 (w'.heap[w.heap.size]? = some (.cells #[.int .i64 a0_0, .slice A0_1 l0_1.length c0_1, .slice A0_2 l0_2.length c0_2] 76 (0, 0))) ∧ Aside0 (w'.heap[w.heap.size + 1]? = some (.cells #[.int .i64 a0_0, .slice A1_1 l1_1.length c1_1, .slice A1_2 l1_2.length c1_2] 76 (0, 0))))
      case atStart => exact ⟨0, rfl, ⟨by omega⟩, HF2, HB, HX, HY⟩
      case round =>
        clear HB HX HY HF2
        obtain ⟨i, rfl, HI, HC, HB, HX, HY⟩ := hrel
        have hm := Kd.C_max HR2.out
        obtain ⟨x0, x1, x2, _⟩ := cells3 HX.out
        obtain ⟨y0, y1, y2, _⟩ := cells3 HY.out
        by_cases hi : i < l0_2.length
        · have hi' : (i : Int) < (l0_2.length : Int) := by omega
          have hj : i < l1_2.length := by have := HL.out.2; omega
          have hj' : (i : Int) < (l1_2.length : Int) := by omega
          obtain ⟨ad, A5, c5, A9, c9, e0, u0, u1, u2, u3, u4, u5, u6, u7, u8, u9, g5, q5, g9, q9⟩ := at_T34 (Kd.C_below HR2.out HB.out) (i : Int) (by omega) hi'
          obtain ⟨bd, B5, d5, B9, d9, e1, v0, v1, v2, v3, v4, v5, v6, v7, v8, v9, j5, p5, j9, p9⟩ := at_T34 (Kd.C_below HQ2.out HB.out) (i : Int) (by omega) hj'
          rw [Int.toNat_natCast] at u0 u1 u2 u3 u4 u5 u6 u7 u8 u9 v0 v1 v2 v3 v4 v5 v6 v7 v8 v9
          have hrd : l0_2.drop i = rd_T34 l0_2 (i : Int) :: l0_2.drop (i + 1) := by
            rw [List.drop_eq_getElem_cons hi]
            simp [rd_T34, hi]
          have hrd2 : l1_2.drop i = rd_T34 l1_2 (i : Int) :: l1_2.drop (i + 1) := by
            rw [List.drop_eq_getElem_cons hj]
            simp [rd_T34, hj]
          have h := HC.out
          rw [hrd, hrd2, refSameX] at h
          generalize rd_T34 l0_2 (i : Int) = x at *
          generalize rd_T34 l1_2 (i : Int) = y at *
          obtain ⟨b, h1, h⟩ := Option.bind_eq_some_iff.mp h
          cases e0
          cases e1
          have H4 := Aside0.mk (fun W e1 e2 e3 e4 => rafterref35_Same.calls k x.f0 x.f1 x.f2 x.f3.f0 x.f3.f1 A5 c5 x.f3.f2 x.f3.f3.f0 x.f3.f3.f1 x.f3.f3.f2 A9 c9 x.f3.f3.f3 y.f0 y.f1 y.f2 y.f3.f0 y.f3.f1 B5 d5 y.f3.f2 y.f3.f3.f0 y.f3.f3.f1 y.f3.f3.f2 B9 d9 y.f3.f3.f3 b W e1 g5 e2 g9 e3 j5 e4 j9 h1)
          have HP := Aside0.mk (And.intro (And.intro q5 q9) (And.intro p5 p9))
          have HF3 := Aside0.mk h
          have r1 : (0 ≤ (i : Int)) = True := eq_true (by omega)
          have r2 : ((i : Int) < (l0_2.length : Int)) = True := eq_true hi'
          have r3 : ((i : Int) < (l1_2.length : Int)) = True := eq_true hj'
          have hi9 : (i : Int) + 1 ≤ 9223372036854775807 := by omega
          clear hrd hrd2 HC g5 q5 g9 q9 j5 p5 j9 p9 h h1
          go_upto_region 11 with (fail)
          go_region_held3 (fun w' => w'.cell? ⟨w.heap.size, 2, none⟩ = some (.slice (some ad) l0_2.length c0_2) ∧ w'.cell? ⟨w.heap.size + 1, 2, none⟩ = some (.slice (some bd) l1_2.length c1_2) ∧ w'.cell? (ad.add (i * 10)) = some (.int .i64 x.f0) ∧ w'.cell? ⟨(ad.add (i * 10)).block, (ad.add (i * 10)).off + 1, none⟩ = some (.string x.f1) ∧ w'.cell? ⟨(ad.add (i * 10)).block, (ad.add (i * 10)).off + 2, none⟩ = some (.string x.f2) ∧ w'.cell? ⟨(ad.add (i * 10)).block, (ad.add (i * 10)).off + 3, none⟩ = some (.int .i64 x.f3.f0) ∧ w'.cell? ⟨(ad.add (i * 10)).block, (ad.add (i * 10)).off + 4, none⟩ = some (.string x.f3.f1) ∧ w'.cell? ⟨(ad.add (i * 10)).block, (ad.add (i * 10)).off + 5, none⟩ = some (.slice A5 x.f3.f2.length c5) ∧ w'.cell? ⟨(ad.add (i * 10)).block, (ad.add (i * 10)).off + 6, none⟩ = some (.int .i64 x.f3.f3.f0) ∧ w'.cell? ⟨(ad.add (i * 10)).block, (ad.add (i * 10)).off + 7, none⟩ = some (.string x.f3.f3.f1) ∧ w'.cell? ⟨(ad.add (i * 10)).block, (ad.add (i * 10)).off + 8, none⟩ = some (.string x.f3.f3.f2) ∧ w'.cell? ⟨(ad.add (i * 10)).block, (ad.add (i * 10)).off + 9, none⟩ = some (.slice A9 x.f3.f3.f3.length c9) ∧ w'.cell? (bd.add (i * 10)) = some (.int .i64 y.f0) ∧ w'.cell? ⟨(bd.add (i * 10)).block, (bd.add (i * 10)).off + 1, none⟩ = some (.string y.f1) ∧ w'.cell? ⟨(bd.add (i * 10)).block, (bd.add (i * 10)).off + 2, none⟩ = some (.string y.f2) ∧ w'.cell? ⟨(bd.add (i * 10)).block, (bd.add (i * 10)).off + 3, none⟩ = some (.int .i64 y.f3.f0) ∧ w'.cell? ⟨(bd.add (i * 10)).block, (bd.add (i * 10)).off + 4, none⟩ = some (.string y.f3.f1) ∧ w'.cell? ⟨(bd.add (i * 10)).block, (bd.add (i * 10)).off + 5, none⟩ = some (.slice B5 y.f3.f2.length d5) ∧ w'.cell? ⟨(bd.add (i * 10)).block, (bd.add (i * 10)).off + 6, none⟩ = some (.int .i64 y.f3.f3.f0) ∧ w'.cell? ⟨(bd.add (i * 10)).block, (bd.add (i * 10)).off + 7, none⟩ = some (.string y.f3.f3.f1) ∧ w'.cell? ⟨(bd.add (i * 10)).block, (bd.add (i * 10)).off + 8, none⟩ = some (.string y.f3.f3.f2) ∧ w'.cell? ⟨(bd.add (i * 10)).block, (bd.add (i * 10)).off + 9, none⟩ = some (.slice B9 y.f3.f3.f3.length d9)) (exact ⟨x2, y2, u0, u1, u2, u3, u4, u5, u6, u7, u8, u9, v0, v1, v2, v3, v4, v5, v6, v7, v8, v9⟩) (first | (go_at_call 20; refine (H4.out _ (Kd.C_drew HP.out.1.1) (Kd.C_drew HP.out.1.2) (Kd.C_drew HP.out.2.1) (Kd.C_drew HP.out.2.2)).mono ?_; rintro e_ w5 ⟨rfl, hb⟩; have HB5 := Aside0.mk (below_then (below_drew HB.out) (below_drew HB.out).size hb); have HX5 := Aside0.mk (blk_below (blk_drew HX.out) hb); have HY5 := Aside0.mk (blk_below (blk_drew HY.out) hb); clear x2 y2; obtain ⟨_, _, x2, _⟩ := cells3 HX5.out; obtain ⟨_, _, y2, _⟩ := cells3 HY5.out; replace u0 := (hb.cell (World.block_lt_of_cell? _ _ u0)).trans u0; replace u1 := (hb.cell (World.block_lt_of_cell? _ _ u1)).trans u1; replace u2 := (hb.cell (World.block_lt_of_cell? _ _ u2)).trans u2; replace u3 := (hb.cell (World.block_lt_of_cell? _ _ u3)).trans u3; replace u4 := (hb.cell (World.block_lt_of_cell? _ _ u4)).trans u4; replace u5 := (hb.cell (World.block_lt_of_cell? _ _ u5)).trans u5; replace u6 := (hb.cell (World.block_lt_of_cell? _ _ u6)).trans u6; replace u7 := (hb.cell (World.block_lt_of_cell? _ _ u7)).trans u7; replace u8 := (hb.cell (World.block_lt_of_cell? _ _ u8)).trans u8; replace u9 := (hb.cell (World.block_lt_of_cell? _ _ u9)).trans u9; replace v0 := (hb.cell (World.block_lt_of_cell? _ _ v0)).trans v0; replace v1 := (hb.cell (World.block_lt_of_cell? _ _ v1)).trans v1; replace v2 := (hb.cell (World.block_lt_of_cell? _ _ v2)).trans v2; replace v3 := (hb.cell (World.block_lt_of_cell? _ _ v3)).trans v3; replace v4 := (hb.cell (World.block_lt_of_cell? _ _ v4)).trans v4; replace v5 := (hb.cell (World.block_lt_of_cell? _ _ v5)).trans v5; replace v6 := (hb.cell (World.block_lt_of_cell? _ _ v6)).trans v6; replace v7 := (hb.cell (World.block_lt_of_cell? _ _ v7)).trans v7; replace v8 := (hb.cell (World.block_lt_of_cell? _ _ v8)).trans v8; replace v9 := (hb.cell (World.block_lt_of_cell? _ _ v9)).trans v9; clear hb))
          have h := HF3.out
          clear HF3 H4 HP u0 u1 u2 u3 u4 u5 u6 u7 u8 u9 v0 v1 v2 v3 v4 v5 v6 v7 v8 v9 x0 x1 x2 y0 y1 y2 r1 r2 r3 HB HX HY
          cases b with
          | false =>
            rw [if_neg (by decide)] at h
            injection h with h
            subst h
            go_simp
            go_wp2
            go_ret
            exact ⟨rfl, HB5.out⟩
          | true =>
            rw [if_pos rfl] at h
            have HC2 := Aside0.mk h
            clear h
            go_simp
            go_wp2
            go_roundg (gk - 1)
            case measure => have := HI.out; omega
            case rel => exact ⟨i + 1, by go_num, ⟨by have := HI.out; omega⟩, HC2, HB5, HX5, HY5⟩
        · have hi' : ¬ (i : Int) < (l0_2.length : Int) := by omega
          have h := HC.out
          rw [List.drop_eq_nil_of_le (by omega), refSameX] at h
          injection h with h
          subst h
          go_wp2
          go_ret
          exact ⟨rfl, HB.out⟩
end Go.Proofs.YtloibeefopdhpaaDoor.G
