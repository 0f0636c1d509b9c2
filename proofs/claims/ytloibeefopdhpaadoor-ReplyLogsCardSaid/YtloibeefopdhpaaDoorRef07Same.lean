/- The reference: are steps of a tree the same: the walk. -/
import Derived.Test.YtloibeefopdhpaaDoorG22
import Derived.Deep.RegionHeld3
import Derived.Outline
set_option linter.unusedVariables false
namespace Go.Proofs.YtloibeefopdhpaaDoor.G
open Go.RowKit Go.Proofs.YtloibeefopdhpaaDoorW.PrintWords Go.Proofs.YtloibeefopdhpaaDoorW.PrintLast Go.Proofs.YtloibeefopdhpaaDoorW.PrintMore

def rafterref07_Same.l0 (k : Nat) : List S108 → List S108 → Option Bool
  | x :: xs, y :: ys => if x.f0 = y.f0 then (if x.f1.toList = y.f1.toList then (if x.f2.toList = y.f2.toList then (if x.f3 = y.f3 then ((rafterref01_Same.f k x.f4 y.f4).bind fun b4 => if b4 = true then (rafterref01_Same.f k x.f5 y.f5).bind fun b5 => if b5 = true then rafterref07_Same.l0 k xs ys else some false else some false) else some false) else some false) else some false) else some false
  | _, _ => some true
theorem rafterref07_Same.l0_mono (k : Nat) : ∀ l m, LeO (rafterref07_Same.l0 k l m) (rafterref07_Same.l0 (k + 1) l m)
  | x :: xs, y :: ys => LeO.ite (LeO.ite (LeO.ite (LeO.ite (LeO.bind (rafterref01_Same.mono _ _ _) fun b4 => LeO.ite (LeO.bind (rafterref01_Same.mono _ _ _) fun b5 => LeO.ite (rafterref07_Same.l0_mono k xs ys) (LeO.refl _)) (LeO.refl _)) (LeO.refl _)) (LeO.refl _)) (LeO.refl _)) (LeO.refl _)
  | [], _ => LeO.refl _
  | _ :: _, [] => LeO.refl _
def rafterref07_Same.f (k : Nat) (l0 l1 : List S108) : Option Bool := if l0.length = l1.length then rafterref07_Same.l0 k l0 l1 else some false
theorem rafterref07_Same.mono : ∀ a0 a1 k, LeO (rafterref07_Same.f k a0 a1) (rafterref07_Same.f (k + 1) a0 a1) := by
  intro a0 a1 k
  unfold rafterref07_Same.f
  exact LeO.ite (rafterref07_Same.l0_mono _ _ _) (LeO.refl _)
/-- Its region goes in the text's order (checked once). -/
theorem rafterref07_Same.lex : Region.lexB .any (opsOf Tryd.f87 6) = true := by kernel_rfl

set_option maxHeartbeats 8000000 in
set_option maxRecDepth 100000 in
theorem rafterref07_Same.calls (k : Nat) (A0 : Option Addr) (c0 : Nat) (l0 : List S108) (A1 : Option Addr) (c1 : Nat) (l1 : List S108) (r : Bool) (w : World) (hr0 : Kd.C k108 w A0 l0.length l0) (hc0 : l0.length ≤ c0) (hr1 : Kd.C k108 w A1 l1.length l1) (hc1 : l1.length ≤ c1) (h : rafterref07_Same.f k l0 l1 = some r) :
    Calls Tryd.prog 87 #[.slice A0 l0.length c0, .slice A1 l1.length c1] w fun e w' => e = .returned (.bool r) ∧ Below w.heap.size w w' := by
  have HR0 := Aside0.mk hr0
  have HR1 := Aside0.mk hr1
  have HB := Aside0.mk (Below.refl w.heap.size w)
  clear hr0 hr1 hc0 hc1
  unfold rafterref07_Same.f at h
  go_enter Tryd.func87, Tryd.ntmps87
  by_cases hl : l0.length = l1.length
  case neg =>
    rw [if_neg hl] at h
    injection h with h
    subst h
    have e1 : ((l0.length : Int) != (l1.length : Int)) = true := bne_iff_ne.2 (by omega)
    have e2 : (l0.length == l1.length) = false := beq_eq_false_iff_ne.2 hl
    go_wp2
    go_ret
    exact ⟨rfl, HB.out⟩
  rw [if_pos hl] at h
  have e1 : ((l0.length : Int) != (l1.length : Int)) = false := bne_eq_false_iff_eq.2 (by omega)
  have e2 : (l0.length == l1.length) = true := beq_iff_eq.2 hl
  have HL := Aside0.mk hl
  have HF := Aside0.mk h
  clear hl h
  go_wp2
  clear e1 e2
  go_loopg [5] l0.length (fun gk v5 w' => ∃ i : Nat, v5 = .int .i64 i ∧ Aside0 (i + gk = l0.length) ∧ Aside0 (rafterref07_Same.l0 k (l0.drop i) (l1.drop i) = some r) ∧ Aside0 (Below w.heap.size w w'))
  case atStart => exact ⟨0, rfl, ⟨by omega⟩, HF, HB⟩
  case round =>
    clear HB HF
    obtain ⟨i, rfl, HI, HC, HB⟩ := hrel
    have hm := Kd.C_max HR0.out
    by_cases hi : i < l0.length
    case neg =>
      have hi' : ¬ (i : Int) < (l0.length : Int) := by omega
      have h := HC.out
      rw [List.drop_eq_nil_of_le (by omega), rafterref07_Same.l0] at h
      injection h with h
      subst h
      go_wp2
      go_ret
      exact ⟨rfl, HB.out⟩
      all_goals
        intro x xs y ys hx
        cases hx
    have hi' : (i : Int) < (l0.length : Int) := by omega
    have hj : i < l1.length := by have := HL.out; omega
    have hj' : (i : Int) < (l1.length : Int) := by omega
    obtain ⟨ad, A4, c4, A5, c5, e0, u0, u1, u2, u3, u4, u5, g4, q4, g5, q5⟩ := at_T108 (Kd.C_below HR0.out HB.out) (i : Int) (by omega) hi'
    obtain ⟨bd, B4, d4, B5, d5, e1, v0, v1, v2, v3, v4, v5, j4, p4, j5, p5⟩ := at_T108 (Kd.C_below HR1.out HB.out) (i : Int) (by omega) hj'
    rw [Int.toNat_natCast] at u0 u1 u2 u3 u4 u5 v0 v1 v2 v3 v4 v5
    have hrd : l0.drop i = rd_T108 l0 (i : Int) :: l0.drop (i + 1) := by
      rw [List.drop_eq_getElem_cons hi]
      simp [rd_T108, hi]
    have hrd2 : l1.drop i = rd_T108 l1 (i : Int) :: l1.drop (i + 1) := by
      rw [List.drop_eq_getElem_cons hj]
      simp [rd_T108, hj]
    have h := HC.out
    rw [hrd, hrd2, rafterref07_Same.l0] at h
    generalize rd_T108 l0 (i : Int) = x at *
    generalize rd_T108 l1 (i : Int) = y at *
    cases e0
    cases e1
    have HP4 := Aside0.mk (And.intro q4 p4)
    have HP5 := Aside0.mk (And.intro q5 p5)
    have r1 : (0 ≤ (i : Int)) = True := eq_true (by omega)
    have r2 : ((i : Int) < (l0.length : Int)) = True := eq_true hi'
    have r3 : ((i : Int) < (l1.length : Int)) = True := eq_true hj'
    have hi9 : (i : Int) + 1 ≤ 9223372036854775807 := by omega
    clear hrd hrd2 HC q4 p4 q5 p5
    by_cases s0 : x.f0 = y.f0
    case neg =>
      rw [if_neg s0] at h
      injection h with h
      subst h
      have t0 : (x.f0 != y.f0) = true := bne_iff_ne.2 s0
      have t0b : (x.f0 == y.f0) = false := beq_eq_false_iff_ne.2 s0
      clear s0
      go_upto_region 6 with (fail)
      dsimp only [List.append]
      refine wp_region_quiet_lit (by kernel_rfl) rafterref07_Same.lex ?_
      repeat (go_big_quiet_step (fail))
      refine wpQuiet_nil ?_
      intro _ hw'
      obtain ⟨nq, hw''⟩ := hw'
      subst hw''
      go_wp2
      go_ret
      exact ⟨rfl, pw_below_drewN HB.out _⟩
    rw [if_pos s0] at h
    have t0 : (x.f0 != y.f0) = false := bne_eq_false_iff_eq.2 s0
    have t0b : (x.f0 == y.f0) = true := beq_iff_eq.2 s0
    clear s0
    by_cases s1 : x.f1.toList = y.f1.toList
    case neg =>
      rw [if_neg s1] at h
      injection h with h
      subst h
      have t1 : (x.f1.toList != y.f1.toList) = true := bne_iff_ne.2 s1
      have t1b : (x.f1.toList == y.f1.toList) = false := beq_eq_false_iff_ne.2 s1
      clear s1
      go_upto_region 6 with (fail)
      dsimp only [List.append]
      refine wp_region_quiet_lit (by kernel_rfl) rafterref07_Same.lex ?_
      repeat (go_big_quiet_step (fail))
      refine wpQuiet_nil ?_
      intro _ hw'
      obtain ⟨nq, hw''⟩ := hw'
      subst hw''
      go_wp2
      go_ret
      exact ⟨rfl, pw_below_drewN HB.out _⟩
    rw [if_pos s1] at h
    have t1 : (x.f1.toList != y.f1.toList) = false := bne_eq_false_iff_eq.2 s1
    have t1b : (x.f1.toList == y.f1.toList) = true := beq_iff_eq.2 s1
    clear s1
    by_cases s2 : x.f2.toList = y.f2.toList
    case neg =>
      rw [if_neg s2] at h
      injection h with h
      subst h
      have t2 : (x.f2.toList != y.f2.toList) = true := bne_iff_ne.2 s2
      have t2b : (x.f2.toList == y.f2.toList) = false := beq_eq_false_iff_ne.2 s2
      clear s2
      go_upto_region 6 with (fail)
      dsimp only [List.append]
      refine wp_region_quiet_lit (by kernel_rfl) rafterref07_Same.lex ?_
      repeat (go_big_quiet_step (fail))
      refine wpQuiet_nil ?_
      intro _ hw'
      obtain ⟨nq, hw''⟩ := hw'
      subst hw''
      go_wp2
      go_ret
      exact ⟨rfl, pw_below_drewN HB.out _⟩
    rw [if_pos s2] at h
    have t2 : (x.f2.toList != y.f2.toList) = false := bne_eq_false_iff_eq.2 s2
    have t2b : (x.f2.toList == y.f2.toList) = true := beq_iff_eq.2 s2
    clear s2
    by_cases s3 : x.f3 = y.f3
    case neg =>
      rw [if_neg s3] at h
      injection h with h
      subst h
      have t3 : (x.f3 != y.f3) = true := bne_iff_ne.2 s3
      have t3b : (x.f3 == y.f3) = false := beq_eq_false_iff_ne.2 s3
      clear s3
      go_upto_region 6 with (fail)
      dsimp only [List.append]
      refine wp_region_quiet_lit (by kernel_rfl) rafterref07_Same.lex ?_
      repeat (go_big_quiet_step (fail))
      refine wpQuiet_nil ?_
      intro _ hw'
      obtain ⟨nq, hw''⟩ := hw'
      subst hw''
      go_wp2
      go_ret
      exact ⟨rfl, pw_below_drewN HB.out _⟩
    rw [if_pos s3] at h
    have t3 : (x.f3 != y.f3) = false := bne_eq_false_iff_eq.2 s3
    have t3b : (x.f3 == y.f3) = true := beq_iff_eq.2 s3
    clear s3
    obtain ⟨b4, h4, h⟩ := Option.bind_eq_some_iff.mp h
    have H4 := Aside0.mk (fun W e1 e2 => rafterref01_Same.calls k A4 c4 x.f4 B4 d4 y.f4 b4 W e1 g4 e2 j4 h4)
    clear h4
    cases b4 with
    | false =>
      rw [if_neg (by decide)] at h
      injection h with h
      subst h
      go_upto_region 6 with (fail)
      dsimp only [List.append]
      refine wp_region_quiet_lit (by kernel_rfl) rafterref07_Same.lex ?_
      repeat (go_big_quiet_step ((go_at_call_of 64 A4; exact Calls.quiet_of ((H4.out _ (Kd.C_drewN HP4.out.1 _) (Kd.C_drewN HP4.out.2 _)).mono (by rintro e_ w5 ⟨rfl, ⟨⟨n5, rfl⟩⟩⟩; exact ⟨rfl, n5, rfl⟩)))))
      refine wpQuiet_nil ?_
      intro _ hw'
      obtain ⟨nq, hw''⟩ := hw'
      subst hw''
      go_wp2
      go_ret
      exact ⟨rfl, pw_below_drewN HB.out _⟩
    | true =>
      rw [if_pos rfl] at h
      obtain ⟨b5, h5, h⟩ := Option.bind_eq_some_iff.mp h
      have H5 := Aside0.mk (fun W e1 e2 => rafterref01_Same.calls k A5 c5 x.f5 B5 d5 y.f5 b5 W e1 g5 e2 j5 h5)
      clear h5
      cases b5 with
      | false =>
        rw [if_neg (by decide)] at h
        injection h with h
        subst h
        go_upto_region 6 with (fail)
        dsimp only [List.append]
        refine wp_region_quiet_lit (by kernel_rfl) rafterref07_Same.lex ?_
        repeat (go_big_quiet_step (first | (go_at_call_of 64 A4; exact Calls.quiet_of ((H4.out _ (Kd.C_drewN HP4.out.1 _) (Kd.C_drewN HP4.out.2 _)).mono (by rintro e_ w5 ⟨rfl, ⟨⟨n5, rfl⟩⟩⟩; exact ⟨rfl, n5, rfl⟩))) | (go_at_call_of 64 A5; exact Calls.quiet_of ((H5.out _ (Kd.C_drewN HP5.out.1 _) (Kd.C_drewN HP5.out.2 _)).mono (by rintro e_ w5 ⟨rfl, ⟨⟨n5, rfl⟩⟩⟩; exact ⟨rfl, n5, rfl⟩)))))
        refine wpQuiet_nil ?_
        intro _ hw'
        obtain ⟨nq, hw''⟩ := hw'
        subst hw''
        go_wp2
        go_ret
        exact ⟨rfl, pw_below_drewN HB.out _⟩
      | true =>
        rw [if_pos rfl] at h
        have HC2 := Aside0.mk h
        clear h
        go_upto_region 6 with (fail)
        dsimp only [List.append]
        refine wp_region_quiet_lit (by kernel_rfl) rafterref07_Same.lex ?_
        repeat (go_big_quiet_step (first | (go_at_call_of 64 A4; exact Calls.quiet_of ((H4.out _ (Kd.C_drewN HP4.out.1 _) (Kd.C_drewN HP4.out.2 _)).mono (by rintro e_ w5 ⟨rfl, ⟨⟨n5, rfl⟩⟩⟩; exact ⟨rfl, n5, rfl⟩))) | (go_at_call_of 64 A5; exact Calls.quiet_of ((H5.out _ (Kd.C_drewN HP5.out.1 _) (Kd.C_drewN HP5.out.2 _)).mono (by rintro e_ w5 ⟨rfl, ⟨⟨n5, rfl⟩⟩⟩; exact ⟨rfl, n5, rfl⟩)))))
        refine wpQuiet_nil ?_
        intro _ hw'
        obtain ⟨nq, hw''⟩ := hw'
        subst hw''
        go_wp2
        go_roundg (gk - 1)
        case measure => have := HI.out; omega
        case rel => exact ⟨i + 1, by go_num, ⟨by have := HI.out; omega⟩, HC2, ⟨pw_below_drewN HB.out _⟩⟩
end Go.Proofs.YtloibeefopdhpaaDoor.G
