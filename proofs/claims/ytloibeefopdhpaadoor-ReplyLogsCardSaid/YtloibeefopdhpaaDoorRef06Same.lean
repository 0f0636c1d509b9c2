/- The reference: are files the same: the walk. -/
import Derived.Test.YtloibeefopdhpaaDoorG22
import Derived.Deep.RegionHeld3
import Derived.Outline
set_option linter.unusedVariables false
namespace Go.Proofs.YtloibeefopdhpaaDoor.G
open Go.RowKit Go.Proofs.YtloibeefopdhpaaDoorW.PrintWords Go.Proofs.YtloibeefopdhpaaDoorW.PrintLast Go.Proofs.YtloibeefopdhpaaDoorW.PrintMore

def rafterref06_Same.l0 (k : Nat) : List S102 → List S102 → Option Bool
  | x :: xs, y :: ys => if x.f0.toList = y.f0.toList then (if x.f1 = y.f1 then ((rafterref01_Same.f k x.f2 y.f2).bind fun b2 => if b2 = true then rafterref06_Same.l0 k xs ys else some false) else some false) else some false
  | _, _ => some true
theorem rafterref06_Same.l0_mono (k : Nat) : ∀ l m, LeO (rafterref06_Same.l0 k l m) (rafterref06_Same.l0 (k + 1) l m)
  | x :: xs, y :: ys => LeO.ite (LeO.ite (LeO.bind (rafterref01_Same.mono _ _ _) fun b2 => LeO.ite (rafterref06_Same.l0_mono k xs ys) (LeO.refl _)) (LeO.refl _)) (LeO.refl _)
  | [], _ => LeO.refl _
  | _ :: _, [] => LeO.refl _
def rafterref06_Same.f (k : Nat) (l0 l1 : List S102) : Option Bool := if l0.length = l1.length then rafterref06_Same.l0 k l0 l1 else some false
theorem rafterref06_Same.mono : ∀ a0 a1 k, LeO (rafterref06_Same.f k a0 a1) (rafterref06_Same.f (k + 1) a0 a1) := by
  intro a0 a1 k
  unfold rafterref06_Same.f
  exact LeO.ite (rafterref06_Same.l0_mono _ _ _) (LeO.refl _)
/-- Its region goes in the text's order (checked once). -/
theorem rafterref06_Same.lex : Region.lexB .any (opsOf Tryd.f88 6) = true := by kernel_rfl

set_option maxHeartbeats 8000000 in
set_option maxRecDepth 100000 in
theorem rafterref06_Same.calls (k : Nat) (A0 : Option Addr) (c0 : Nat) (l0 : List S102) (A1 : Option Addr) (c1 : Nat) (l1 : List S102) (r : Bool) (w : World) (hr0 : Kd.C k102 w A0 l0.length l0) (hc0 : l0.length ≤ c0) (hr1 : Kd.C k102 w A1 l1.length l1) (hc1 : l1.length ≤ c1) (h : rafterref06_Same.f k l0 l1 = some r) :
    Calls Tryd.prog 88 #[.slice A0 l0.length c0, .slice A1 l1.length c1] w fun e w' => e = .returned (.bool r) ∧ Below w.heap.size w w' := by
  have HR0 := Aside0.mk hr0
  have HR1 := Aside0.mk hr1
  have HB := Aside0.mk (Below.refl w.heap.size w)
  clear hr0 hr1 hc0 hc1
  unfold rafterref06_Same.f at h
  go_enter Tryd.func88, Tryd.ntmps88
  by_cases hl : l0.length = l1.length
  case neg =>
    rw [if_neg hl] at h
    injection h with h
    subst h
    have e1 : ((l0.length : Int) != (l1.length : Int)) = true := bne_iff_ne.2 (by omega)
    have e2 : (l0.length == l1.length) = false := beq_eq_false_iff_ne.2 hl
    go_wp2
    go_ret
    exact ⟨rfl, HB.out⟩
  rw [if_pos hl] at h
  have e1 : ((l0.length : Int) != (l1.length : Int)) = false := bne_eq_false_iff_eq.2 (by omega)
  have e2 : (l0.length == l1.length) = true := beq_iff_eq.2 hl
  have HL := Aside0.mk hl
  have HF := Aside0.mk h
  clear hl h
  go_wp2
  clear e1 e2
  go_loopg [5] l0.length (fun gk v5 w' => ∃ i : Nat, v5 = .int .i64 i ∧ Aside0 (i + gk = l0.length) ∧ Aside0 (rafterref06_Same.l0 k (l0.drop i) (l1.drop i) = some r) ∧ Aside0 (Below w.heap.size w w'))
  case atStart => exact ⟨0, rfl, ⟨by omega⟩, HF, HB⟩
  case round =>
    clear HB HF
    obtain ⟨i, rfl, HI, HC, HB⟩ := hrel
    have hm := Kd.C_max HR0.out
    by_cases hi : i < l0.length
    case neg =>
      have hi' : ¬ (i : Int) < (l0.length : Int) := by omega
      have h := HC.out
      rw [List.drop_eq_nil_of_le (by omega), rafterref06_Same.l0] at h
      injection h with h
      subst h
      go_wp2
      go_ret
      exact ⟨rfl, HB.out⟩
      all_goals
        intro x xs y ys hx
        cases hx
    have hi' : (i : Int) < (l0.length : Int) := by omega
    have hj : i < l1.length := by have := HL.out; omega
    have hj' : (i : Int) < (l1.length : Int) := by omega
    obtain ⟨ad, A2, c2, e0, u0, u1, u2, g2, q2⟩ := at_T102 (Kd.C_below HR0.out HB.out) (i : Int) (by omega) hi'
    obtain ⟨bd, B2, d2, e1, v0, v1, v2, j2, p2⟩ := at_T102 (Kd.C_below HR1.out HB.out) (i : Int) (by omega) hj'
    rw [Int.toNat_natCast] at u0 u1 u2 v0 v1 v2
    have hrd : l0.drop i = rd_T102 l0 (i : Int) :: l0.drop (i + 1) := by
      rw [List.drop_eq_getElem_cons hi]
      simp [rd_T102, hi]
    have hrd2 : l1.drop i = rd_T102 l1 (i : Int) :: l1.drop (i + 1) := by
      rw [List.drop_eq_getElem_cons hj]
      simp [rd_T102, hj]
    have h := HC.out
    rw [hrd, hrd2, rafterref06_Same.l0] at h
    generalize rd_T102 l0 (i : Int) = x at *
    generalize rd_T102 l1 (i : Int) = y at *
    cases e0
    cases e1
    have HP2 := Aside0.mk (And.intro q2 p2)
    have r1 : (0 ≤ (i : Int)) = True := eq_true (by omega)
    have r2 : ((i : Int) < (l0.length : Int)) = True := eq_true hi'
    have r3 : ((i : Int) < (l1.length : Int)) = True := eq_true hj'
    have hi9 : (i : Int) + 1 ≤ 9223372036854775807 := by omega
    clear hrd hrd2 HC q2 p2
    by_cases s0 : x.f0.toList = y.f0.toList
    case neg =>
      rw [if_neg s0] at h
      injection h with h
      subst h
      have t0 : (x.f0.toList != y.f0.toList) = true := bne_iff_ne.2 s0
      have t0b : (x.f0.toList == y.f0.toList) = false := beq_eq_false_iff_ne.2 s0
      clear s0
      go_upto_region 6 with (fail)
      refine wp_region_quiet_lit (by kernel_rfl) rafterref06_Same.lex ?_
      repeat (go_big_quiet_step (fail))
      refine wpQuiet_nil ?_
      intro _ hw'
      obtain ⟨nq, hw''⟩ := hw'
      subst hw''
      go_wp2
      go_ret
      exact ⟨rfl, pw_below_drewN HB.out _⟩
    rw [if_pos s0] at h
    have t0 : (x.f0.toList != y.f0.toList) = false := bne_eq_false_iff_eq.2 s0
    have t0b : (x.f0.toList == y.f0.toList) = true := beq_iff_eq.2 s0
    clear s0
    by_cases s1 : x.f1 = y.f1
    case neg =>
      rw [if_neg s1] at h
      injection h with h
      subst h
      have t1 : (x.f1 != y.f1) = true := bne_iff_ne.2 s1
      have t1b : (x.f1 == y.f1) = false := beq_eq_false_iff_ne.2 s1
      clear s1
      go_upto_region 6 with (fail)
      refine wp_region_quiet_lit (by kernel_rfl) rafterref06_Same.lex ?_
      repeat (go_big_quiet_step (fail))
      refine wpQuiet_nil ?_
      intro _ hw'
      obtain ⟨nq, hw''⟩ := hw'
      subst hw''
      go_wp2
      go_ret
      exact ⟨rfl, pw_below_drewN HB.out _⟩
    rw [if_pos s1] at h
    have t1 : (x.f1 != y.f1) = false := bne_eq_false_iff_eq.2 s1
    have t1b : (x.f1 == y.f1) = true := beq_iff_eq.2 s1
    clear s1
    obtain ⟨b2, h2, h⟩ := Option.bind_eq_some_iff.mp h
    have H2 := Aside0.mk (fun W e1 e2 => rafterref01_Same.calls k A2 c2 x.f2 B2 d2 y.f2 b2 W e1 g2 e2 j2 h2)
    clear h2
    cases b2 with
    | false =>
      rw [if_neg (by decide)] at h
      injection h with h
      subst h
      go_upto_region 6 with (fail)
      refine wp_region_quiet_lit (by kernel_rfl) rafterref06_Same.lex ?_
      repeat (go_big_quiet_step ((go_at_call_of 64 A2; exact Calls.quiet_of ((H2.out _ (Kd.C_drewN HP2.out.1 _) (Kd.C_drewN HP2.out.2 _)).mono (by rintro e_ w5 ⟨rfl, ⟨⟨n5, rfl⟩⟩⟩; exact ⟨rfl, n5, rfl⟩)))))
      refine wpQuiet_nil ?_
      intro _ hw'
      obtain ⟨nq, hw''⟩ := hw'
      subst hw''
      go_wp2
      go_ret
      exact ⟨rfl, pw_below_drewN HB.out _⟩
    | true =>
      rw [if_pos rfl] at h
      have HC2 := Aside0.mk h
      clear h
      go_upto_region 6 with (fail)
      refine wp_region_quiet_lit (by kernel_rfl) rafterref06_Same.lex ?_
      repeat (go_big_quiet_step ((go_at_call_of 64 A2; exact Calls.quiet_of ((H2.out _ (Kd.C_drewN HP2.out.1 _) (Kd.C_drewN HP2.out.2 _)).mono (by rintro e_ w5 ⟨rfl, ⟨⟨n5, rfl⟩⟩⟩; exact ⟨rfl, n5, rfl⟩)))))
      refine wpQuiet_nil ?_
      intro _ hw'
      obtain ⟨nq, hw''⟩ := hw'
      subst hw''
      go_wp2
      go_roundg (gk - 1)
      case measure => have := HI.out; omega
      case rel => exact ⟨i + 1, by go_num, ⟨by have := HI.out; omega⟩, HC2, ⟨pw_below_drewN HB.out _⟩⟩
end Go.Proofs.YtloibeefopdhpaaDoor.G
