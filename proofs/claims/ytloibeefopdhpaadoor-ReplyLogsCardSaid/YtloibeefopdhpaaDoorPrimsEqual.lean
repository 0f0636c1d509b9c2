/- slices.EqualFunc over steps (with rafter/reply.samePrim): the walk. -/
import Derived.Test.YtloibeefopdhpaaDoorG15
import Derived.Outline
set_option linter.unusedVariables false
namespace Go.Proofs.YtloibeefopdhpaaDoor.G
open Go.RowKit Go.Proofs.YtloibeefopdhpaaDoorW.PrintWords Go.Proofs.YtloibeefopdhpaaDoorW.PrintLast Go.Proofs.YtloibeefopdhpaaDoorW.PrintMore

def api_Prim.l0 (k : Nat) : List S108 → List S108 → Option Bool
  | x :: xs, y :: ys => (reply_samePrim.f k x.f0 x.f1 x.f2 x.f3 x.f4 x.f5 y.f0 y.f1 y.f2 y.f3 y.f4 y.f5).bind fun b => if b = true then api_Prim.l0 k xs ys else some false
  | _, _ => some true
theorem api_Prim.l0_mono (k : Nat) : ∀ l m, LeO (api_Prim.l0 k l m) (api_Prim.l0 (k + 1) l m)
  | x :: xs, y :: ys => LeO.bind (reply_samePrim.mono _ _ _ _ _ _ _ _ _ _ _ _ _) fun b => LeO.ite (api_Prim.l0_mono k xs ys) (LeO.refl _)
  | [], _ => LeO.refl _
  | _ :: _, [] => LeO.refl _
def api_Prim.f (k : Nat) (l0 l1 : List S108) : Option Bool := if l0.length = l1.length then api_Prim.l0 k l0 l1 else some false
theorem api_Prim.mono : ∀ a0 a1 k, LeO (api_Prim.f k a0 a1) (api_Prim.f (k + 1) a0 a1) := by
  intro a0 a1 k
  unfold api_Prim.f
  exact LeO.ite (api_Prim.l0_mono _ _ _) (LeO.refl _)
set_option maxHeartbeats 4000000 in
set_option maxRecDepth 100000 in
theorem api_Prim.calls (k : Nat) (A0 : Option Addr) (c0 : Nat) (l0 : List S108) (A1 : Option Addr) (c1 : Nat) (l1 : List S108) (r : Bool) (w : World) (hr0 : Kd.C k108 w A0 l0.length l0) (hc0 : l0.length ≤ c0) (hr1 : Kd.C k108 w A1 l1.length l1) (hc1 : l1.length ≤ c1) (h : api_Prim.f k l0 l1 = some r) :
    Calls Tryd.prog 90 #[.slice A0 l0.length c0, .slice A1 l1.length c1, .func (.func 91) #[] #[]] w fun e w' => e = .returned (.bool r) ∧ Below w.heap.size w w' := by
  have HR0 := Aside0.mk hr0
  have HR1 := Aside0.mk hr1
  have HB0 := Aside0.mk (Below.refl w.heap.size w)
  clear hr0 hr1 hc0 hc1
  unfold api_Prim.f at h
  go_enter Tryd.func90, Tryd.ntmps90
  by_cases hl : l0.length = l1.length
  case neg =>
    rw [if_neg hl] at h
    injection h with h
    subst h
    have hl1 : ((l0.length : Int) != (l1.length : Int)) = true := bne_iff_ne.2 (by omega)
    have hl3 : (l0.length == l1.length) = false := beq_eq_false_iff_ne.2 hl
    go_wp2
    go_ret
    exact ⟨rfl, HB0.out⟩
  rw [if_pos hl] at h
  have hl1 : ((l0.length : Int) != (l1.length : Int)) = false := bne_eq_false_iff_eq.2 (by omega)
  have hl3 : (l0.length == l1.length) = true := beq_iff_eq.2 hl
  have HH := Aside0.mk h
  have HL := Aside0.mk hl
  clear h hl
  go_wp2
  clear hl1 hl3
  go_loopg [17] l0.length (fun gk v17 w' => ∃ i : Nat, v17 = .int .i64 i ∧ Aside0 (i + gk = l0.length) ∧ Aside0 (api_Prim.l0 k (l0.drop i) (l1.drop i) = some r) ∧ Aside0 (Below w.heap.size w w'))
  case atStart => exact ⟨0, rfl, ⟨by omega⟩, HH, HB0⟩
  case round =>
    clear HH HB0
    obtain ⟨i, rfl, HI, HA, HB⟩ := hrel
    have hm := Kd.C_max HR0.out
    by_cases hi : i < l0.length
    case neg =>
      have hi' : ¬ (i : Int) < (l0.length : Int) := by omega
      have h := HA.out
      rw [List.drop_eq_nil_of_le (by omega), api_Prim.l0] at h
      injection h with h
      subst h
      go_wp2
      go_ret
      exact ⟨rfl, HB.out⟩
      all_goals
        intro x xs y ys hx
        cases hx
    have hi0 : 0 ≤ (i : Int) := by omega
    have hi' : (i : Int) < (l0.length : Int) := by omega
    have hj : i < l1.length := by have := HL.out; omega
    have hj' : (i : Int) < (l1.length : Int) := by omega
    obtain ⟨ad, A4, c4, A5, c5, e0, x0, x1, x2, x3, x4, x5, g4, q4, g5, q5⟩ := at_T108 (Kd.C_below HR0.out HB.out) (i : Int) hi0 hi'
    obtain ⟨bd, B4, d4, B5, d5, e1, y0, y1, y2, y3, y4, y5, j4, p4, j5, p5⟩ := at_T108 (Kd.C_alloc (Kd.C_below HR1.out HB.out) (.cells #[.int .i64 (rd_T108 l0 (i : Int)).f0, .string (rd_T108 l0 (i : Int)).f1, .string (rd_T108 l0 (i : Int)).f2, .int .i64 (rd_T108 l0 (i : Int)).f3, .slice A4 (rd_T108 l0 (i : Int)).f4.length c4, .slice A5 (rd_T108 l0 (i : Int)).f5.length c5] 108)) (i : Int) hi0 hj'
    have hrd : l0.drop i = rd_T108 l0 (i : Int) :: l0.drop (i + 1) := by
      rw [List.drop_eq_getElem_cons hi]
      simp [rd_T108, hi]
    have hrd2 : l1.drop i = rd_T108 l1 (i : Int) :: l1.drop (i + 1) := by
      rw [List.drop_eq_getElem_cons hj]
      simp [rd_T108, hj]
    have h := HA.out
    rw [hrd, hrd2, api_Prim.l0] at h
    rw [Int.toNat_natCast] at x0 x1 x2 x3 x4 x5 y0 y1 y2 y3 y4 y5
    generalize rd_T108 l0 (i : Int) = x at *
    generalize rd_T108 l1 (i : Int) = y at *
    cases e0
    cases e1
    obtain ⟨b, h1, h⟩ := Option.bind_eq_some_iff.mp h
    have H1 := Aside0.mk (fun W e4 e5 f4 f5 => reply_samePrim.calls k x.f0 x.f1 x.f2 x.f3 A4 c4 x.f4 A5 c5 x.f5 y.f0 y.f1 y.f2 y.f3 B4 d4 y.f4 B5 d5 y.f5 b W e4 g4 e5 g5 f4 j4 f5 j5 h1)
    have HP4 := Aside0.mk (And.intro q4 p4)
    have HP5 := Aside0.mk (And.intro q5 p5)
    have HH := Aside0.mk h
    have p1_ : (0 ≤ (i : Int)) = True := eq_true hi0
    have p2_ : ((i : Int) < (l0.length : Int)) = True := eq_true hi'
    have p3_ : ((i : Int) < (l1.length : Int)) = True := eq_true hj'
    have hi9 : (i : Int) + 1 ≤ 9223372036854775807 := by omega
    clear h h1 HA hrd hrd2 g4 q4 j4 p4 g5 q5 j5 p5
    go_wp2_with (fail)
    refine (H1.out _ (Kd.C_alloc (Kd.C_alloc HP4.out.1 _) _) (Kd.C_alloc (Kd.C_alloc HP5.out.1 _) _) (Kd.C_alloc HP4.out.2 _) (Kd.C_alloc HP5.out.2 _)).mono ?_
    rintro e_ w2 ⟨rfl, hb⟩
    have HB2 := Aside0.mk (below_then (below_alloc (below_alloc HB.out _) _) (below_alloc (below_alloc HB.out _) _).size hb)
    have h := HH.out
    clear hb HH H1 HB x0 x1 x2 x3 x4 x5 y0 y1 y2 y3 y4 y5
    cases b with
    | false =>
      rw [if_neg (by decide)] at h
      injection h with h
      subst h
      go_wp2
      go_ret
      exact ⟨rfl, HB2.out⟩
    | true =>
      rw [if_pos rfl] at h
      have HA2 := Aside0.mk h
      clear h
      go_wp2
      go_roundg (gk - 1)
      case measure => have := HI.out; omega
      case rel => exact ⟨i + 1, by go_num, ⟨by have := HI.out; omega⟩, HA2, HB2⟩
end Go.Proofs.YtloibeefopdhpaaDoor.G
