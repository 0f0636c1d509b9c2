/- slices.EqualFunc over files (with rafter/reply.sameFile): the walk. -/
import Derived.Test.YtloibeefopdhpaaDoorG16
import Derived.Outline
set_option linter.unusedVariables false
namespace Go.Proofs.YtloibeefopdhpaaDoor.G
open Go.RowKit Go.Proofs.YtloibeefopdhpaaDoorW.PrintWords Go.Proofs.YtloibeefopdhpaaDoorW.PrintLast Go.Proofs.YtloibeefopdhpaaDoorW.PrintMore

def api_File.l0 (k : Nat) : List S102 → List S102 → Option Bool
  | x :: xs, y :: ys => (reply_sameFile.f k x.f0 x.f1 x.f2 y.f0 y.f1 y.f2).bind fun b => if b = true then api_File.l0 k xs ys else some false
  | _, _ => some true
theorem api_File.l0_mono (k : Nat) : ∀ l m, LeO (api_File.l0 k l m) (api_File.l0 (k + 1) l m)
  | x :: xs, y :: ys => LeO.bind (reply_sameFile.mono _ _ _ _ _ _ _) fun b => LeO.ite (api_File.l0_mono k xs ys) (LeO.refl _)
  | [], _ => LeO.refl _
  | _ :: _, [] => LeO.refl _
def api_File.f (k : Nat) (l0 l1 : List S102) : Option Bool := if l0.length = l1.length then api_File.l0 k l0 l1 else some false
theorem api_File.mono : ∀ a0 a1 k, LeO (api_File.f k a0 a1) (api_File.f (k + 1) a0 a1) := by
  intro a0 a1 k
  unfold api_File.f
  exact LeO.ite (api_File.l0_mono _ _ _) (LeO.refl _)
set_option maxHeartbeats 4000000 in
set_option maxRecDepth 100000 in
theorem api_File.calls (k : Nat) (A0 : Option Addr) (c0 : Nat) (l0 : List S102) (A1 : Option Addr) (c1 : Nat) (l1 : List S102) (r : Bool) (w : World) (hr0 : Kd.C k102 w A0 l0.length l0) (hc0 : l0.length ≤ c0) (hr1 : Kd.C k102 w A1 l1.length l1) (hc1 : l1.length ≤ c1) (h : api_File.f k l0 l1 = some r) :
    Calls Tryd.prog 92 #[.slice A0 l0.length c0, .slice A1 l1.length c1, .func (.func 93) #[] #[]] w fun e w' => e = .returned (.bool r) ∧ Below w.heap.size w w' := by
  have HR0 := Aside0.mk hr0
  have HR1 := Aside0.mk hr1
  have HB0 := Aside0.mk (Below.refl w.heap.size w)
  clear hr0 hr1 hc0 hc1
  unfold api_File.f at h
  go_enter Tryd.func92, Tryd.ntmps92
  by_cases hl : l0.length = l1.length
  case neg =>
    rw [if_neg hl] at h
    injection h with h
    subst h
    have hl1 : ((l0.length : Int) != (l1.length : Int)) = true := bne_iff_ne.2 (by omega)
    have hl3 : (l0.length == l1.length) = false := beq_eq_false_iff_ne.2 hl
    go_wp2
    go_ret
    exact ⟨rfl, HB0.out⟩
  rw [if_pos hl] at h
  have hl1 : ((l0.length : Int) != (l1.length : Int)) = false := bne_eq_false_iff_eq.2 (by omega)
  have hl3 : (l0.length == l1.length) = true := beq_iff_eq.2 hl
  have HH := Aside0.mk h
  have HL := Aside0.mk hl
  clear h hl
  go_wp2
  clear hl1 hl3
  go_loopg [17] l0.length (fun gk v17 w' => ∃ i : Nat, v17 = .int .i64 i ∧ Aside0 (i + gk = l0.length) ∧ Aside0 (api_File.l0 k (l0.drop i) (l1.drop i) = some r) ∧ Aside0 (Below w.heap.size w w'))
  case atStart => exact ⟨0, rfl, ⟨by omega⟩, HH, HB0⟩
  case round =>
    clear HH HB0
    obtain ⟨i, rfl, HI, HA, HB⟩ := hrel
    have hm := Kd.C_max HR0.out
    by_cases hi : i < l0.length
    case neg =>
      have hi' : ¬ (i : Int) < (l0.length : Int) := by omega
      have h := HA.out
      rw [List.drop_eq_nil_of_le (by omega), api_File.l0] at h
      injection h with h
      subst h
      go_wp2
      go_ret
      exact ⟨rfl, HB.out⟩
      all_goals
        intro x xs y ys hx
        cases hx
    have hi0 : 0 ≤ (i : Int) := by omega
    have hi' : (i : Int) < (l0.length : Int) := by omega
    have hj : i < l1.length := by have := HL.out; omega
    have hj' : (i : Int) < (l1.length : Int) := by omega
    obtain ⟨ad, A2, c2, e0, x0, x1, x2, g2, q2⟩ := at_T102 (Kd.C_below HR0.out HB.out) (i : Int) hi0 hi'
    obtain ⟨bd, B2, d2, e1, y0, y1, y2, j2, p2⟩ := at_T102 (Kd.C_alloc (Kd.C_below HR1.out HB.out) (.cells #[.string (rd_T102 l0 (i : Int)).f0, .bool (rd_T102 l0 (i : Int)).f1, .slice A2 (rd_T102 l0 (i : Int)).f2.length c2] 102)) (i : Int) hi0 hj'
    have hrd : l0.drop i = rd_T102 l0 (i : Int) :: l0.drop (i + 1) := by
      rw [List.drop_eq_getElem_cons hi]
      simp [rd_T102, hi]
    have hrd2 : l1.drop i = rd_T102 l1 (i : Int) :: l1.drop (i + 1) := by
      rw [List.drop_eq_getElem_cons hj]
      simp [rd_T102, hj]
    have h := HA.out
    rw [hrd, hrd2, api_File.l0] at h
    rw [Int.toNat_natCast] at x0 x1 x2 y0 y1 y2
    generalize rd_T102 l0 (i : Int) = x at *
    generalize rd_T102 l1 (i : Int) = y at *
    cases e0
    cases e1
    obtain ⟨b, h1, h⟩ := Option.bind_eq_some_iff.mp h
    have H1 := Aside0.mk (fun W e2 f2 => reply_sameFile.calls k x.f0 x.f1 A2 c2 x.f2 y.f0 y.f1 B2 d2 y.f2 b W e2 g2 f2 j2 h1)
    have HP2 := Aside0.mk (And.intro q2 p2)
    have HH := Aside0.mk h
    have p1_ : (0 ≤ (i : Int)) = True := eq_true hi0
    have p2_ : ((i : Int) < (l0.length : Int)) = True := eq_true hi'
    have p3_ : ((i : Int) < (l1.length : Int)) = True := eq_true hj'
    have hi9 : (i : Int) + 1 ≤ 9223372036854775807 := by omega
    clear h h1 HA hrd hrd2 g2 q2 j2 p2
    go_wp2_with (fail)
    refine (H1.out _ (Kd.C_alloc (Kd.C_alloc HP2.out.1 _) _) (Kd.C_alloc HP2.out.2 _)).mono ?_
    rintro e_ w2 ⟨rfl, hb⟩
    have HB2 := Aside0.mk (below_then (below_alloc (below_alloc HB.out _) _) (below_alloc (below_alloc HB.out _) _).size hb)
    have h := HH.out
    clear hb HH H1 HB x0 x1 x2 y0 y1 y2
    cases b with
    | false =>
      rw [if_neg (by decide)] at h
      injection h with h
      subst h
      go_wp2
      go_ret
      exact ⟨rfl, HB2.out⟩
    | true =>
      rw [if_pos rfl] at h
      have HA2 := Aside0.mk h
      clear h
      go_wp2
      go_roundg (gk - 1)
      case measure => have := HI.out; omega
      case rel => exact ⟨i + 1, by go_num, ⟨by have := HI.out; omega⟩, HA2, HB2⟩
end Go.Proofs.YtloibeefopdhpaaDoor.G
