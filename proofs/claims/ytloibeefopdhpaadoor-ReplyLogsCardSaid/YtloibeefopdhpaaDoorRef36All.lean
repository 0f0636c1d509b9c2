/- The reference: are all replies the same: the walk by hand. -/
import Derived.Test.YtloibeefopdhpaaDoorRef36Same
import Derived.Deep.RegionHeld3
import Derived.Outline
set_option linter.unusedVariables false
namespace Go.Proofs.YtloibeefopdhpaaDoor.G
open Go.RowKit Go.Proofs.YtloibeefopdhpaaDoorW.PrintWords Go.Proofs.YtloibeefopdhpaaDoorW.PrintLast Go.Proofs.YtloibeefopdhpaaDoorW.PrintMore

def rafterref36_All.l0 (k : Nat) : List S54 → List S54 → Option Bool
  | x :: xs, y :: ys => (rafterref36_Same.f k x.f0 x.f1 x.f2 x.f3 x.f4 y.f0 y.f1 y.f2 y.f3 y.f4).bind fun b => if b = true then rafterref36_All.l0 k xs ys else some false
  | _, _ => some true
theorem rafterref36_All.l0_mono (k : Nat) : ∀ l m, LeO (rafterref36_All.l0 k l m) (rafterref36_All.l0 (k + 1) l m)
  | x :: xs, y :: ys => LeO.bind (rafterref36_Same.mono _ _ _ _ _ _ _ _ _ _ _) fun b => LeO.ite (rafterref36_All.l0_mono k xs ys) (LeO.refl _)
  | [], _ => LeO.refl _
  | _ :: _, [] => LeO.refl _
def rafterref36_All.f (k : Nat) (l0 l1 : List S54) : Option Bool := if l0.length = l1.length then rafterref36_All.l0 k l0 l1 else some false
theorem rafterref36_All.mono : ∀ a0 a1 k, LeO (rafterref36_All.f k a0 a1) (rafterref36_All.f (k + 1) a0 a1) := by
  intro a0 a1 k
  unfold rafterref36_All.f
  exact LeO.ite (rafterref36_All.l0_mono _ _ _) (LeO.refl _)
set_option maxHeartbeats 4000000 in
set_option maxRecDepth 100000 in
theorem rafterref36_All.calls (k : Nat) (A0 : Option Addr) (c0 : Nat) (l0 : List S54) (A1 : Option Addr) (c1 : Nat) (l1 : List S54) (r : Bool) (w : World) (hr0 : Kd.C k54 w A0 l0.length l0) (hc0 : l0.length ≤ c0) (hr1 : Kd.C k54 w A1 l1.length l1) (hc1 : l1.length ≤ c1) (h : rafterref36_All.f k l0 l1 = some r) :
    Calls Tryd.prog 38 #[.slice A0 l0.length c0, .slice A1 l1.length c1] w fun e w' => e = .returned (.bool r) ∧ Below w.heap.size w w' := by
  have HR0 := Aside0.mk hr0
  have HR1 := Aside0.mk hr1
  have HB := Aside0.mk (Below.refl w.heap.size w)
  clear hr0 hr1 hc0 hc1
  unfold rafterref36_All.f at h
  go_enter Tryd.func38, Tryd.ntmps38
  by_cases hl : l0.length = l1.length
  case neg =>
    rw [if_neg hl] at h
    injection h with h
    subst h
    have e1 : ((l0.length : Int) != (l1.length : Int)) = true := bne_iff_ne.2 (by omega)
    have e2 : (l0.length == l1.length) = false := beq_eq_false_iff_ne.2 hl
    go_wp2
    go_ret
    exact ⟨rfl, HB.out⟩
  rw [if_pos hl] at h
  have e1 : ((l0.length : Int) != (l1.length : Int)) = false := bne_eq_false_iff_eq.2 (by omega)
  have e2 : (l0.length == l1.length) = true := beq_iff_eq.2 hl
  have HL := Aside0.mk hl
  have HF := Aside0.mk h
  clear hl h
  go_wp2
  clear e1 e2
  go_loopg [5] l0.length (fun gk v5 w' => ∃ i : Nat, v5 = .int .i64 i ∧ Aside0 (i + gk = l0.length) ∧ Aside0 (rafterref36_All.l0 k (l0.drop i) (l1.drop i) = some r) ∧ Aside0 (Below w.heap.size w w'))
  case atStart => exact ⟨0, rfl, ⟨by omega⟩, HF, HB⟩
  case round =>
    clear HB HF
    obtain ⟨i, rfl, HI, HC, HB⟩ := hrel
    have hm := Kd.C_max HR0.out
    by_cases hi : i < l0.length
    case neg =>
      have hi' : ¬ (i : Int) < (l0.length : Int) := by omega
      have h := HC.out
      rw [List.drop_eq_nil_of_le (by omega), rafterref36_All.l0] at h
      injection h with h
      subst h
      go_wp2
      go_ret
      exact ⟨rfl, HB.out⟩
      all_goals
        intro x xs y ys hx
        cases hx
    have hi' : (i : Int) < (l0.length : Int) := by omega
    have hj : i < l1.length := by have := HL.out; omega
    have hj' : (i : Int) < (l1.length : Int) := by omega
    obtain ⟨ad, A1, c1, A2, c2, A3, c3, A4, c4, e0, u0, u1, u2, u3, u4, g1, q1, g2, q2, g3, q3, g4, q4⟩ := at_T54 (Kd.C_below HR0.out HB.out) (i : Int) (by omega) hi'
    obtain ⟨bd, B1, d1, B2, d2, B3, d3, B4, d4, e1, v0, v1, v2, v3, v4, j1, p1, j2, p2, j3, p3, j4, p4⟩ := at_T54 (Kd.C_below HR1.out HB.out) (i : Int) (by omega) hj'
    rw [Int.toNat_natCast] at u0 u1 u2 u3 u4 v0 v1 v2 v3 v4
    have hrd : l0.drop i = rd_T54 l0 (i : Int) :: l0.drop (i + 1) := by
      rw [List.drop_eq_getElem_cons hi]
      simp [rd_T54, hi]
    have hrd2 : l1.drop i = rd_T54 l1 (i : Int) :: l1.drop (i + 1) := by
      rw [List.drop_eq_getElem_cons hj]
      simp [rd_T54, hj]
    have h := HC.out
    rw [hrd, hrd2, rafterref36_All.l0] at h
    generalize rd_T54 l0 (i : Int) = x at *
    generalize rd_T54 l1 (i : Int) = y at *
    obtain ⟨b, h1, h⟩ := Option.bind_eq_some_iff.mp h
    cases e0
    cases e1
    have H := Aside0.mk (fun W e1 e2 e3 e4 f1 f2 f3 f4 => rafterref36_Same.calls k x.f0 A1 c1 x.f1 A2 c2 x.f2 A3 c3 x.f3 A4 c4 x.f4 y.f0 B1 d1 y.f1 B2 d2 y.f2 B3 d3 y.f3 B4 d4 y.f4 b W e1 g1 e2 g2 e3 g3 e4 g4 f1 j1 f2 j2 f3 j3 f4 j4 h1)
    have HP := Aside0.mk (And.intro (And.intro q1 (And.intro q2 (And.intro q3 q4))) (And.intro p1 (And.intro p2 (And.intro p3 p4))))
    have HF := Aside0.mk h
    have r1 : (0 ≤ (i : Int)) = True := eq_true (by omega)
    have r2 : ((i : Int) < (l0.length : Int)) = True := eq_true hi'
    have r3 : ((i : Int) < (l1.length : Int)) = True := eq_true hj'
    have hi9 : (i : Int) + 1 ≤ 9223372036854775807 := by omega
    clear hrd hrd2 HC g1 q1 g2 q2 g3 q3 g4 q4 j1 p1 j2 p2 j3 p3 j4 p4 h h1
    go_upto_region 6 with (fail)
    go_region_held3 (fun w' => w'.cell? (ad.add (i * 5)) = some (.int .i64 x.f0) ∧ w'.cell? ⟨(ad.add (i * 5)).block, (ad.add (i * 5)).off + 1, none⟩ = some (.slice A1 x.f1.length c1) ∧ w'.cell? ⟨(ad.add (i * 5)).block, (ad.add (i * 5)).off + 2, none⟩ = some (.slice A2 x.f2.length c2) ∧ w'.cell? ⟨(ad.add (i * 5)).block, (ad.add (i * 5)).off + 3, none⟩ = some (.slice A3 x.f3.length c3) ∧ w'.cell? ⟨(ad.add (i * 5)).block, (ad.add (i * 5)).off + 4, none⟩ = some (.slice A4 x.f4.length c4) ∧ w'.cell? (bd.add (i * 5)) = some (.int .i64 y.f0) ∧ w'.cell? ⟨(bd.add (i * 5)).block, (bd.add (i * 5)).off + 1, none⟩ = some (.slice B1 y.f1.length d1) ∧ w'.cell? ⟨(bd.add (i * 5)).block, (bd.add (i * 5)).off + 2, none⟩ = some (.slice B2 y.f2.length d2) ∧ w'.cell? ⟨(bd.add (i * 5)).block, (bd.add (i * 5)).off + 3, none⟩ = some (.slice B3 y.f3.length d3) ∧ w'.cell? ⟨(bd.add (i * 5)).block, (bd.add (i * 5)).off + 4, none⟩ = some (.slice B4 y.f4.length d4)) (exact ⟨u0, u1, u2, u3, u4, v0, v1, v2, v3, v4⟩) (first | (go_at_call 33; refine (H.out _ (Kd.C_drew HP.out.1.1) (Kd.C_drew HP.out.1.2.1) (Kd.C_drew HP.out.1.2.2.1) (Kd.C_drew HP.out.1.2.2.2) (Kd.C_drew HP.out.2.1) (Kd.C_drew HP.out.2.2.1) (Kd.C_drew HP.out.2.2.2.1) (Kd.C_drew HP.out.2.2.2.2)).mono ?_; rintro e_ w5 ⟨rfl, hb⟩; have HB5 := Aside0.mk (below_then (below_drew HB.out) (below_drew HB.out).size hb); replace u0 := (hb.cell (World.block_lt_of_cell? _ _ u0)).trans u0; replace u1 := (hb.cell (World.block_lt_of_cell? _ _ u1)).trans u1; replace u2 := (hb.cell (World.block_lt_of_cell? _ _ u2)).trans u2; replace u3 := (hb.cell (World.block_lt_of_cell? _ _ u3)).trans u3; replace u4 := (hb.cell (World.block_lt_of_cell? _ _ u4)).trans u4; replace v0 := (hb.cell (World.block_lt_of_cell? _ _ v0)).trans v0; replace v1 := (hb.cell (World.block_lt_of_cell? _ _ v1)).trans v1; replace v2 := (hb.cell (World.block_lt_of_cell? _ _ v2)).trans v2; replace v3 := (hb.cell (World.block_lt_of_cell? _ _ v3)).trans v3; replace v4 := (hb.cell (World.block_lt_of_cell? _ _ v4)).trans v4; clear hb))
    have h := HF.out
    clear HF H HP u0 u1 u2 u3 u4 v0 v1 v2 v3 v4 r1 r2 r3 HB
    cases b with
    | false =>
      rw [if_neg (by decide)] at h
      injection h with h
      subst h
      go_simp
      go_wp2
      go_ret
      exact ⟨rfl, HB5.out⟩
    | true =>
      rw [if_pos rfl] at h
      have HC2 := Aside0.mk h
      clear h
      go_simp
      go_wp2
      go_roundg (gk - 1)
      case measure => have := HI.out; omega
      case rel => exact ⟨i + 1, by go_num, ⟨by have := HI.out; omega⟩, HC2, HB5⟩
end Go.Proofs.YtloibeefopdhpaaDoor.G
