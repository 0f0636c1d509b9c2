/- L12.Light, law15.may: they answer, and true of lists of operations of which what the laws need is so: the walks. -/
import Derived.Test.YtmimejckcknjfaaDoorRefMay
set_option linter.unusedVariables false
set_option linter.unusedSimpArgs false
namespace Go.Proofs.YtmimejckcknjfaaDoor.G
open Go.RowKit Go.Proofs.YtmimejckcknjfaaDoorW.PrintWords Go.Proofs.YtmimejckcknjfaaDoorW.PrintLast Go.Proofs.YtmimejckcknjfaaDoorW.PrintMore Go.Proofs.YtmimejckcknjfaaDoor.Plain

/-- A bool is answered; if it is true, P. -/
structure AnsB (e : Ending) (P : Prop) : Prop where
  ex : ∃ r : Bool, e = .returned (.bool r) ∧ (r = true → P)
structure LightOk (l : List TOp) : Prop where
  len : l.length ≤ 40
  dels : ∀ x ∈ l, x.f8.length ≤ 40
theorem light_calls (x : TOp) (B : Option Addr) (d : Nat) (hl : x.f10.length ≤ d) : ∃ b : Bool, ∀ W : World, Kd.C Kd.string W B x.f10.length x.f10 → Calls Tryd.prog 31 #[.slice B x.f10.length d] W fun e w' => e = .returned (.bool b) ∧ Below W.heap.size W w' := by
  by_cases hm : x.f10.length ≤ 9223372036854775807
  · obtain ⟨k, b, hk⟩ := light_ex x.f10 hm
    refine ⟨b, fun W hW => (rafterlaw03_Light.calls k B d x.f10 b W hW hl hk).mono ?_⟩
    rintro e w' ⟨rfl, hd⟩
    exact ⟨rfl, hd.below⟩
  · exact ⟨true, fun W hW => absurd (Kd.C_max hW) hm⟩
set_option maxHeartbeats 8000000 in
set_option maxRecDepth 100000 in
theorem l12_Light.calls (A : Option Addr) (c : Nat) (l : List TOp) (w : World) (hr : Kd.C k27 w A l.length l) :
    Calls Tryd.prog 16 #[.slice A l.length c] w fun e w' => AnsB e (LightOk l) ∧ Below w.heap.size w w' := by
  have hm := Kd.C_max hr
  have HR := Aside0.mk hr
  clear hr
  go_enter Tryd.func16, Tryd.ntmps16
  go_wp2_with (fail)
  go_loopg [3] l.length (fun gg v3 wr => ∃ i : Nat, v3 = .int .i64 i ∧ Aside0 (i + gg = l.length) ∧ Aside0 (Below w.heap.size w wr) ∧ Aside0 (∀ x ∈ l.take i, x.f8.length ≤ 40))
  case atStart => exact ⟨0, rfl, ⟨by omega⟩, ⟨Below.refl _ _⟩, ⟨by simp⟩⟩
  case round =>
    obtain ⟨i, rfl, HN, HB, HT⟩ := hrel
    obtain ⟨V, rfl⟩ : ∃ V, V = wr := ⟨_, rfl⟩
    obtain ⟨G, rfl⟩ : ∃ G, G = gk := ⟨_, rfl⟩
    by_cases hi : i < l.length
    case neg =>
      have hi' : ¬ (i : Int) < (l.length : Int) := by omega
      have ht := HT.out
      rw [List.take_of_length_le (by omega)] at ht
      have HE := Aside0.mk ht
      clear ht HT
      by_cases hq : l.length ≤ 40
      · have e1 : ((l.length : Int) ≤ 40) = True := eq_true (by omega)
        have e2 : (l.length ≤ 40) = True := eq_true hq
        have HQ := Aside0.mk hq
        clear hq
        go_wp2_with (fail)
        go_ret
        exact ⟨⟨⟨_, rfl, fun _ => LightOk.mk HQ.out HE.out⟩⟩, HB.out⟩
      · have e1 : ((l.length : Int) ≤ 40) = False := eq_false (by omega)
        have e2 : (l.length ≤ 40) = False := eq_false hq
        clear hq
        go_wp2_with (fail)
        go_ret
        exact ⟨⟨⟨false, rfl, fun h => by cases h⟩⟩, HB.out⟩
    have hi' : (i : Int) < (l.length : Int) := by omega
    have r1 : (0 ≤ (i : Int)) = True := eq_true (by omega)
    have r2 : ((i : Int) < (l.length : Int)) = True := eq_true hi'
    have hi9 : (i : Int) + 1 ≤ 9223372036854775807 := by omega
    obtain ⟨ad, B1, b1, B2, b2, e0, hc, ho⟩ := op_row HR.out i hi
    have HT1 := Aside0.mk (show l[i].f8.length ≤ 40 → ∀ x ∈ l.take (i + 1), x.f8.length ≤ 40 from fun h x hx => by
      rw [List.take_succ_eq_append_getElem hi] at hx
      rcases List.mem_append.1 hx with hx | hx
      · exact HT.out x hx
      · rw [List.mem_singleton.1 hx]; exact h)
    generalize l[i] = x at *
    subst e0
    have HC := Aside0.mk (hc.below HB.out)
    have HO := Aside0.mk ho
    clear hc ho HT
    go_upto_region 5 with (first | refine op_loadAt 14 HC.out rfl rfl rfl ?_ | (refine op_new 4 15 rfl rfl rfl rfl rfl rfl rfl ?_; intro W hX hW) | fail)
    have HX := Aside0.mk hX
    have HW := Aside0.mk (below_then HB.out HB.out.size hW)
    have HV := Aside0.mk HB.out.size
    clear hX hW HC HB
    have x13 := (blk_cell HX.out 13).trans rfl
    have x15 := (blk_cell HX.out 15).trans rfl
    by_cases hq : x.f8.length > 40
    case pos =>
      have e1 : (x.f8.length > 40) = True := eq_true hq
      have e2 : (40 < x.f8.length) = True := eq_true hq
      have e3 : ((x.f8.length : Int) > 40) = True := eq_true (by omega)
      clear hq
      go_wp2_with (fail)
      go_ret
      exact ⟨⟨⟨false, rfl, fun h => by cases h⟩⟩, HW.out⟩
    have e1 : (x.f8.length > 40) = False := eq_false hq
    have e2 : (40 < x.f8.length) = False := eq_false hq
    have e3 : ((x.f8.length : Int) > 40) = False := eq_false (by omega)
    have HT := Aside0.mk (HT1.out (by omega))
    have hd := Kd.C_max HO.out.r8
    clear hq HT1
    obtain ⟨b, hb0⟩ := light_calls x B2 b2 HO.out.l10
    have HL := Aside0.mk hb0
    clear hb0
    go_wp2_with (fail)
    refine (HL.out _ (HO.out.below HW.out).r10).mono ?_
    rintro e_ w1 ⟨rfl, hb⟩
    have HX1 := Aside0.mk (blk_below HX.out hb)
    have HW1 := Aside0.mk (below_then HW.out HW.out.size hb)
    clear hb HX HW HL x13 x15
    cases b
    case false =>
      go_wp2_with (fail)
      go_ret
      exact ⟨⟨⟨false, rfl, fun h => by cases h⟩⟩, HW1.out⟩
    have x1 := (blk_cell HX1.out 1).trans rfl
    have x3 := (blk_cell HX1.out 3).trans rfl
    have x5 := (blk_cell HX1.out 5).trans rfl
    have x7 := (blk_cell HX1.out 7).trans rfl
    have x8 := (blk_cell HX1.out 8).trans rfl
    have x9 := (blk_cell HX1.out 9).trans rfl
    have x11 := (blk_cell HX1.out 11).trans rfl
    obtain ⟨z1, q1⟩ : ∃ z, IntKind.i64.wrap ((x.f4.size : Int) + (x.f5.size : Int)) = z := ⟨_, rfl⟩
    obtain ⟨z2, q2⟩ : ∃ z, IntKind.i64.wrap (z1 + (x.f1.f0.size : Int)) = z := ⟨_, rfl⟩
    obtain ⟨z3, q3⟩ : ∃ z, IntKind.i64.wrap (z2 + (x.f2.f0.size : Int)) = z := ⟨_, rfl⟩
    obtain ⟨z4, q4⟩ : ∃ z, IntKind.i64.wrap (z3 + (x.f3.f0.size : Int)) = z := ⟨_, rfl⟩
    obtain ⟨z5, q5⟩ : ∃ z, IntKind.i64.wrap (z4 + (x.f6.f0.size : Int)) = z := ⟨_, rfl⟩
    obtain ⟨z6, q6⟩ : ∃ z, IntKind.i64.wrap (z5 + (x.f7.f0.size : Int)) = z := ⟨_, rfl⟩
    by_cases hz : z6 > 400
    case pos =>
      have e4 : (z6 > 400) = True := eq_true hz
      have e5 : (400 < z6) = True := eq_true hz
      clear hz
      go_wp2_with (fail)
      go_ret
      exact ⟨⟨⟨false, rfl, fun h => by cases h⟩⟩, HW1.out⟩
    have e4 : (z6 > 400) = False := eq_false hz
    have e5 : (400 < z6) = False := eq_false hz
    clear hz
    go_wp2_with (fail)
    clear x1 x3 x5 x7 x8 x9 x11 q1 q2 q3 q4 q5 q6 e1 e2 e3 e4 e5
    go_loopg [5] x.f8.length (fun gg v5 wr => ∃ j : Nat, v5 = .int .i64 j ∧ Aside0 (j + gg = x.f8.length) ∧ Aside0 (Below w.heap.size w wr) ∧ Aside0 (wr.heap[V.heap.size]? = some (.cells (opCs x B1 b1 B2 b2) 27 (0, 0))))
    case atStart => exact ⟨0, rfl, ⟨by omega⟩, HW1, HX1⟩
    case round =>
      clear HW1 HX1
      obtain ⟨j, rfl, HNj, HB, HX⟩ := hrel
      obtain ⟨J, rfl⟩ : ∃ J, J = gk := ⟨_, rfl⟩
      have x13 := (blk_cell HX.out 13).trans rfl
      by_cases hj : j < x.f8.length
      case neg =>
        have hj' : ¬ (j : Int) < (x.f8.length : Int) := by omega
        go_wp2_with (fail)
        go_roundg (G - 1)
        case measure => have := HN.out; omega
        case rel => exact ⟨i + 1, by go_num, ⟨by have := HN.out; omega⟩, HB, HT⟩
      have hj' : (j : Int) < (x.f8.length : Int) := by omega
      have r3 : (0 ≤ (j : Int)) = True := eq_true (by omega)
      have r4 : ((j : Int) < (x.f8.length : Int)) = True := eq_true hj'
      have hj9 : (j : Int) + 1 ≤ 9223372036854775807 := by omega
      obtain ⟨bd, e0, p0, p1⟩ := at_T23 (HO.out.below HB.out).r8 (j : Int) (by omega) hj'
      generalize rd_T23 x.f8 (j : Int) = p at *
      rw [Int.toNat_natCast] at p0 p1
      cases e0
      by_cases hq : p.f0.size > 100
      case pos =>
        have e1 : (p.f0.size > 100) = True := eq_true hq
        have e2 : (100 < p.f0.size) = True := eq_true hq
        have e3 : ((p.f0.size : Int) > 100) = True := eq_true (by omega)
        clear hq
        go_wp2_with (fail)
        go_ret
        exact ⟨⟨⟨false, rfl, fun h => by cases h⟩⟩, HB.out⟩
      have e1 : (p.f0.size > 100) = False := eq_false hq
      have e2 : (100 < p.f0.size) = False := eq_false hq
      have e3 : ((p.f0.size : Int) > 100) = False := eq_false (by omega)
      clear hq
      go_wp2_with (fail)
      go_roundg (J - 1)
      case measure => have := HNj.out; omega
      case rel => exact ⟨j + 1, by go_num, ⟨by have := HNj.out; omega⟩, HB, HX⟩
/-- What is so of lists of operations that may be. -/
structure MayL (l : List TOp) : Prop where
  may : ∀ x ∈ l, MayOp x
  len : l.length ≤ 40
  dels : ∀ x ∈ l, x.f8.length ≤ 40
set_option maxHeartbeats 8000000 in
set_option maxRecDepth 100000 in
theorem law15_may.calls (A : Option Addr) (c : Nat) (l : List TOp) (w : World) (hr : Kd.C k27 w A l.length l) (hs : ∀ x ∈ l, OpSized x) (hG : Gl w) :
    Calls Tryd.prog 5 #[.slice A l.length c] w fun e w' => AnsB e (MayL l) ∧ Below w.heap.size w w' := by
  have hm := Kd.C_max hr
  have HR := Aside0.mk hr
  have HS := Aside0.mk hs
  have HG := Aside0.mk hG
  have HLi := Aside0.mk (fun W q => l12_Light.calls A c l W q)
  clear hr hs hG
  go_enter Tryd.func5, Tryd.ntmps5
  go_wp2_with (fail)
  go_loopg [3] l.length (fun gg v3 wr => ∃ i : Nat, v3 = .int .i64 i ∧ Aside0 (i + gg = l.length) ∧ Aside0 (Below w.heap.size w wr) ∧ Aside0 (∀ x ∈ l.take i, MayOp x))
  case atStart => exact ⟨0, rfl, ⟨by omega⟩, ⟨Below.refl _ _⟩, ⟨by simp⟩⟩
  case round =>
    obtain ⟨i, rfl, HN, HB, HT⟩ := hrel
    obtain ⟨V, rfl⟩ : ∃ V, V = wr := ⟨_, rfl⟩
    obtain ⟨G, rfl⟩ : ∃ G, G = gk := ⟨_, rfl⟩
    by_cases hi : i < l.length
    case neg =>
      have hi' : ¬ (i : Int) < (l.length : Int) := by omega
      have ht := HT.out
      rw [List.take_of_length_le (by omega)] at ht
      have HE := Aside0.mk ht
      clear ht HT
      go_wp2_with (fail)
      refine (HLi.out _ (Kd.C_below HR.out HB.out)).mono ?_
      rintro e_ w1 ⟨⟨⟨r, rfl, hq⟩⟩, hb⟩
      have HB1 := Aside0.mk (below_then HB.out HB.out.size hb)
      have HQ := Aside0.mk hq
      clear hb hq
      go_wp2_with (fail)
      go_ret
      exact ⟨⟨⟨r, rfl, fun h => ⟨HE.out, (HQ.out h).len, (HQ.out h).dels⟩⟩⟩, HB1.out⟩
    have hi' : (i : Int) < (l.length : Int) := by omega
    have r1 : (0 ≤ (i : Int)) = True := eq_true (by omega)
    have r2 : ((i : Int) < (l.length : Int)) = True := eq_true hi'
    have hi9 : (i : Int) + 1 ≤ 9223372036854775807 := by omega
    obtain ⟨ad, B1, b1, B2, b2, e0, hc, ho⟩ := op_row HR.out i hi
    have hz := HS.out _ (List.getElem_mem hi)
    have HT1 := Aside0.mk (show MayOp l[i] → ∀ x ∈ l.take (i + 1), MayOp x from fun h x hx => by
      rw [List.take_succ_eq_append_getElem hi] at hx
      rcases List.mem_append.1 hx with hx | hx
      · exact HT.out x hx
      · rw [List.mem_singleton.1 hx]; exact h)
    generalize l[i] = x at *
    subst e0
    have HC := Aside0.mk (hc.below HB.out)
    have HM := Aside0.mk (fun W q g => r12_May.calls x B1 b1 B2 b2 W q hz g)
    have HO := Aside0.mk ho
    clear hc ho hz HT
    go_wp2_with (first | refine op_loadAt 12 HC.out rfl rfl rfl ?_ | fail)
    refine (HM.out _ (HO.out.below HB.out) (HG.out.below HB.out)).mono ?_
    rintro e_ w1 ⟨⟨r, rfl, hq⟩, hb⟩
    have HB1 := Aside0.mk (below_then HB.out HB.out.size hb)
    clear hb HB HM HC HO
    cases r
    · clear hq
      go_wp2_with (fail)
      go_ret
      exact ⟨⟨⟨false, rfl, fun h => by cases h⟩⟩, HB1.out⟩
    · have HQ := Aside0.mk (hq rfl)
      clear hq
      go_wp2_with (fail)
      go_roundg (G - 1)
      case measure => have := HN.out; omega
      case rel => exact ⟨i + 1, by go_num, ⟨by have := HN.out; omega⟩, HB1, ⟨HT1.out HQ.out⟩⟩
end Go.Proofs.YtmimejckcknjfaaDoor.G
