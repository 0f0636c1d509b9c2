/- R15.Ops: the walk, in parts by the kinds of the operations. Printed by wip/tools/gen_refops.py. -/
import Derived.Test.YtmimejckcknjfaaDoorRefPlaces
import Derived.Test.YtmimejckcknjfaaDoorRefTouch
set_option linter.unusedVariables false
set_option linter.unusedSimpArgs false
namespace Go.Proofs.YtmimejckcknjfaaDoor.G
open Go.RowKit Go.Proofs.YtmimejckcknjfaaDoorW.PrintWords Go.Proofs.YtmimejckcknjfaaDoorW.PrintLast Go.Proofs.YtmimejckcknjfaaDoorW.PrintMore Go.Proofs.YtmimejckcknjfaaDoor.Plain

def samePl (p q : TPlace) : Bool := (p.f0.f0.toList == q.f0.f0.toList && (p.f0.f1 == q.f0.f1)) && (p.f1.toList == q.f1.toList)
def hunksR (x y : TOp) : Bool := sameI x.f6 y.f6 || (sameI x.f7 y.f7 || (touchR x y || touchR y x))
/-- Why two operations clash, by the reference. -/
def opsR (x y : TOp) : Int :=
  bif (sameI x.f1 y.f1 && (x.f0 == 5 && (y.f0 == 5 && hunksR x y))) then 1
  else bif (sameI x.f1 y.f1 && (x.f0 == 5 && y.f0 == 3 || x.f0 == 3 && y.f0 == 5)) then 2
  else bif ((plR x).any fun p => (plR y).any (samePl p)) then 3
  else bif (sameI x.f1 y.f1 && ((x.f0 == 3 || x.f0 == 4) && (y.f0 == 3 || y.f0 == 4))) then 4
  else bif (y.f0 == 3 && (plR x).any fun p => sameI p.f0 y.f1) then 5
  else bif (x.f0 == 3 && (plR y).any fun p => sameI p.f0 x.f1) then 5 else 0
set_option maxHeartbeats 8000000 in
set_option maxRecDepth 100000 in
attribute [local go_sem high] eqA23 eqA38 in
theorem r15_Ops.part0 (x : TOp) (A : Option Addr) (c : Nat) (B : Option Addr) (d : Nat) (y : TOp) (A2 : Option Addr) (c2 : Nat) (B2 : Option Addr) (d2 : Nat) (w : World) (hx : OpAt w x A c B d) (hy : OpAt w y A2 c2 B2 d2) (b1 : (x.f1.f0.toList == y.f1.f0.toList && x.f1.f1 == y.f1.f1) = false) :
    Calls Tryd.prog 11 #[opV x A c B d, opV y A2 c2 B2 d2] w fun e w' => e = .returned (.int .i64 (opsR x y)) ∧ Below w.heap.size w w' := by
  obtain ⟨r, hr⟩ : ∃ r, r = opsR x y := ⟨_, rfl⟩
  rw [← hr]
  have HX0 := Aside0.mk hx
  have HY0 := Aside0.mk hy
  have hu := Tryd.underlying23
  have hu3 := Tryd.underlying38
  clear hx hy
  unfold opsR at hr
  generalize hP : plR x = P at *
  generalize hM : plR y = M at *
  unfold hunksR at hr
  have HH := Aside0.mk hr
  clear hr
  have b1s : sameI x.f1 y.f1 = _ := b1
  go_enter Tryd.func11, Tryd.ntmps11
  go_upto_region 1 with (fail)
  obtain ⟨W, hW⟩ : ∃ W, W = (w.alloc (.cells (opCs x A c B d) 27)).alloc (.cells (opCs y A2 c2 B2 d2) 27) := ⟨_, rfl⟩
  have HX : Aside0 (W.heap[w.heap.size]? = some (.cells (opCs x A c B d) 27 (0, 0))) := ⟨by rw [hW]; exact blk_alloc (heap_alloc_new w _) _⟩
  have HY : Aside0 (W.heap[w.heap.size + 1]? = some (.cells (opCs y A2 c2 B2 d2) 27 (0, 0))) := ⟨by rw [hW]; simpa using heap_alloc_new (w.alloc (.cells (opCs x A c B d) 27)) (.cells (opCs y A2 c2 B2 d2) 27)⟩
  have HB : Aside0 (Below w.heap.size w W) := ⟨by rw [hW]; exact below_alloc (below_alloc (Below.refl _ _) _) _⟩
  rw [← hW]
  clear hW
  obtain ⟨x0, x1, x2, -⟩ := op_cells HX.out
  obtain ⟨y0, y1, y2, -⟩ := op_cells HY.out
  go_upto_region 6 with (fail)
  go_wp2_with (first | refine op_load 2 _ HX.out rfl rfl rfl ?_ | refine op_load 3 _ HY.out rfl rfl rfl ?_ | fail)
  refine (r15_Places.calls x A c B d _).mono ?_
  rintro e_ w1 ⟨v, rfl, hR, hb⟩
  rw [hP] at hR
  obtain ⟨Ap, cp, rfl⟩ := Kd.R_slice hR
  have HP := Aside0.mk (Kd.R_reads' hR).2.2
  clear hR
  have HX1 := Aside0.mk (blk_below HX.out hb)
  have HY1 := Aside0.mk (blk_below HY.out hb)
  have HB1 := Aside0.mk (below_then HB.out HB.out.size hb)
  clear hb HX HY HB  x0 x1 x2 y0 y1 y2
  have HX := HX1
  clear HX1
  have HY := HY1
  clear HY1
  have HB := HB1
  clear HB1
  obtain ⟨x0, x1, x2, -⟩ := op_cells HX.out
  obtain ⟨y0, y1, y2, -⟩ := op_cells HY.out
  go_wp2_with (first | refine op_load 2 _ HX.out rfl rfl rfl ?_ | refine op_load 3 _ HY.out rfl rfl rfl ?_ | fail)
  refine (r15_Places.calls y A2 c2 B2 d2 _).mono ?_
  rintro e_ w2 ⟨v, rfl, hR, hb⟩
  rw [hM] at hR
  obtain ⟨Am, cm, rfl⟩ := Kd.R_slice hR
  have HM := Aside0.mk (Kd.R_reads' hR).2.2
  clear hR
  have HX1 := Aside0.mk (blk_below HX.out hb)
  have HY1 := Aside0.mk (blk_below HY.out hb)
  have HB1 := Aside0.mk (below_then HB.out HB.out.size hb)
  have HP1 := Aside0.mk (Kd.C_below HP.out hb)
  clear hb HX HY HB HP x0 x1 x2 y0 y1 y2
  have HX := HX1
  clear HX1
  have HY := HY1
  clear HY1
  have HB := HB1
  clear HB1
  have HP := HP1
  clear HP1
  obtain ⟨x0, x1, x2, -⟩ := op_cells HX.out
  obtain ⟨y0, y1, y2, -⟩ := op_cells HY.out
  have hmP := Kd.C_max HP.out
  have hmM := Kd.C_max HM.out
  obtain ⟨R, HR, hR3⟩ : ∃ R, Aside0 (R = (bif (sameI x.f1 y.f1 && ((x.f0 == 3 || x.f0 == 4) && (y.f0 == 3 || y.f0 == 4))) then 4 else (bif (y.f0 == 3 && (P.any fun p => sameI p.f0 y.f1)) then 5 else (bif (x.f0 == 3 && (M.any fun p => sameI p.f0 x.f1)) then 5 else 0)))) ∧ Aside0 (r = bif (P.any fun p => M.any (samePl p)) then 3 else R) := ⟨_, ⟨rfl⟩, ⟨by rw [HH.out]; simp only [b1s, Bool.false_and, Bool.true_and, Bool.and_false, Bool.and_true, Bool.false_or, Bool.true_or, Bool.or_false, Bool.or_true, cond_true, cond_false]⟩⟩
  clear HH
  have HL := hR3
  clear hR3 x0 x1 x2 y0 y1 y2
  go_wp2_with (fail)
  go_loopg [8] P.length (fun gg v8 wr => ∃ i : Nat, v8 = .int .i64 i ∧ Aside0 (i + gg = P.length) ∧ Aside0 (r = bif ((P.drop i).any fun p => M.any (samePl p)) then 3 else R) ∧ Aside0 (Below w.heap.size w wr) ∧ Aside0 (wr.heap[w.heap.size]? = some (.cells (opCs x A c B d) 27 (0, 0))) ∧ Aside0 (wr.heap[w.heap.size + 1]? = some (.cells (opCs y A2 c2 B2 d2) 27 (0, 0))) ∧ Aside0 (Kd.C k38 wr Ap P.length P) ∧ Aside0 (Kd.C k38 wr Am M.length M))
  case atStart => exact ⟨0, rfl, ⟨by omega⟩, HL, HB, HX, HY, HP, HM⟩
  case round =>
    clear HL HB HX HY HP HM
    obtain ⟨i, rfl, HN, HL, HB, HX, HY, HP, HM⟩ := hrel
    obtain ⟨G, rfl⟩ : ∃ G, G = gk := ⟨_, rfl⟩
    by_cases hi : i < P.length
    case pos =>
      have hi' : (i : Int) < (P.length : Int) := by omega
      have r1 : (0 ≤ (i : Int)) = True := eq_true (by omega)
      have r2 : ((i : Int) < (P.length : Int)) = True := eq_true hi'
      have hi9 : (i : Int) + 1 ≤ 9223372036854775807 := by omega
      have h := HL.out
      rw [List.drop_eq_getElem_cons hi, List.any_cons] at h
      have er : rd_T38 P (i : Int) = P[i] := by simp [rd_T38, hi]
      have HE := Aside0.mk er
      obtain ⟨p, hp⟩ : ∃ p, p = P[i] := ⟨_, rfl⟩
      rw [← hp] at h er
      have HL1 := Aside0.mk h
      have HE := Aside0.mk er
      clear h er hp HL
      go_wp2_with (fail)
      go_loopg [9] M.length (fun gg v9 wr => ∃ j : Nat, v9 = .int .i64 j ∧ Aside0 (j + gg = M.length) ∧ Aside0 (r = bif ((M.drop j).any (samePl p) || (P.drop (i + 1)).any fun p => M.any (samePl p)) then 3 else R) ∧ Aside0 (Below w.heap.size w wr) ∧ Aside0 (wr.heap[w.heap.size]? = some (.cells (opCs x A c B d) 27 (0, 0))) ∧ Aside0 (wr.heap[w.heap.size + 1]? = some (.cells (opCs y A2 c2 B2 d2) 27 (0, 0))) ∧ Aside0 (Kd.C k38 wr Ap P.length P) ∧ Aside0 (Kd.C k38 wr Am M.length M))
      case atStart => exact ⟨0, rfl, ⟨by omega⟩, HL1, HB, HX, HY, HP, HM⟩
      case round =>
        clear HL1 HB HX HY HP HM
        obtain ⟨j, rfl, HNj, HL, HB, HX, HY, HP, HM⟩ := hrel
        obtain ⟨J, rfl⟩ : ∃ J, J = gk := ⟨_, rfl⟩
        by_cases hj : j < M.length
        case pos =>
          have hj' : (j : Int) < (M.length : Int) := by omega
          have r3 : (0 ≤ (j : Int)) = True := eq_true (by omega)
          have r4 : ((j : Int) < (M.length : Int)) = True := eq_true hj'
          have hj9 : (j : Int) + 1 ≤ 9223372036854775807 := by omega
          have h := HL.out
          rw [List.drop_eq_getElem_cons hj, List.any_cons] at h
          have eq : rd_T38 M (j : Int) = M[j] := by simp [rd_T38, hj]
          obtain ⟨ad, e1, p0, p1, p2⟩ := at_T38 HP.out (i : Int) (by omega) hi'
          obtain ⟨bd, e2, q0, q1, q2⟩ := at_T38 HM.out (j : Int) (by omega) hj'
          rw [HE.out] at p0 p1 p2
          rw [eq] at q0 q1 q2
          generalize M[j] = q at *
          rw [Int.toNat_natCast] at p0 p1 p2 q0 q1 q2
          subst e1
          subst e2
          rw [show samePl p q = ((p.f0.f0.toList == q.f0.f0.toList && (p.f0.f1 == q.f0.f1)) && (p.f1.toList == q.f1.toList)) from rfl] at h
          have HL1 := Aside0.mk h
          clear h eq HL
          cases hq : ((p.f0.f0.toList == q.f0.f0.toList && (p.f0.f1 == q.f0.f1)) && (p.f1.toList == q.f1.toList))
          all_goals
            rw [hq] at HL1
            go_upto_region 14 with (fail)
            go_quiet (fail)
            have HB1 := Aside0.mk (pw_below_drewN HB.out nq)
            have HX1 := Aside0.mk (blk_drewN HX.out nq)
            have HY1 := Aside0.mk (blk_drewN HY.out nq)
            have HP1 := Aside0.mk (Kd.C_drewN HP.out nq)
            have HM1 := Aside0.mk (Kd.C_drewN HM.out nq)
            clear HB HX HY HP HM p0 p1 p2 q0 q1 q2
            go_wp2_with (fail)
          ·
            go_roundg (J - 1)
            case measure => have := HNj.out; omega
            case rel => exact ⟨j + 1, by go_num, ⟨by have := HNj.out; omega⟩, HL1, HB1, HX1, HY1, HP1, HM1⟩
          ·
            go_ret
            exact ⟨by rw [HL1.out]; rfl, HB1.out⟩
        have hj' : ¬ (j : Int) < (M.length : Int) := by omega
        have h := HL.out
        rw [List.drop_eq_nil_of_le (by omega), List.any_nil, Bool.false_or] at h
        have HL1 := Aside0.mk h
        clear h HL
        go_wp2_with (fail)
        go_roundg (G - 1)
        case measure => have := HN.out; omega
        case rel => exact ⟨i + 1, by go_num, ⟨by have := HN.out; omega⟩, HL1, HB, HX, HY, HP, HM⟩
    have hi' : ¬ (i : Int) < (P.length : Int) := by omega
    have h := HL.out
    rw [List.drop_eq_nil_of_le (by omega), List.any_nil, cond_false, HR.out] at h
    have HH := Aside0.mk h
    clear h HL HR
    obtain ⟨x0, x1, x2, -⟩ := op_cells HX.out
    obtain ⟨y0, y1, y2, -⟩ := op_cells HY.out
    have HHt := Aside0.mk (show r = (bif (y.f0 == 3 && (P.any fun p => sameI p.f0 y.f1)) then 5 else (bif (x.f0 == 3 && (M.any fun p => sameI p.f0 x.f1)) then 5 else 0)) by rw [HH.out]; simp only [b1s, Bool.false_and, Bool.true_and, Bool.and_false, Bool.and_true, Bool.false_or, Bool.true_or, Bool.or_false, Bool.or_true, cond_true, cond_false])
    clear HH
    have HH := HHt
    clear HHt
    go_upto_region 18 with (fail)
    obtain ⟨R, HR, HL⟩ : ∃ R, Aside0 (R = (bif (x.f0 == 3 && (M.any fun p => sameI p.f0 x.f1)) then 5 else 0)) ∧ Aside0 (r = bif ((y.f0 == 3) && P.any (fun p => sameI p.f0 y.f1)) then 5 else R) := ⟨_, ⟨rfl⟩, ⟨by rw [HH.out]⟩⟩
    clear HH x0 x1 x2 y0 y1 y2
    go_wp2_with (fail)
    go_loopg [10] P.length (fun gg v10 wr => ∃ i : Nat, v10 = .int .i64 i ∧ Aside0 (i + gg = P.length) ∧ Aside0 (r = bif ((y.f0 == 3) && (P.drop i).any (fun p => sameI p.f0 y.f1)) then 5 else R) ∧ Aside0 (Below w.heap.size w wr) ∧ Aside0 (wr.heap[w.heap.size]? = some (.cells (opCs x A c B d) 27 (0, 0))) ∧ Aside0 (wr.heap[w.heap.size + 1]? = some (.cells (opCs y A2 c2 B2 d2) 27 (0, 0))) ∧ Aside0 (Kd.C k38 wr Ap P.length P) ∧ Aside0 (Kd.C k38 wr Am M.length M))
    case atStart => exact ⟨0, rfl, ⟨by omega⟩, HL, HB, HX, HY, HP, HM⟩
    case round =>
      clear HL HB HX HY HP HM
      obtain ⟨i, rfl, HN, HL, HB, HX, HY, HP, HM⟩ := hrel
      obtain ⟨G, rfl⟩ : ∃ G, G = gk := ⟨_, rfl⟩
      obtain ⟨x0, x1, x2, -⟩ := op_cells HX.out
      obtain ⟨y0, y1, y2, -⟩ := op_cells HY.out
      by_cases hi : i < P.length
      case pos =>
        have hi' : (i : Int) < (P.length : Int) := by omega
        have r1 : (0 ≤ (i : Int)) = True := eq_true (by omega)
        have r2 : ((i : Int) < (P.length : Int)) = True := eq_true hi'
        have hi9 : (i : Int) + 1 ≤ 9223372036854775807 := by omega
        have h := HL.out
        rw [List.drop_eq_getElem_cons hi, List.any_cons] at h
        have er : rd_T38 P (i : Int) = P[i] := by simp [rd_T38, hi]
        obtain ⟨ad, e1, p0, p1, -⟩ := at_T38 HP.out (i : Int) (by omega) hi'
        rw [er] at p0 p1
        generalize P[i] = p at *
        rw [Int.toNat_natCast] at p0 p1
        subst e1
        rw [show sameI p.f0 y.f1 = (p.f0.f0.toList == y.f1.f0.toList && (p.f0.f1 == y.f1.f1)) from rfl] at h
        have HL1 := Aside0.mk h
        clear h er HL
        cases g3_ : (y.f0 == 3)
        case false =>
          rw [g3_] at HL1
          go_upto_region 21 with (fail)
          go_quiet (fail)
          have HB1 := Aside0.mk (pw_below_drewN HB.out nq)
          have HX1 := Aside0.mk (blk_drewN HX.out nq)
          have HY1 := Aside0.mk (blk_drewN HY.out nq)
          have HP1 := Aside0.mk (Kd.C_drewN HP.out nq)
          have HM1 := Aside0.mk (Kd.C_drewN HM.out nq)
          clear HB HX HY HP HM p0 p1 x0 x1 x2 y0 y1 y2
          go_wp2_with (fail)
          go_roundg (G - 1)
          case measure => have := HN.out; omega
          case rel => exact ⟨i + 1, by go_num, ⟨by have := HN.out; omega⟩, by rw [g3_]; exact HL1, HB1, HX1, HY1, HP1, HM1⟩
        cases hq : (p.f0.f0.toList == y.f1.f0.toList && (p.f0.f1 == y.f1.f1))
        all_goals
          rw [g3_, hq] at HL1
          go_upto_region 21 with (fail)
          go_quiet (fail)
          have HB1 := Aside0.mk (pw_below_drewN HB.out nq)
          have HX1 := Aside0.mk (blk_drewN HX.out nq)
          have HY1 := Aside0.mk (blk_drewN HY.out nq)
          have HP1 := Aside0.mk (Kd.C_drewN HP.out nq)
          have HM1 := Aside0.mk (Kd.C_drewN HM.out nq)
          clear HB HX HY HP HM p0 p1 x0 x1 x2 y0 y1 y2
          go_wp2_with (fail)
        ·
          go_roundg (G - 1)
          case measure => have := HN.out; omega
          case rel => exact ⟨i + 1, by go_num, ⟨by have := HN.out; omega⟩, by rw [g3_]; exact HL1, HB1, HX1, HY1, HP1, HM1⟩
        ·
          go_ret
          exact ⟨by rw [HL1.out]; rfl, HB1.out⟩
      have hi' : ¬ (i : Int) < (P.length : Int) := by omega
      have h := HL.out
      rw [List.drop_eq_nil_of_le (by omega), List.any_nil, Bool.and_false, cond_false, HR.out] at h
      have HH := Aside0.mk h
      clear h HL HR
      obtain ⟨R, HR, HL⟩ : ∃ R, Aside0 (R = (0 : Int)) ∧ Aside0 (r = bif ((x.f0 == 3) && M.any (fun p => sameI p.f0 x.f1)) then 5 else R) := ⟨_, ⟨rfl⟩, ⟨by rw [HH.out]⟩⟩
      clear HH x0 x1 x2 y0 y1 y2
      go_wp2_with (fail)
      go_loopg [11] M.length (fun gg v11 wr => ∃ i : Nat, v11 = .int .i64 i ∧ Aside0 (i + gg = M.length) ∧ Aside0 (r = bif ((x.f0 == 3) && (M.drop i).any (fun p => sameI p.f0 x.f1)) then 5 else R) ∧ Aside0 (Below w.heap.size w wr) ∧ Aside0 (wr.heap[w.heap.size]? = some (.cells (opCs x A c B d) 27 (0, 0))) ∧ Aside0 (wr.heap[w.heap.size + 1]? = some (.cells (opCs y A2 c2 B2 d2) 27 (0, 0))) ∧ Aside0 (Kd.C k38 wr Ap P.length P) ∧ Aside0 (Kd.C k38 wr Am M.length M))
      case atStart => exact ⟨0, rfl, ⟨by omega⟩, HL, HB, HX, HY, HP, HM⟩
      case round =>
        clear HL HB HX HY HP HM
        obtain ⟨i, rfl, HN, HL, HB, HX, HY, HP, HM⟩ := hrel
        obtain ⟨G, rfl⟩ : ∃ G, G = gk := ⟨_, rfl⟩
        obtain ⟨x0, x1, x2, -⟩ := op_cells HX.out
        obtain ⟨y0, y1, y2, -⟩ := op_cells HY.out
        by_cases hi : i < M.length
        case pos =>
          have hi' : (i : Int) < (M.length : Int) := by omega
          have r1 : (0 ≤ (i : Int)) = True := eq_true (by omega)
          have r2 : ((i : Int) < (M.length : Int)) = True := eq_true hi'
          have hi9 : (i : Int) + 1 ≤ 9223372036854775807 := by omega
          have h := HL.out
          rw [List.drop_eq_getElem_cons hi, List.any_cons] at h
          have er : rd_T38 M (i : Int) = M[i] := by simp [rd_T38, hi]
          obtain ⟨ad, e1, p0, p1, -⟩ := at_T38 HM.out (i : Int) (by omega) hi'
          rw [er] at p0 p1
          generalize M[i] = p at *
          rw [Int.toNat_natCast] at p0 p1
          subst e1
          rw [show sameI p.f0 x.f1 = (p.f0.f0.toList == x.f1.f0.toList && (p.f0.f1 == x.f1.f1)) from rfl] at h
          have HL1 := Aside0.mk h
          clear h er HL
          cases b3_ : (x.f0 == 3)
          case false =>
            rw [b3_] at HL1
            go_upto_region 26 with (fail)
            go_quiet (fail)
            have HB1 := Aside0.mk (pw_below_drewN HB.out nq)
            have HX1 := Aside0.mk (blk_drewN HX.out nq)
            have HY1 := Aside0.mk (blk_drewN HY.out nq)
            have HP1 := Aside0.mk (Kd.C_drewN HP.out nq)
            have HM1 := Aside0.mk (Kd.C_drewN HM.out nq)
            clear HB HX HY HP HM p0 p1 x0 x1 x2 y0 y1 y2
            go_wp2_with (fail)
            go_roundg (G - 1)
            case measure => have := HN.out; omega
            case rel => exact ⟨i + 1, by go_num, ⟨by have := HN.out; omega⟩, by rw [b3_]; exact HL1, HB1, HX1, HY1, HP1, HM1⟩
          cases hq : (p.f0.f0.toList == x.f1.f0.toList && (p.f0.f1 == x.f1.f1))
          all_goals
            rw [b3_, hq] at HL1
            go_upto_region 26 with (fail)
            go_quiet (fail)
            have HB1 := Aside0.mk (pw_below_drewN HB.out nq)
            have HX1 := Aside0.mk (blk_drewN HX.out nq)
            have HY1 := Aside0.mk (blk_drewN HY.out nq)
            have HP1 := Aside0.mk (Kd.C_drewN HP.out nq)
            have HM1 := Aside0.mk (Kd.C_drewN HM.out nq)
            clear HB HX HY HP HM p0 p1 x0 x1 x2 y0 y1 y2
            go_wp2_with (fail)
          ·
            go_roundg (G - 1)
            case measure => have := HN.out; omega
            case rel => exact ⟨i + 1, by go_num, ⟨by have := HN.out; omega⟩, by rw [b3_]; exact HL1, HB1, HX1, HY1, HP1, HM1⟩
          ·
            go_ret
            exact ⟨by rw [HL1.out]; rfl, HB1.out⟩
        have hi' : ¬ (i : Int) < (M.length : Int) := by omega
        have h := HL.out
        rw [List.drop_eq_nil_of_le (by omega), List.any_nil, Bool.and_false, cond_false, HR.out] at h
        have HH := Aside0.mk h
        clear h HL HR
        go_wp2_with (fail)
        go_ret
        exact ⟨by rw [HH.out]; rfl, HB.out⟩
set_option maxHeartbeats 8000000 in
set_option maxRecDepth 100000 in
attribute [local go_sem high] eqA23 eqA38 in
theorem r15_Ops.part1 (x : TOp) (A : Option Addr) (c : Nat) (B : Option Addr) (d : Nat) (y : TOp) (A2 : Option Addr) (c2 : Nat) (B2 : Option Addr) (d2 : Nat) (w : World) (hx : OpAt w x A c B d) (hy : OpAt w y A2 c2 B2 d2) (b1 : (x.f1.f0.toList == y.f1.f0.toList && x.f1.f1 == y.f1.f1) = true) (b5 : (x.f0 == 5) = true) (g5 : (y.f0 == 5) = true) (b3 : (x.f0 == 3) = false) (b4 : (x.f0 == 4) = false) (g3 : (y.f0 == 3) = false) (g4 : (y.f0 == 4) = false) :
    Calls Tryd.prog 11 #[opV x A c B d, opV y A2 c2 B2 d2] w fun e w' => e = .returned (.int .i64 (opsR x y)) ∧ Below w.heap.size w w' := by
  obtain ⟨r, hr⟩ : ∃ r, r = opsR x y := ⟨_, rfl⟩
  rw [← hr]
  have HX0 := Aside0.mk hx
  have HY0 := Aside0.mk hy
  have hu := Tryd.underlying23
  have hu3 := Tryd.underlying38
  clear hx hy
  unfold opsR at hr
  generalize hP : plR x = P at *
  generalize hM : plR y = M at *
  unfold hunksR at hr
  have HH := Aside0.mk hr
  clear hr
  have b1s : sameI x.f1 y.f1 = _ := b1
  go_enter Tryd.func11, Tryd.ntmps11
  go_upto_region 1 with (fail)
  obtain ⟨W, hW⟩ : ∃ W, W = (w.alloc (.cells (opCs x A c B d) 27)).alloc (.cells (opCs y A2 c2 B2 d2) 27) := ⟨_, rfl⟩
  have HX : Aside0 (W.heap[w.heap.size]? = some (.cells (opCs x A c B d) 27 (0, 0))) := ⟨by rw [hW]; exact blk_alloc (heap_alloc_new w _) _⟩
  have HY : Aside0 (W.heap[w.heap.size + 1]? = some (.cells (opCs y A2 c2 B2 d2) 27 (0, 0))) := ⟨by rw [hW]; simpa using heap_alloc_new (w.alloc (.cells (opCs x A c B d) 27)) (.cells (opCs y A2 c2 B2 d2) 27)⟩
  have HB : Aside0 (Below w.heap.size w W) := ⟨by rw [hW]; exact below_alloc (below_alloc (Below.refl _ _) _) _⟩
  rw [← hW]
  clear hW
  obtain ⟨x0, x1, x2, -⟩ := op_cells HX.out
  obtain ⟨y0, y1, y2, -⟩ := op_cells HY.out
  have x9 := (blk_cell HX.out 9).trans rfl
  have x10 := (blk_cell HX.out 10).trans rfl
  have x11 := (blk_cell HX.out 11).trans rfl
  have x12 := (blk_cell HX.out 12).trans rfl
  have y9 := (blk_cell HY.out 9).trans rfl
  have y10 := (blk_cell HY.out 10).trans rfl
  have y11 := (blk_cell HY.out 11).trans rfl
  have y12 := (blk_cell HY.out 12).trans rfl
  cases l6 : (x.f6.f0.toList == y.f6.f0.toList && x.f6.f1 == y.f6.f1)
  all_goals
    have l6s : sameI x.f6 y.f6 = _ := l6
  case true =>
    go_wp2_with (fail)
    go_ret
    exact ⟨by have h := HH.out; simp only [b1s, b5, g5, b3, b4, g3, g4, l6s, Bool.false_and, Bool.true_and, Bool.and_false, Bool.and_true, Bool.false_or, Bool.true_or, Bool.or_false, Bool.or_true, cond_true, cond_false] at h; rw [h]; rfl, HB.out⟩
  cases l7 : (x.f7.f0.toList == y.f7.f0.toList && x.f7.f1 == y.f7.f1)
  all_goals
    have l7s : sameI x.f7 y.f7 = _ := l7
  case true =>
    go_wp2_with (fail)
    go_ret
    exact ⟨by have h := HH.out; simp only [b1s, b5, g5, b3, b4, g3, g4, l6s, l7s, Bool.false_and, Bool.true_and, Bool.and_false, Bool.and_true, Bool.false_or, Bool.true_or, Bool.or_false, Bool.or_true, cond_true, cond_false] at h; rw [h]; rfl, HB.out⟩
  go_wp2_with (first | refine op_load 2 _ HX.out rfl rfl rfl ?_ | refine op_load 3 _ HY.out rfl rfl rfl ?_ | fail)
  refine (r15_touch.calls x A c B d y A2 c2 B2 d2 _ (HX0.out.below HB.out) (HY0.out.below HB.out)).mono ?_
  rintro e_ w1 ⟨rfl, hb⟩
  clear x9 x10 x11 x12 y9 y10 y11 y12
  have HX1 := Aside0.mk (blk_below HX.out hb)
  have HY1 := Aside0.mk (blk_below HY.out hb)
  have HB1 := Aside0.mk (below_then HB.out HB.out.size hb)
  clear hb HX HY HB  x0 x1 x2 y0 y1 y2
  have HX := HX1
  clear HX1
  have HY := HY1
  clear HY1
  have HB := HB1
  clear HB1
  obtain ⟨x0, x1, x2, -⟩ := op_cells HX.out
  obtain ⟨y0, y1, y2, -⟩ := op_cells HY.out
  cases t1 : touchR x y
  case true =>
    go_wp2_with (fail)
    go_ret
    exact ⟨by have h := HH.out; simp only [b1s, b5, g5, b3, b4, g3, g4, l6s, l7s, t1, Bool.false_and, Bool.true_and, Bool.and_false, Bool.and_true, Bool.false_or, Bool.true_or, Bool.or_false, Bool.or_true, cond_true, cond_false] at h; rw [h]; rfl, HB.out⟩
  go_wp2_with (first | refine op_load 2 _ HX.out rfl rfl rfl ?_ | refine op_load 3 _ HY.out rfl rfl rfl ?_ | fail)
  refine (r15_touch.calls y A2 c2 B2 d2 x A c B d _ (HY0.out.below HB.out) (HX0.out.below HB.out)).mono ?_
  rintro e_ w1 ⟨rfl, hb⟩
  have HX1 := Aside0.mk (blk_below HX.out hb)
  have HY1 := Aside0.mk (blk_below HY.out hb)
  have HB1 := Aside0.mk (below_then HB.out HB.out.size hb)
  clear hb HX HY HB  x0 x1 x2 y0 y1 y2
  have HX := HX1
  clear HX1
  have HY := HY1
  clear HY1
  have HB := HB1
  clear HB1
  obtain ⟨x0, x1, x2, -⟩ := op_cells HX.out
  obtain ⟨y0, y1, y2, -⟩ := op_cells HY.out
  cases t2 : touchR y x
  case true =>
    go_wp2_with (fail)
    go_ret
    exact ⟨by have h := HH.out; simp only [b1s, b5, g5, b3, b4, g3, g4, l6s, l7s, t1, t2, Bool.false_and, Bool.true_and, Bool.and_false, Bool.and_true, Bool.false_or, Bool.true_or, Bool.or_false, Bool.or_true, cond_true, cond_false] at h; rw [h]; rfl, HB.out⟩
  go_upto_region 6 with (fail)
  go_wp2_with (first | refine op_load 2 _ HX.out rfl rfl rfl ?_ | refine op_load 3 _ HY.out rfl rfl rfl ?_ | fail)
  refine (r15_Places.calls x A c B d _).mono ?_
  rintro e_ w1 ⟨v, rfl, hR, hb⟩
  rw [hP] at hR
  obtain ⟨Ap, cp, rfl⟩ := Kd.R_slice hR
  have HP := Aside0.mk (Kd.R_reads' hR).2.2
  clear hR
  have HX1 := Aside0.mk (blk_below HX.out hb)
  have HY1 := Aside0.mk (blk_below HY.out hb)
  have HB1 := Aside0.mk (below_then HB.out HB.out.size hb)
  clear hb HX HY HB  x0 x1 x2 y0 y1 y2
  have HX := HX1
  clear HX1
  have HY := HY1
  clear HY1
  have HB := HB1
  clear HB1
  obtain ⟨x0, x1, x2, -⟩ := op_cells HX.out
  obtain ⟨y0, y1, y2, -⟩ := op_cells HY.out
  go_wp2_with (first | refine op_load 2 _ HX.out rfl rfl rfl ?_ | refine op_load 3 _ HY.out rfl rfl rfl ?_ | fail)
  refine (r15_Places.calls y A2 c2 B2 d2 _).mono ?_
  rintro e_ w2 ⟨v, rfl, hR, hb⟩
  rw [hM] at hR
  obtain ⟨Am, cm, rfl⟩ := Kd.R_slice hR
  have HM := Aside0.mk (Kd.R_reads' hR).2.2
  clear hR
  have HX1 := Aside0.mk (blk_below HX.out hb)
  have HY1 := Aside0.mk (blk_below HY.out hb)
  have HB1 := Aside0.mk (below_then HB.out HB.out.size hb)
  have HP1 := Aside0.mk (Kd.C_below HP.out hb)
  clear hb HX HY HB HP x0 x1 x2 y0 y1 y2
  have HX := HX1
  clear HX1
  have HY := HY1
  clear HY1
  have HB := HB1
  clear HB1
  have HP := HP1
  clear HP1
  obtain ⟨x0, x1, x2, -⟩ := op_cells HX.out
  obtain ⟨y0, y1, y2, -⟩ := op_cells HY.out
  have hmP := Kd.C_max HP.out
  have hmM := Kd.C_max HM.out
  obtain ⟨R, HR, hR3⟩ : ∃ R, Aside0 (R = (bif (sameI x.f1 y.f1 && ((x.f0 == 3 || x.f0 == 4) && (y.f0 == 3 || y.f0 == 4))) then 4 else (bif (y.f0 == 3 && (P.any fun p => sameI p.f0 y.f1)) then 5 else (bif (x.f0 == 3 && (M.any fun p => sameI p.f0 x.f1)) then 5 else 0)))) ∧ Aside0 (r = bif (P.any fun p => M.any (samePl p)) then 3 else R) := ⟨_, ⟨rfl⟩, ⟨by rw [HH.out]; simp only [b1s, b5, g5, b3, b4, g3, g4, l6s, l7s, t1, t2, Bool.false_and, Bool.true_and, Bool.and_false, Bool.and_true, Bool.false_or, Bool.true_or, Bool.or_false, Bool.or_true, cond_true, cond_false]⟩⟩
  clear HH
  have HL := hR3
  clear hR3 x0 x1 x2 y0 y1 y2
  go_wp2_with (fail)
  go_loopg [8] P.length (fun gg v8 wr => ∃ i : Nat, v8 = .int .i64 i ∧ Aside0 (i + gg = P.length) ∧ Aside0 (r = bif ((P.drop i).any fun p => M.any (samePl p)) then 3 else R) ∧ Aside0 (Below w.heap.size w wr) ∧ Aside0 (wr.heap[w.heap.size]? = some (.cells (opCs x A c B d) 27 (0, 0))) ∧ Aside0 (wr.heap[w.heap.size + 1]? = some (.cells (opCs y A2 c2 B2 d2) 27 (0, 0))) ∧ Aside0 (Kd.C k38 wr Ap P.length P) ∧ Aside0 (Kd.C k38 wr Am M.length M))
  case atStart => exact ⟨0, rfl, ⟨by omega⟩, HL, HB, HX, HY, HP, HM⟩
  case round =>
    clear HL HB HX HY HP HM
    obtain ⟨i, rfl, HN, HL, HB, HX, HY, HP, HM⟩ := hrel
    obtain ⟨G, rfl⟩ : ∃ G, G = gk := ⟨_, rfl⟩
    by_cases hi : i < P.length
    case pos =>
      have hi' : (i : Int) < (P.length : Int) := by omega
      have r1 : (0 ≤ (i : Int)) = True := eq_true (by omega)
      have r2 : ((i : Int) < (P.length : Int)) = True := eq_true hi'
      have hi9 : (i : Int) + 1 ≤ 9223372036854775807 := by omega
      have h := HL.out
      rw [List.drop_eq_getElem_cons hi, List.any_cons] at h
      have er : rd_T38 P (i : Int) = P[i] := by simp [rd_T38, hi]
      have HE := Aside0.mk er
      obtain ⟨p, hp⟩ : ∃ p, p = P[i] := ⟨_, rfl⟩
      rw [← hp] at h er
      have HL1 := Aside0.mk h
      have HE := Aside0.mk er
      clear h er hp HL
      go_wp2_with (fail)
      go_loopg [9] M.length (fun gg v9 wr => ∃ j : Nat, v9 = .int .i64 j ∧ Aside0 (j + gg = M.length) ∧ Aside0 (r = bif ((M.drop j).any (samePl p) || (P.drop (i + 1)).any fun p => M.any (samePl p)) then 3 else R) ∧ Aside0 (Below w.heap.size w wr) ∧ Aside0 (wr.heap[w.heap.size]? = some (.cells (opCs x A c B d) 27 (0, 0))) ∧ Aside0 (wr.heap[w.heap.size + 1]? = some (.cells (opCs y A2 c2 B2 d2) 27 (0, 0))) ∧ Aside0 (Kd.C k38 wr Ap P.length P) ∧ Aside0 (Kd.C k38 wr Am M.length M))
      case atStart => exact ⟨0, rfl, ⟨by omega⟩, HL1, HB, HX, HY, HP, HM⟩
      case round =>
        clear HL1 HB HX HY HP HM
        obtain ⟨j, rfl, HNj, HL, HB, HX, HY, HP, HM⟩ := hrel
        obtain ⟨J, rfl⟩ : ∃ J, J = gk := ⟨_, rfl⟩
        by_cases hj : j < M.length
        case pos =>
          have hj' : (j : Int) < (M.length : Int) := by omega
          have r3 : (0 ≤ (j : Int)) = True := eq_true (by omega)
          have r4 : ((j : Int) < (M.length : Int)) = True := eq_true hj'
          have hj9 : (j : Int) + 1 ≤ 9223372036854775807 := by omega
          have h := HL.out
          rw [List.drop_eq_getElem_cons hj, List.any_cons] at h
          have eq : rd_T38 M (j : Int) = M[j] := by simp [rd_T38, hj]
          obtain ⟨ad, e1, p0, p1, p2⟩ := at_T38 HP.out (i : Int) (by omega) hi'
          obtain ⟨bd, e2, q0, q1, q2⟩ := at_T38 HM.out (j : Int) (by omega) hj'
          rw [HE.out] at p0 p1 p2
          rw [eq] at q0 q1 q2
          generalize M[j] = q at *
          rw [Int.toNat_natCast] at p0 p1 p2 q0 q1 q2
          subst e1
          subst e2
          rw [show samePl p q = ((p.f0.f0.toList == q.f0.f0.toList && (p.f0.f1 == q.f0.f1)) && (p.f1.toList == q.f1.toList)) from rfl] at h
          have HL1 := Aside0.mk h
          clear h eq HL
          cases hq : ((p.f0.f0.toList == q.f0.f0.toList && (p.f0.f1 == q.f0.f1)) && (p.f1.toList == q.f1.toList))
          all_goals
            rw [hq] at HL1
            go_upto_region 14 with (fail)
            go_quiet (fail)
            have HB1 := Aside0.mk (pw_below_drewN HB.out nq)
            have HX1 := Aside0.mk (blk_drewN HX.out nq)
            have HY1 := Aside0.mk (blk_drewN HY.out nq)
            have HP1 := Aside0.mk (Kd.C_drewN HP.out nq)
            have HM1 := Aside0.mk (Kd.C_drewN HM.out nq)
            clear HB HX HY HP HM p0 p1 p2 q0 q1 q2
            go_wp2_with (fail)
          ·
            go_roundg (J - 1)
            case measure => have := HNj.out; omega
            case rel => exact ⟨j + 1, by go_num, ⟨by have := HNj.out; omega⟩, HL1, HB1, HX1, HY1, HP1, HM1⟩
          ·
            go_ret
            exact ⟨by rw [HL1.out]; rfl, HB1.out⟩
        have hj' : ¬ (j : Int) < (M.length : Int) := by omega
        have h := HL.out
        rw [List.drop_eq_nil_of_le (by omega), List.any_nil, Bool.false_or] at h
        have HL1 := Aside0.mk h
        clear h HL
        go_wp2_with (fail)
        go_roundg (G - 1)
        case measure => have := HN.out; omega
        case rel => exact ⟨i + 1, by go_num, ⟨by have := HN.out; omega⟩, HL1, HB, HX, HY, HP, HM⟩
    have hi' : ¬ (i : Int) < (P.length : Int) := by omega
    have h := HL.out
    rw [List.drop_eq_nil_of_le (by omega), List.any_nil, cond_false, HR.out] at h
    have HH := Aside0.mk h
    clear h HL HR
    obtain ⟨x0, x1, x2, -⟩ := op_cells HX.out
    obtain ⟨y0, y1, y2, -⟩ := op_cells HY.out
    have HHt := Aside0.mk (show r = (bif (y.f0 == 3 && (P.any fun p => sameI p.f0 y.f1)) then 5 else (bif (x.f0 == 3 && (M.any fun p => sameI p.f0 x.f1)) then 5 else 0)) by rw [HH.out]; simp only [b1s, b5, g5, b3, b4, g3, g4, l6s, l7s, t1, t2, Bool.false_and, Bool.true_and, Bool.and_false, Bool.and_true, Bool.false_or, Bool.true_or, Bool.or_false, Bool.or_true, cond_true, cond_false])
    clear HH
    have HH := HHt
    clear HHt
    go_upto_region 18 with (fail)
    clear b3
    clear b4
    clear b5
    clear g3
    clear g4
    clear g5
    obtain ⟨R, HR, HL⟩ : ∃ R, Aside0 (R = (bif (x.f0 == 3 && (M.any fun p => sameI p.f0 x.f1)) then 5 else 0)) ∧ Aside0 (r = bif ((y.f0 == 3) && P.any (fun p => sameI p.f0 y.f1)) then 5 else R) := ⟨_, ⟨rfl⟩, ⟨by rw [HH.out]⟩⟩
    clear HH x0 x1 x2 y0 y1 y2
    go_wp2_with (fail)
    go_loopg [10] P.length (fun gg v10 wr => ∃ i : Nat, v10 = .int .i64 i ∧ Aside0 (i + gg = P.length) ∧ Aside0 (r = bif ((y.f0 == 3) && (P.drop i).any (fun p => sameI p.f0 y.f1)) then 5 else R) ∧ Aside0 (Below w.heap.size w wr) ∧ Aside0 (wr.heap[w.heap.size]? = some (.cells (opCs x A c B d) 27 (0, 0))) ∧ Aside0 (wr.heap[w.heap.size + 1]? = some (.cells (opCs y A2 c2 B2 d2) 27 (0, 0))) ∧ Aside0 (Kd.C k38 wr Ap P.length P) ∧ Aside0 (Kd.C k38 wr Am M.length M))
    case atStart => exact ⟨0, rfl, ⟨by omega⟩, HL, HB, HX, HY, HP, HM⟩
    case round =>
      clear HL HB HX HY HP HM
      obtain ⟨i, rfl, HN, HL, HB, HX, HY, HP, HM⟩ := hrel
      obtain ⟨G, rfl⟩ : ∃ G, G = gk := ⟨_, rfl⟩
      obtain ⟨x0, x1, x2, -⟩ := op_cells HX.out
      obtain ⟨y0, y1, y2, -⟩ := op_cells HY.out
      by_cases hi : i < P.length
      case pos =>
        have hi' : (i : Int) < (P.length : Int) := by omega
        have r1 : (0 ≤ (i : Int)) = True := eq_true (by omega)
        have r2 : ((i : Int) < (P.length : Int)) = True := eq_true hi'
        have hi9 : (i : Int) + 1 ≤ 9223372036854775807 := by omega
        have h := HL.out
        rw [List.drop_eq_getElem_cons hi, List.any_cons] at h
        have er : rd_T38 P (i : Int) = P[i] := by simp [rd_T38, hi]
        obtain ⟨ad, e1, p0, p1, -⟩ := at_T38 HP.out (i : Int) (by omega) hi'
        rw [er] at p0 p1
        generalize P[i] = p at *
        rw [Int.toNat_natCast] at p0 p1
        subst e1
        rw [show sameI p.f0 y.f1 = (p.f0.f0.toList == y.f1.f0.toList && (p.f0.f1 == y.f1.f1)) from rfl] at h
        have HL1 := Aside0.mk h
        clear h er HL
        cases g3_ : (y.f0 == 3)
        case false =>
          rw [g3_] at HL1
          go_upto_region 21 with (fail)
          go_quiet (fail)
          have HB1 := Aside0.mk (pw_below_drewN HB.out nq)
          have HX1 := Aside0.mk (blk_drewN HX.out nq)
          have HY1 := Aside0.mk (blk_drewN HY.out nq)
          have HP1 := Aside0.mk (Kd.C_drewN HP.out nq)
          have HM1 := Aside0.mk (Kd.C_drewN HM.out nq)
          clear HB HX HY HP HM p0 p1 x0 x1 x2 y0 y1 y2
          go_wp2_with (fail)
          go_roundg (G - 1)
          case measure => have := HN.out; omega
          case rel => exact ⟨i + 1, by go_num, ⟨by have := HN.out; omega⟩, by rw [g3_]; exact HL1, HB1, HX1, HY1, HP1, HM1⟩
        cases hq : (p.f0.f0.toList == y.f1.f0.toList && (p.f0.f1 == y.f1.f1))
        all_goals
          rw [g3_, hq] at HL1
          go_upto_region 21 with (fail)
          go_quiet (fail)
          have HB1 := Aside0.mk (pw_below_drewN HB.out nq)
          have HX1 := Aside0.mk (blk_drewN HX.out nq)
          have HY1 := Aside0.mk (blk_drewN HY.out nq)
          have HP1 := Aside0.mk (Kd.C_drewN HP.out nq)
          have HM1 := Aside0.mk (Kd.C_drewN HM.out nq)
          clear HB HX HY HP HM p0 p1 x0 x1 x2 y0 y1 y2
          go_wp2_with (fail)
        ·
          go_roundg (G - 1)
          case measure => have := HN.out; omega
          case rel => exact ⟨i + 1, by go_num, ⟨by have := HN.out; omega⟩, by rw [g3_]; exact HL1, HB1, HX1, HY1, HP1, HM1⟩
        ·
          go_ret
          exact ⟨by rw [HL1.out]; rfl, HB1.out⟩
      have hi' : ¬ (i : Int) < (P.length : Int) := by omega
      have h := HL.out
      rw [List.drop_eq_nil_of_le (by omega), List.any_nil, Bool.and_false, cond_false, HR.out] at h
      have HH := Aside0.mk h
      clear h HL HR
      obtain ⟨R, HR, HL⟩ : ∃ R, Aside0 (R = (0 : Int)) ∧ Aside0 (r = bif ((x.f0 == 3) && M.any (fun p => sameI p.f0 x.f1)) then 5 else R) := ⟨_, ⟨rfl⟩, ⟨by rw [HH.out]⟩⟩
      clear HH x0 x1 x2 y0 y1 y2
      go_wp2_with (fail)
      go_loopg [11] M.length (fun gg v11 wr => ∃ i : Nat, v11 = .int .i64 i ∧ Aside0 (i + gg = M.length) ∧ Aside0 (r = bif ((x.f0 == 3) && (M.drop i).any (fun p => sameI p.f0 x.f1)) then 5 else R) ∧ Aside0 (Below w.heap.size w wr) ∧ Aside0 (wr.heap[w.heap.size]? = some (.cells (opCs x A c B d) 27 (0, 0))) ∧ Aside0 (wr.heap[w.heap.size + 1]? = some (.cells (opCs y A2 c2 B2 d2) 27 (0, 0))) ∧ Aside0 (Kd.C k38 wr Ap P.length P) ∧ Aside0 (Kd.C k38 wr Am M.length M))
      case atStart => exact ⟨0, rfl, ⟨by omega⟩, HL, HB, HX, HY, HP, HM⟩
      case round =>
        clear HL HB HX HY HP HM
        obtain ⟨i, rfl, HN, HL, HB, HX, HY, HP, HM⟩ := hrel
        obtain ⟨G, rfl⟩ : ∃ G, G = gk := ⟨_, rfl⟩
        obtain ⟨x0, x1, x2, -⟩ := op_cells HX.out
        obtain ⟨y0, y1, y2, -⟩ := op_cells HY.out
        by_cases hi : i < M.length
        case pos =>
          have hi' : (i : Int) < (M.length : Int) := by omega
          have r1 : (0 ≤ (i : Int)) = True := eq_true (by omega)
          have r2 : ((i : Int) < (M.length : Int)) = True := eq_true hi'
          have hi9 : (i : Int) + 1 ≤ 9223372036854775807 := by omega
          have h := HL.out
          rw [List.drop_eq_getElem_cons hi, List.any_cons] at h
          have er : rd_T38 M (i : Int) = M[i] := by simp [rd_T38, hi]
          obtain ⟨ad, e1, p0, p1, -⟩ := at_T38 HM.out (i : Int) (by omega) hi'
          rw [er] at p0 p1
          generalize M[i] = p at *
          rw [Int.toNat_natCast] at p0 p1
          subst e1
          rw [show sameI p.f0 x.f1 = (p.f0.f0.toList == x.f1.f0.toList && (p.f0.f1 == x.f1.f1)) from rfl] at h
          have HL1 := Aside0.mk h
          clear h er HL
          cases b3_ : (x.f0 == 3)
          case false =>
            rw [b3_] at HL1
            go_upto_region 26 with (fail)
            go_quiet (fail)
            have HB1 := Aside0.mk (pw_below_drewN HB.out nq)
            have HX1 := Aside0.mk (blk_drewN HX.out nq)
            have HY1 := Aside0.mk (blk_drewN HY.out nq)
            have HP1 := Aside0.mk (Kd.C_drewN HP.out nq)
            have HM1 := Aside0.mk (Kd.C_drewN HM.out nq)
            clear HB HX HY HP HM p0 p1 x0 x1 x2 y0 y1 y2
            go_wp2_with (fail)
            go_roundg (G - 1)
            case measure => have := HN.out; omega
            case rel => exact ⟨i + 1, by go_num, ⟨by have := HN.out; omega⟩, by rw [b3_]; exact HL1, HB1, HX1, HY1, HP1, HM1⟩
          cases hq : (p.f0.f0.toList == x.f1.f0.toList && (p.f0.f1 == x.f1.f1))
          all_goals
            rw [b3_, hq] at HL1
            go_upto_region 26 with (fail)
            go_quiet (fail)
            have HB1 := Aside0.mk (pw_below_drewN HB.out nq)
            have HX1 := Aside0.mk (blk_drewN HX.out nq)
            have HY1 := Aside0.mk (blk_drewN HY.out nq)
            have HP1 := Aside0.mk (Kd.C_drewN HP.out nq)
            have HM1 := Aside0.mk (Kd.C_drewN HM.out nq)
            clear HB HX HY HP HM p0 p1 x0 x1 x2 y0 y1 y2
            go_wp2_with (fail)
          ·
            go_roundg (G - 1)
            case measure => have := HN.out; omega
            case rel => exact ⟨i + 1, by go_num, ⟨by have := HN.out; omega⟩, by rw [b3_]; exact HL1, HB1, HX1, HY1, HP1, HM1⟩
          ·
            go_ret
            exact ⟨by rw [HL1.out]; rfl, HB1.out⟩
        have hi' : ¬ (i : Int) < (M.length : Int) := by omega
        have h := HL.out
        rw [List.drop_eq_nil_of_le (by omega), List.any_nil, Bool.and_false, cond_false, HR.out] at h
        have HH := Aside0.mk h
        clear h HL HR
        go_wp2_with (fail)
        go_ret
        exact ⟨by rw [HH.out]; rfl, HB.out⟩
set_option maxHeartbeats 8000000 in
set_option maxRecDepth 100000 in
attribute [local go_sem high] eqA23 eqA38 in
theorem r15_Ops.part2 (x : TOp) (A : Option Addr) (c : Nat) (B : Option Addr) (d : Nat) (y : TOp) (A2 : Option Addr) (c2 : Nat) (B2 : Option Addr) (d2 : Nat) (w : World) (hx : OpAt w x A c B d) (hy : OpAt w y A2 c2 B2 d2) (b1 : (x.f1.f0.toList == y.f1.f0.toList && x.f1.f1 == y.f1.f1) = true) (b5 : (x.f0 == 5) = true) (g5 : (y.f0 == 5) = false) (b3 : (x.f0 == 3) = false) (b4 : (x.f0 == 4) = false) :
    Calls Tryd.prog 11 #[opV x A c B d, opV y A2 c2 B2 d2] w fun e w' => e = .returned (.int .i64 (opsR x y)) ∧ Below w.heap.size w w' := by
  obtain ⟨r, hr⟩ : ∃ r, r = opsR x y := ⟨_, rfl⟩
  rw [← hr]
  have HX0 := Aside0.mk hx
  have HY0 := Aside0.mk hy
  have hu := Tryd.underlying23
  have hu3 := Tryd.underlying38
  clear hx hy
  unfold opsR at hr
  generalize hP : plR x = P at *
  generalize hM : plR y = M at *
  unfold hunksR at hr
  have HH := Aside0.mk hr
  clear hr
  have b1s : sameI x.f1 y.f1 = _ := b1
  go_enter Tryd.func11, Tryd.ntmps11
  go_upto_region 1 with (fail)
  obtain ⟨W, hW⟩ : ∃ W, W = (w.alloc (.cells (opCs x A c B d) 27)).alloc (.cells (opCs y A2 c2 B2 d2) 27) := ⟨_, rfl⟩
  have HX : Aside0 (W.heap[w.heap.size]? = some (.cells (opCs x A c B d) 27 (0, 0))) := ⟨by rw [hW]; exact blk_alloc (heap_alloc_new w _) _⟩
  have HY : Aside0 (W.heap[w.heap.size + 1]? = some (.cells (opCs y A2 c2 B2 d2) 27 (0, 0))) := ⟨by rw [hW]; simpa using heap_alloc_new (w.alloc (.cells (opCs x A c B d) 27)) (.cells (opCs y A2 c2 B2 d2) 27)⟩
  have HB : Aside0 (Below w.heap.size w W) := ⟨by rw [hW]; exact below_alloc (below_alloc (Below.refl _ _) _) _⟩
  rw [← hW]
  clear hW
  obtain ⟨x0, x1, x2, -⟩ := op_cells HX.out
  obtain ⟨y0, y1, y2, -⟩ := op_cells HY.out
  cases g3 : y.f0 == 3
  case true =>
    go_wp2_with (fail)
    go_ret
    exact ⟨by have h := HH.out; simp only [b1s, b5, g5, b3, b4, g3, Bool.false_and, Bool.true_and, Bool.and_false, Bool.and_true, Bool.false_or, Bool.true_or, Bool.or_false, Bool.or_true, cond_true, cond_false] at h; rw [h]; rfl, HB.out⟩
  go_upto_region 6 with (fail)
  go_wp2_with (first | refine op_load 2 _ HX.out rfl rfl rfl ?_ | refine op_load 3 _ HY.out rfl rfl rfl ?_ | fail)
  refine (r15_Places.calls x A c B d _).mono ?_
  rintro e_ w1 ⟨v, rfl, hR, hb⟩
  rw [hP] at hR
  obtain ⟨Ap, cp, rfl⟩ := Kd.R_slice hR
  have HP := Aside0.mk (Kd.R_reads' hR).2.2
  clear hR
  have HX1 := Aside0.mk (blk_below HX.out hb)
  have HY1 := Aside0.mk (blk_below HY.out hb)
  have HB1 := Aside0.mk (below_then HB.out HB.out.size hb)
  clear hb HX HY HB  x0 x1 x2 y0 y1 y2
  have HX := HX1
  clear HX1
  have HY := HY1
  clear HY1
  have HB := HB1
  clear HB1
  obtain ⟨x0, x1, x2, -⟩ := op_cells HX.out
  obtain ⟨y0, y1, y2, -⟩ := op_cells HY.out
  go_wp2_with (first | refine op_load 2 _ HX.out rfl rfl rfl ?_ | refine op_load 3 _ HY.out rfl rfl rfl ?_ | fail)
  refine (r15_Places.calls y A2 c2 B2 d2 _).mono ?_
  rintro e_ w2 ⟨v, rfl, hR, hb⟩
  rw [hM] at hR
  obtain ⟨Am, cm, rfl⟩ := Kd.R_slice hR
  have HM := Aside0.mk (Kd.R_reads' hR).2.2
  clear hR
  have HX1 := Aside0.mk (blk_below HX.out hb)
  have HY1 := Aside0.mk (blk_below HY.out hb)
  have HB1 := Aside0.mk (below_then HB.out HB.out.size hb)
  have HP1 := Aside0.mk (Kd.C_below HP.out hb)
  clear hb HX HY HB HP x0 x1 x2 y0 y1 y2
  have HX := HX1
  clear HX1
  have HY := HY1
  clear HY1
  have HB := HB1
  clear HB1
  have HP := HP1
  clear HP1
  obtain ⟨x0, x1, x2, -⟩ := op_cells HX.out
  obtain ⟨y0, y1, y2, -⟩ := op_cells HY.out
  have hmP := Kd.C_max HP.out
  have hmM := Kd.C_max HM.out
  obtain ⟨R, HR, hR3⟩ : ∃ R, Aside0 (R = (bif (sameI x.f1 y.f1 && ((x.f0 == 3 || x.f0 == 4) && (y.f0 == 3 || y.f0 == 4))) then 4 else (bif (y.f0 == 3 && (P.any fun p => sameI p.f0 y.f1)) then 5 else (bif (x.f0 == 3 && (M.any fun p => sameI p.f0 x.f1)) then 5 else 0)))) ∧ Aside0 (r = bif (P.any fun p => M.any (samePl p)) then 3 else R) := ⟨_, ⟨rfl⟩, ⟨by rw [HH.out]; simp only [b1s, b5, g5, b3, b4, g3, Bool.false_and, Bool.true_and, Bool.and_false, Bool.and_true, Bool.false_or, Bool.true_or, Bool.or_false, Bool.or_true, cond_true, cond_false]⟩⟩
  clear HH
  have HL := hR3
  clear hR3 x0 x1 x2 y0 y1 y2
  go_wp2_with (fail)
  go_loopg [8] P.length (fun gg v8 wr => ∃ i : Nat, v8 = .int .i64 i ∧ Aside0 (i + gg = P.length) ∧ Aside0 (r = bif ((P.drop i).any fun p => M.any (samePl p)) then 3 else R) ∧ Aside0 (Below w.heap.size w wr) ∧ Aside0 (wr.heap[w.heap.size]? = some (.cells (opCs x A c B d) 27 (0, 0))) ∧ Aside0 (wr.heap[w.heap.size + 1]? = some (.cells (opCs y A2 c2 B2 d2) 27 (0, 0))) ∧ Aside0 (Kd.C k38 wr Ap P.length P) ∧ Aside0 (Kd.C k38 wr Am M.length M))
  case atStart => exact ⟨0, rfl, ⟨by omega⟩, HL, HB, HX, HY, HP, HM⟩
  case round =>
    clear HL HB HX HY HP HM
    obtain ⟨i, rfl, HN, HL, HB, HX, HY, HP, HM⟩ := hrel
    obtain ⟨G, rfl⟩ : ∃ G, G = gk := ⟨_, rfl⟩
    by_cases hi : i < P.length
    case pos =>
      have hi' : (i : Int) < (P.length : Int) := by omega
      have r1 : (0 ≤ (i : Int)) = True := eq_true (by omega)
      have r2 : ((i : Int) < (P.length : Int)) = True := eq_true hi'
      have hi9 : (i : Int) + 1 ≤ 9223372036854775807 := by omega
      have h := HL.out
      rw [List.drop_eq_getElem_cons hi, List.any_cons] at h
      have er : rd_T38 P (i : Int) = P[i] := by simp [rd_T38, hi]
      have HE := Aside0.mk er
      obtain ⟨p, hp⟩ : ∃ p, p = P[i] := ⟨_, rfl⟩
      rw [← hp] at h er
      have HL1 := Aside0.mk h
      have HE := Aside0.mk er
      clear h er hp HL
      go_wp2_with (fail)
      go_loopg [9] M.length (fun gg v9 wr => ∃ j : Nat, v9 = .int .i64 j ∧ Aside0 (j + gg = M.length) ∧ Aside0 (r = bif ((M.drop j).any (samePl p) || (P.drop (i + 1)).any fun p => M.any (samePl p)) then 3 else R) ∧ Aside0 (Below w.heap.size w wr) ∧ Aside0 (wr.heap[w.heap.size]? = some (.cells (opCs x A c B d) 27 (0, 0))) ∧ Aside0 (wr.heap[w.heap.size + 1]? = some (.cells (opCs y A2 c2 B2 d2) 27 (0, 0))) ∧ Aside0 (Kd.C k38 wr Ap P.length P) ∧ Aside0 (Kd.C k38 wr Am M.length M))
      case atStart => exact ⟨0, rfl, ⟨by omega⟩, HL1, HB, HX, HY, HP, HM⟩
      case round =>
        clear HL1 HB HX HY HP HM
        obtain ⟨j, rfl, HNj, HL, HB, HX, HY, HP, HM⟩ := hrel
        obtain ⟨J, rfl⟩ : ∃ J, J = gk := ⟨_, rfl⟩
        by_cases hj : j < M.length
        case pos =>
          have hj' : (j : Int) < (M.length : Int) := by omega
          have r3 : (0 ≤ (j : Int)) = True := eq_true (by omega)
          have r4 : ((j : Int) < (M.length : Int)) = True := eq_true hj'
          have hj9 : (j : Int) + 1 ≤ 9223372036854775807 := by omega
          have h := HL.out
          rw [List.drop_eq_getElem_cons hj, List.any_cons] at h
          have eq : rd_T38 M (j : Int) = M[j] := by simp [rd_T38, hj]
          obtain ⟨ad, e1, p0, p1, p2⟩ := at_T38 HP.out (i : Int) (by omega) hi'
          obtain ⟨bd, e2, q0, q1, q2⟩ := at_T38 HM.out (j : Int) (by omega) hj'
          rw [HE.out] at p0 p1 p2
          rw [eq] at q0 q1 q2
          generalize M[j] = q at *
          rw [Int.toNat_natCast] at p0 p1 p2 q0 q1 q2
          subst e1
          subst e2
          rw [show samePl p q = ((p.f0.f0.toList == q.f0.f0.toList && (p.f0.f1 == q.f0.f1)) && (p.f1.toList == q.f1.toList)) from rfl] at h
          have HL1 := Aside0.mk h
          clear h eq HL
          cases hq : ((p.f0.f0.toList == q.f0.f0.toList && (p.f0.f1 == q.f0.f1)) && (p.f1.toList == q.f1.toList))
          all_goals
            rw [hq] at HL1
            go_upto_region 14 with (fail)
            go_quiet (fail)
            have HB1 := Aside0.mk (pw_below_drewN HB.out nq)
            have HX1 := Aside0.mk (blk_drewN HX.out nq)
            have HY1 := Aside0.mk (blk_drewN HY.out nq)
            have HP1 := Aside0.mk (Kd.C_drewN HP.out nq)
            have HM1 := Aside0.mk (Kd.C_drewN HM.out nq)
            clear HB HX HY HP HM p0 p1 p2 q0 q1 q2
            go_wp2_with (fail)
          ·
            go_roundg (J - 1)
            case measure => have := HNj.out; omega
            case rel => exact ⟨j + 1, by go_num, ⟨by have := HNj.out; omega⟩, HL1, HB1, HX1, HY1, HP1, HM1⟩
          ·
            go_ret
            exact ⟨by rw [HL1.out]; rfl, HB1.out⟩
        have hj' : ¬ (j : Int) < (M.length : Int) := by omega
        have h := HL.out
        rw [List.drop_eq_nil_of_le (by omega), List.any_nil, Bool.false_or] at h
        have HL1 := Aside0.mk h
        clear h HL
        go_wp2_with (fail)
        go_roundg (G - 1)
        case measure => have := HN.out; omega
        case rel => exact ⟨i + 1, by go_num, ⟨by have := HN.out; omega⟩, HL1, HB, HX, HY, HP, HM⟩
    have hi' : ¬ (i : Int) < (P.length : Int) := by omega
    have h := HL.out
    rw [List.drop_eq_nil_of_le (by omega), List.any_nil, cond_false, HR.out] at h
    have HH := Aside0.mk h
    clear h HL HR
    obtain ⟨x0, x1, x2, -⟩ := op_cells HX.out
    obtain ⟨y0, y1, y2, -⟩ := op_cells HY.out
    have HHt := Aside0.mk (show r = (bif (y.f0 == 3 && (P.any fun p => sameI p.f0 y.f1)) then 5 else (bif (x.f0 == 3 && (M.any fun p => sameI p.f0 x.f1)) then 5 else 0)) by rw [HH.out]; simp only [b1s, b5, g5, b3, b4, g3, Bool.false_and, Bool.true_and, Bool.and_false, Bool.and_true, Bool.false_or, Bool.true_or, Bool.or_false, Bool.or_true, cond_true, cond_false])
    clear HH
    have HH := HHt
    clear HHt
    go_upto_region 18 with (fail)
    clear b3
    clear b4
    clear b5
    clear g3
    clear g5
    obtain ⟨R, HR, HL⟩ : ∃ R, Aside0 (R = (bif (x.f0 == 3 && (M.any fun p => sameI p.f0 x.f1)) then 5 else 0)) ∧ Aside0 (r = bif ((y.f0 == 3) && P.any (fun p => sameI p.f0 y.f1)) then 5 else R) := ⟨_, ⟨rfl⟩, ⟨by rw [HH.out]⟩⟩
    clear HH x0 x1 x2 y0 y1 y2
    go_wp2_with (fail)
    go_loopg [10] P.length (fun gg v10 wr => ∃ i : Nat, v10 = .int .i64 i ∧ Aside0 (i + gg = P.length) ∧ Aside0 (r = bif ((y.f0 == 3) && (P.drop i).any (fun p => sameI p.f0 y.f1)) then 5 else R) ∧ Aside0 (Below w.heap.size w wr) ∧ Aside0 (wr.heap[w.heap.size]? = some (.cells (opCs x A c B d) 27 (0, 0))) ∧ Aside0 (wr.heap[w.heap.size + 1]? = some (.cells (opCs y A2 c2 B2 d2) 27 (0, 0))) ∧ Aside0 (Kd.C k38 wr Ap P.length P) ∧ Aside0 (Kd.C k38 wr Am M.length M))
    case atStart => exact ⟨0, rfl, ⟨by omega⟩, HL, HB, HX, HY, HP, HM⟩
    case round =>
      clear HL HB HX HY HP HM
      obtain ⟨i, rfl, HN, HL, HB, HX, HY, HP, HM⟩ := hrel
      obtain ⟨G, rfl⟩ : ∃ G, G = gk := ⟨_, rfl⟩
      obtain ⟨x0, x1, x2, -⟩ := op_cells HX.out
      obtain ⟨y0, y1, y2, -⟩ := op_cells HY.out
      by_cases hi : i < P.length
      case pos =>
        have hi' : (i : Int) < (P.length : Int) := by omega
        have r1 : (0 ≤ (i : Int)) = True := eq_true (by omega)
        have r2 : ((i : Int) < (P.length : Int)) = True := eq_true hi'
        have hi9 : (i : Int) + 1 ≤ 9223372036854775807 := by omega
        have h := HL.out
        rw [List.drop_eq_getElem_cons hi, List.any_cons] at h
        have er : rd_T38 P (i : Int) = P[i] := by simp [rd_T38, hi]
        obtain ⟨ad, e1, p0, p1, -⟩ := at_T38 HP.out (i : Int) (by omega) hi'
        rw [er] at p0 p1
        generalize P[i] = p at *
        rw [Int.toNat_natCast] at p0 p1
        subst e1
        rw [show sameI p.f0 y.f1 = (p.f0.f0.toList == y.f1.f0.toList && (p.f0.f1 == y.f1.f1)) from rfl] at h
        have HL1 := Aside0.mk h
        clear h er HL
        cases g3_ : (y.f0 == 3)
        case false =>
          rw [g3_] at HL1
          go_upto_region 21 with (fail)
          go_quiet (fail)
          have HB1 := Aside0.mk (pw_below_drewN HB.out nq)
          have HX1 := Aside0.mk (blk_drewN HX.out nq)
          have HY1 := Aside0.mk (blk_drewN HY.out nq)
          have HP1 := Aside0.mk (Kd.C_drewN HP.out nq)
          have HM1 := Aside0.mk (Kd.C_drewN HM.out nq)
          clear HB HX HY HP HM p0 p1 x0 x1 x2 y0 y1 y2
          go_wp2_with (fail)
          go_roundg (G - 1)
          case measure => have := HN.out; omega
          case rel => exact ⟨i + 1, by go_num, ⟨by have := HN.out; omega⟩, by rw [g3_]; exact HL1, HB1, HX1, HY1, HP1, HM1⟩
        cases hq : (p.f0.f0.toList == y.f1.f0.toList && (p.f0.f1 == y.f1.f1))
        all_goals
          rw [g3_, hq] at HL1
          go_upto_region 21 with (fail)
          go_quiet (fail)
          have HB1 := Aside0.mk (pw_below_drewN HB.out nq)
          have HX1 := Aside0.mk (blk_drewN HX.out nq)
          have HY1 := Aside0.mk (blk_drewN HY.out nq)
          have HP1 := Aside0.mk (Kd.C_drewN HP.out nq)
          have HM1 := Aside0.mk (Kd.C_drewN HM.out nq)
          clear HB HX HY HP HM p0 p1 x0 x1 x2 y0 y1 y2
          go_wp2_with (fail)
        ·
          go_roundg (G - 1)
          case measure => have := HN.out; omega
          case rel => exact ⟨i + 1, by go_num, ⟨by have := HN.out; omega⟩, by rw [g3_]; exact HL1, HB1, HX1, HY1, HP1, HM1⟩
        ·
          go_ret
          exact ⟨by rw [HL1.out]; rfl, HB1.out⟩
      have hi' : ¬ (i : Int) < (P.length : Int) := by omega
      have h := HL.out
      rw [List.drop_eq_nil_of_le (by omega), List.any_nil, Bool.and_false, cond_false, HR.out] at h
      have HH := Aside0.mk h
      clear h HL HR
      obtain ⟨R, HR, HL⟩ : ∃ R, Aside0 (R = (0 : Int)) ∧ Aside0 (r = bif ((x.f0 == 3) && M.any (fun p => sameI p.f0 x.f1)) then 5 else R) := ⟨_, ⟨rfl⟩, ⟨by rw [HH.out]⟩⟩
      clear HH x0 x1 x2 y0 y1 y2
      go_wp2_with (fail)
      go_loopg [11] M.length (fun gg v11 wr => ∃ i : Nat, v11 = .int .i64 i ∧ Aside0 (i + gg = M.length) ∧ Aside0 (r = bif ((x.f0 == 3) && (M.drop i).any (fun p => sameI p.f0 x.f1)) then 5 else R) ∧ Aside0 (Below w.heap.size w wr) ∧ Aside0 (wr.heap[w.heap.size]? = some (.cells (opCs x A c B d) 27 (0, 0))) ∧ Aside0 (wr.heap[w.heap.size + 1]? = some (.cells (opCs y A2 c2 B2 d2) 27 (0, 0))) ∧ Aside0 (Kd.C k38 wr Ap P.length P) ∧ Aside0 (Kd.C k38 wr Am M.length M))
      case atStart => exact ⟨0, rfl, ⟨by omega⟩, HL, HB, HX, HY, HP, HM⟩
      case round =>
        clear HL HB HX HY HP HM
        obtain ⟨i, rfl, HN, HL, HB, HX, HY, HP, HM⟩ := hrel
        obtain ⟨G, rfl⟩ : ∃ G, G = gk := ⟨_, rfl⟩
        obtain ⟨x0, x1, x2, -⟩ := op_cells HX.out
        obtain ⟨y0, y1, y2, -⟩ := op_cells HY.out
        by_cases hi : i < M.length
        case pos =>
          have hi' : (i : Int) < (M.length : Int) := by omega
          have r1 : (0 ≤ (i : Int)) = True := eq_true (by omega)
          have r2 : ((i : Int) < (M.length : Int)) = True := eq_true hi'
          have hi9 : (i : Int) + 1 ≤ 9223372036854775807 := by omega
          have h := HL.out
          rw [List.drop_eq_getElem_cons hi, List.any_cons] at h
          have er : rd_T38 M (i : Int) = M[i] := by simp [rd_T38, hi]
          obtain ⟨ad, e1, p0, p1, -⟩ := at_T38 HM.out (i : Int) (by omega) hi'
          rw [er] at p0 p1
          generalize M[i] = p at *
          rw [Int.toNat_natCast] at p0 p1
          subst e1
          rw [show sameI p.f0 x.f1 = (p.f0.f0.toList == x.f1.f0.toList && (p.f0.f1 == x.f1.f1)) from rfl] at h
          have HL1 := Aside0.mk h
          clear h er HL
          cases b3_ : (x.f0 == 3)
          case false =>
            rw [b3_] at HL1
            go_upto_region 26 with (fail)
            go_quiet (fail)
            have HB1 := Aside0.mk (pw_below_drewN HB.out nq)
            have HX1 := Aside0.mk (blk_drewN HX.out nq)
            have HY1 := Aside0.mk (blk_drewN HY.out nq)
            have HP1 := Aside0.mk (Kd.C_drewN HP.out nq)
            have HM1 := Aside0.mk (Kd.C_drewN HM.out nq)
            clear HB HX HY HP HM p0 p1 x0 x1 x2 y0 y1 y2
            go_wp2_with (fail)
            go_roundg (G - 1)
            case measure => have := HN.out; omega
            case rel => exact ⟨i + 1, by go_num, ⟨by have := HN.out; omega⟩, by rw [b3_]; exact HL1, HB1, HX1, HY1, HP1, HM1⟩
          cases hq : (p.f0.f0.toList == x.f1.f0.toList && (p.f0.f1 == x.f1.f1))
          all_goals
            rw [b3_, hq] at HL1
            go_upto_region 26 with (fail)
            go_quiet (fail)
            have HB1 := Aside0.mk (pw_below_drewN HB.out nq)
            have HX1 := Aside0.mk (blk_drewN HX.out nq)
            have HY1 := Aside0.mk (blk_drewN HY.out nq)
            have HP1 := Aside0.mk (Kd.C_drewN HP.out nq)
            have HM1 := Aside0.mk (Kd.C_drewN HM.out nq)
            clear HB HX HY HP HM p0 p1 x0 x1 x2 y0 y1 y2
            go_wp2_with (fail)
          ·
            go_roundg (G - 1)
            case measure => have := HN.out; omega
            case rel => exact ⟨i + 1, by go_num, ⟨by have := HN.out; omega⟩, by rw [b3_]; exact HL1, HB1, HX1, HY1, HP1, HM1⟩
          ·
            go_ret
            exact ⟨by rw [HL1.out]; rfl, HB1.out⟩
        have hi' : ¬ (i : Int) < (M.length : Int) := by omega
        have h := HL.out
        rw [List.drop_eq_nil_of_le (by omega), List.any_nil, Bool.and_false, cond_false, HR.out] at h
        have HH := Aside0.mk h
        clear h HL HR
        go_wp2_with (fail)
        go_ret
        exact ⟨by rw [HH.out]; rfl, HB.out⟩
set_option maxHeartbeats 8000000 in
set_option maxRecDepth 100000 in
attribute [local go_sem high] eqA23 eqA38 in
theorem r15_Ops.part3 (x : TOp) (A : Option Addr) (c : Nat) (B : Option Addr) (d : Nat) (y : TOp) (A2 : Option Addr) (c2 : Nat) (B2 : Option Addr) (d2 : Nat) (w : World) (hx : OpAt w x A c B d) (hy : OpAt w y A2 c2 B2 d2) (b1 : (x.f1.f0.toList == y.f1.f0.toList && x.f1.f1 == y.f1.f1) = true) (b5 : (x.f0 == 5) = false) (b3 : (x.f0 == 3) = true) (b4 : (x.f0 == 4) = false) :
    Calls Tryd.prog 11 #[opV x A c B d, opV y A2 c2 B2 d2] w fun e w' => e = .returned (.int .i64 (opsR x y)) ∧ Below w.heap.size w w' := by
  obtain ⟨r, hr⟩ : ∃ r, r = opsR x y := ⟨_, rfl⟩
  rw [← hr]
  have HX0 := Aside0.mk hx
  have HY0 := Aside0.mk hy
  have hu := Tryd.underlying23
  have hu3 := Tryd.underlying38
  clear hx hy
  unfold opsR at hr
  generalize hP : plR x = P at *
  generalize hM : plR y = M at *
  unfold hunksR at hr
  have HH := Aside0.mk hr
  clear hr
  have b1s : sameI x.f1 y.f1 = _ := b1
  go_enter Tryd.func11, Tryd.ntmps11
  go_upto_region 1 with (fail)
  obtain ⟨W, hW⟩ : ∃ W, W = (w.alloc (.cells (opCs x A c B d) 27)).alloc (.cells (opCs y A2 c2 B2 d2) 27) := ⟨_, rfl⟩
  have HX : Aside0 (W.heap[w.heap.size]? = some (.cells (opCs x A c B d) 27 (0, 0))) := ⟨by rw [hW]; exact blk_alloc (heap_alloc_new w _) _⟩
  have HY : Aside0 (W.heap[w.heap.size + 1]? = some (.cells (opCs y A2 c2 B2 d2) 27 (0, 0))) := ⟨by rw [hW]; simpa using heap_alloc_new (w.alloc (.cells (opCs x A c B d) 27)) (.cells (opCs y A2 c2 B2 d2) 27)⟩
  have HB : Aside0 (Below w.heap.size w W) := ⟨by rw [hW]; exact below_alloc (below_alloc (Below.refl _ _) _) _⟩
  rw [← hW]
  clear hW
  obtain ⟨x0, x1, x2, -⟩ := op_cells HX.out
  obtain ⟨y0, y1, y2, -⟩ := op_cells HY.out
  cases g5 : y.f0 == 5
  case true =>
    go_wp2_with (fail)
    go_ret
    exact ⟨by have h := HH.out; simp only [b1s, b5, b3, b4, g5, Bool.false_and, Bool.true_and, Bool.and_false, Bool.and_true, Bool.false_or, Bool.true_or, Bool.or_false, Bool.or_true, cond_true, cond_false] at h; rw [h]; rfl, HB.out⟩
  go_upto_region 6 with (fail)
  go_wp2_with (first | refine op_load 2 _ HX.out rfl rfl rfl ?_ | refine op_load 3 _ HY.out rfl rfl rfl ?_ | fail)
  refine (r15_Places.calls x A c B d _).mono ?_
  rintro e_ w1 ⟨v, rfl, hR, hb⟩
  rw [hP] at hR
  obtain ⟨Ap, cp, rfl⟩ := Kd.R_slice hR
  have HP := Aside0.mk (Kd.R_reads' hR).2.2
  clear hR
  have HX1 := Aside0.mk (blk_below HX.out hb)
  have HY1 := Aside0.mk (blk_below HY.out hb)
  have HB1 := Aside0.mk (below_then HB.out HB.out.size hb)
  clear hb HX HY HB  x0 x1 x2 y0 y1 y2
  have HX := HX1
  clear HX1
  have HY := HY1
  clear HY1
  have HB := HB1
  clear HB1
  obtain ⟨x0, x1, x2, -⟩ := op_cells HX.out
  obtain ⟨y0, y1, y2, -⟩ := op_cells HY.out
  go_wp2_with (first | refine op_load 2 _ HX.out rfl rfl rfl ?_ | refine op_load 3 _ HY.out rfl rfl rfl ?_ | fail)
  refine (r15_Places.calls y A2 c2 B2 d2 _).mono ?_
  rintro e_ w2 ⟨v, rfl, hR, hb⟩
  rw [hM] at hR
  obtain ⟨Am, cm, rfl⟩ := Kd.R_slice hR
  have HM := Aside0.mk (Kd.R_reads' hR).2.2
  clear hR
  have HX1 := Aside0.mk (blk_below HX.out hb)
  have HY1 := Aside0.mk (blk_below HY.out hb)
  have HB1 := Aside0.mk (below_then HB.out HB.out.size hb)
  have HP1 := Aside0.mk (Kd.C_below HP.out hb)
  clear hb HX HY HB HP x0 x1 x2 y0 y1 y2
  have HX := HX1
  clear HX1
  have HY := HY1
  clear HY1
  have HB := HB1
  clear HB1
  have HP := HP1
  clear HP1
  obtain ⟨x0, x1, x2, -⟩ := op_cells HX.out
  obtain ⟨y0, y1, y2, -⟩ := op_cells HY.out
  have hmP := Kd.C_max HP.out
  have hmM := Kd.C_max HM.out
  obtain ⟨R, HR, hR3⟩ : ∃ R, Aside0 (R = (bif (sameI x.f1 y.f1 && ((x.f0 == 3 || x.f0 == 4) && (y.f0 == 3 || y.f0 == 4))) then 4 else (bif (y.f0 == 3 && (P.any fun p => sameI p.f0 y.f1)) then 5 else (bif (x.f0 == 3 && (M.any fun p => sameI p.f0 x.f1)) then 5 else 0)))) ∧ Aside0 (r = bif (P.any fun p => M.any (samePl p)) then 3 else R) := ⟨_, ⟨rfl⟩, ⟨by rw [HH.out]; simp only [b1s, b5, b3, b4, g5, Bool.false_and, Bool.true_and, Bool.and_false, Bool.and_true, Bool.false_or, Bool.true_or, Bool.or_false, Bool.or_true, cond_true, cond_false]⟩⟩
  clear HH
  have HL := hR3
  clear hR3 x0 x1 x2 y0 y1 y2
  go_wp2_with (fail)
  go_loopg [8] P.length (fun gg v8 wr => ∃ i : Nat, v8 = .int .i64 i ∧ Aside0 (i + gg = P.length) ∧ Aside0 (r = bif ((P.drop i).any fun p => M.any (samePl p)) then 3 else R) ∧ Aside0 (Below w.heap.size w wr) ∧ Aside0 (wr.heap[w.heap.size]? = some (.cells (opCs x A c B d) 27 (0, 0))) ∧ Aside0 (wr.heap[w.heap.size + 1]? = some (.cells (opCs y A2 c2 B2 d2) 27 (0, 0))) ∧ Aside0 (Kd.C k38 wr Ap P.length P) ∧ Aside0 (Kd.C k38 wr Am M.length M))
  case atStart => exact ⟨0, rfl, ⟨by omega⟩, HL, HB, HX, HY, HP, HM⟩
  case round =>
    clear HL HB HX HY HP HM
    obtain ⟨i, rfl, HN, HL, HB, HX, HY, HP, HM⟩ := hrel
    obtain ⟨G, rfl⟩ : ∃ G, G = gk := ⟨_, rfl⟩
    by_cases hi : i < P.length
    case pos =>
      have hi' : (i : Int) < (P.length : Int) := by omega
      have r1 : (0 ≤ (i : Int)) = True := eq_true (by omega)
      have r2 : ((i : Int) < (P.length : Int)) = True := eq_true hi'
      have hi9 : (i : Int) + 1 ≤ 9223372036854775807 := by omega
      have h := HL.out
      rw [List.drop_eq_getElem_cons hi, List.any_cons] at h
      have er : rd_T38 P (i : Int) = P[i] := by simp [rd_T38, hi]
      have HE := Aside0.mk er
      obtain ⟨p, hp⟩ : ∃ p, p = P[i] := ⟨_, rfl⟩
      rw [← hp] at h er
      have HL1 := Aside0.mk h
      have HE := Aside0.mk er
      clear h er hp HL
      go_wp2_with (fail)
      go_loopg [9] M.length (fun gg v9 wr => ∃ j : Nat, v9 = .int .i64 j ∧ Aside0 (j + gg = M.length) ∧ Aside0 (r = bif ((M.drop j).any (samePl p) || (P.drop (i + 1)).any fun p => M.any (samePl p)) then 3 else R) ∧ Aside0 (Below w.heap.size w wr) ∧ Aside0 (wr.heap[w.heap.size]? = some (.cells (opCs x A c B d) 27 (0, 0))) ∧ Aside0 (wr.heap[w.heap.size + 1]? = some (.cells (opCs y A2 c2 B2 d2) 27 (0, 0))) ∧ Aside0 (Kd.C k38 wr Ap P.length P) ∧ Aside0 (Kd.C k38 wr Am M.length M))
      case atStart => exact ⟨0, rfl, ⟨by omega⟩, HL1, HB, HX, HY, HP, HM⟩
      case round =>
        clear HL1 HB HX HY HP HM
        obtain ⟨j, rfl, HNj, HL, HB, HX, HY, HP, HM⟩ := hrel
        obtain ⟨J, rfl⟩ : ∃ J, J = gk := ⟨_, rfl⟩
        by_cases hj : j < M.length
        case pos =>
          have hj' : (j : Int) < (M.length : Int) := by omega
          have r3 : (0 ≤ (j : Int)) = True := eq_true (by omega)
          have r4 : ((j : Int) < (M.length : Int)) = True := eq_true hj'
          have hj9 : (j : Int) + 1 ≤ 9223372036854775807 := by omega
          have h := HL.out
          rw [List.drop_eq_getElem_cons hj, List.any_cons] at h
          have eq : rd_T38 M (j : Int) = M[j] := by simp [rd_T38, hj]
          obtain ⟨ad, e1, p0, p1, p2⟩ := at_T38 HP.out (i : Int) (by omega) hi'
          obtain ⟨bd, e2, q0, q1, q2⟩ := at_T38 HM.out (j : Int) (by omega) hj'
          rw [HE.out] at p0 p1 p2
          rw [eq] at q0 q1 q2
          generalize M[j] = q at *
          rw [Int.toNat_natCast] at p0 p1 p2 q0 q1 q2
          subst e1
          subst e2
          rw [show samePl p q = ((p.f0.f0.toList == q.f0.f0.toList && (p.f0.f1 == q.f0.f1)) && (p.f1.toList == q.f1.toList)) from rfl] at h
          have HL1 := Aside0.mk h
          clear h eq HL
          cases hq : ((p.f0.f0.toList == q.f0.f0.toList && (p.f0.f1 == q.f0.f1)) && (p.f1.toList == q.f1.toList))
          all_goals
            rw [hq] at HL1
            go_upto_region 14 with (fail)
            go_quiet (fail)
            have HB1 := Aside0.mk (pw_below_drewN HB.out nq)
            have HX1 := Aside0.mk (blk_drewN HX.out nq)
            have HY1 := Aside0.mk (blk_drewN HY.out nq)
            have HP1 := Aside0.mk (Kd.C_drewN HP.out nq)
            have HM1 := Aside0.mk (Kd.C_drewN HM.out nq)
            clear HB HX HY HP HM p0 p1 p2 q0 q1 q2
            go_wp2_with (fail)
          ·
            go_roundg (J - 1)
            case measure => have := HNj.out; omega
            case rel => exact ⟨j + 1, by go_num, ⟨by have := HNj.out; omega⟩, HL1, HB1, HX1, HY1, HP1, HM1⟩
          ·
            go_ret
            exact ⟨by rw [HL1.out]; rfl, HB1.out⟩
        have hj' : ¬ (j : Int) < (M.length : Int) := by omega
        have h := HL.out
        rw [List.drop_eq_nil_of_le (by omega), List.any_nil, Bool.false_or] at h
        have HL1 := Aside0.mk h
        clear h HL
        go_wp2_with (fail)
        go_roundg (G - 1)
        case measure => have := HN.out; omega
        case rel => exact ⟨i + 1, by go_num, ⟨by have := HN.out; omega⟩, HL1, HB, HX, HY, HP, HM⟩
    have hi' : ¬ (i : Int) < (P.length : Int) := by omega
    have h := HL.out
    rw [List.drop_eq_nil_of_le (by omega), List.any_nil, cond_false, HR.out] at h
    have HH := Aside0.mk h
    clear h HL HR
    obtain ⟨x0, x1, x2, -⟩ := op_cells HX.out
    obtain ⟨y0, y1, y2, -⟩ := op_cells HY.out
    cases g3 : y.f0 == 3
    case true =>
      go_wp2_with (fail)
      go_ret
      exact ⟨by have h := HH.out; simp only [b1s, b5, b3, b4, g5, g3, Bool.false_and, Bool.true_and, Bool.and_false, Bool.and_true, Bool.false_or, Bool.true_or, Bool.or_false, Bool.or_true, cond_true, cond_false] at h; rw [h]; rfl, HB.out⟩
    cases g4 : y.f0 == 4
    case true =>
      go_wp2_with (fail)
      go_ret
      exact ⟨by have h := HH.out; simp only [b1s, b5, b3, b4, g5, g3, g4, Bool.false_and, Bool.true_and, Bool.and_false, Bool.and_true, Bool.false_or, Bool.true_or, Bool.or_false, Bool.or_true, cond_true, cond_false] at h; rw [h]; rfl, HB.out⟩
    have HHt := Aside0.mk (show r = (bif (y.f0 == 3 && (P.any fun p => sameI p.f0 y.f1)) then 5 else (bif (x.f0 == 3 && (M.any fun p => sameI p.f0 x.f1)) then 5 else 0)) by rw [HH.out]; simp only [b1s, b5, b3, b4, g5, g3, g4, Bool.false_and, Bool.true_and, Bool.and_false, Bool.and_true, Bool.false_or, Bool.true_or, Bool.or_false, Bool.or_true, cond_true, cond_false])
    clear HH
    have HH := HHt
    clear HHt
    go_upto_region 18 with (fail)
    clear b3
    clear b4
    clear b5
    clear g3
    clear g4
    clear g5
    obtain ⟨R, HR, HL⟩ : ∃ R, Aside0 (R = (bif (x.f0 == 3 && (M.any fun p => sameI p.f0 x.f1)) then 5 else 0)) ∧ Aside0 (r = bif ((y.f0 == 3) && P.any (fun p => sameI p.f0 y.f1)) then 5 else R) := ⟨_, ⟨rfl⟩, ⟨by rw [HH.out]⟩⟩
    clear HH x0 x1 x2 y0 y1 y2
    go_wp2_with (fail)
    go_loopg [10] P.length (fun gg v10 wr => ∃ i : Nat, v10 = .int .i64 i ∧ Aside0 (i + gg = P.length) ∧ Aside0 (r = bif ((y.f0 == 3) && (P.drop i).any (fun p => sameI p.f0 y.f1)) then 5 else R) ∧ Aside0 (Below w.heap.size w wr) ∧ Aside0 (wr.heap[w.heap.size]? = some (.cells (opCs x A c B d) 27 (0, 0))) ∧ Aside0 (wr.heap[w.heap.size + 1]? = some (.cells (opCs y A2 c2 B2 d2) 27 (0, 0))) ∧ Aside0 (Kd.C k38 wr Ap P.length P) ∧ Aside0 (Kd.C k38 wr Am M.length M))
    case atStart => exact ⟨0, rfl, ⟨by omega⟩, HL, HB, HX, HY, HP, HM⟩
    case round =>
      clear HL HB HX HY HP HM
      obtain ⟨i, rfl, HN, HL, HB, HX, HY, HP, HM⟩ := hrel
      obtain ⟨G, rfl⟩ : ∃ G, G = gk := ⟨_, rfl⟩
      obtain ⟨x0, x1, x2, -⟩ := op_cells HX.out
      obtain ⟨y0, y1, y2, -⟩ := op_cells HY.out
      by_cases hi : i < P.length
      case pos =>
        have hi' : (i : Int) < (P.length : Int) := by omega
        have r1 : (0 ≤ (i : Int)) = True := eq_true (by omega)
        have r2 : ((i : Int) < (P.length : Int)) = True := eq_true hi'
        have hi9 : (i : Int) + 1 ≤ 9223372036854775807 := by omega
        have h := HL.out
        rw [List.drop_eq_getElem_cons hi, List.any_cons] at h
        have er : rd_T38 P (i : Int) = P[i] := by simp [rd_T38, hi]
        obtain ⟨ad, e1, p0, p1, -⟩ := at_T38 HP.out (i : Int) (by omega) hi'
        rw [er] at p0 p1
        generalize P[i] = p at *
        rw [Int.toNat_natCast] at p0 p1
        subst e1
        rw [show sameI p.f0 y.f1 = (p.f0.f0.toList == y.f1.f0.toList && (p.f0.f1 == y.f1.f1)) from rfl] at h
        have HL1 := Aside0.mk h
        clear h er HL
        cases g3_ : (y.f0 == 3)
        case false =>
          rw [g3_] at HL1
          go_upto_region 21 with (fail)
          go_quiet (fail)
          have HB1 := Aside0.mk (pw_below_drewN HB.out nq)
          have HX1 := Aside0.mk (blk_drewN HX.out nq)
          have HY1 := Aside0.mk (blk_drewN HY.out nq)
          have HP1 := Aside0.mk (Kd.C_drewN HP.out nq)
          have HM1 := Aside0.mk (Kd.C_drewN HM.out nq)
          clear HB HX HY HP HM p0 p1 x0 x1 x2 y0 y1 y2
          go_wp2_with (fail)
          go_roundg (G - 1)
          case measure => have := HN.out; omega
          case rel => exact ⟨i + 1, by go_num, ⟨by have := HN.out; omega⟩, by rw [g3_]; exact HL1, HB1, HX1, HY1, HP1, HM1⟩
        cases hq : (p.f0.f0.toList == y.f1.f0.toList && (p.f0.f1 == y.f1.f1))
        all_goals
          rw [g3_, hq] at HL1
          go_upto_region 21 with (fail)
          go_quiet (fail)
          have HB1 := Aside0.mk (pw_below_drewN HB.out nq)
          have HX1 := Aside0.mk (blk_drewN HX.out nq)
          have HY1 := Aside0.mk (blk_drewN HY.out nq)
          have HP1 := Aside0.mk (Kd.C_drewN HP.out nq)
          have HM1 := Aside0.mk (Kd.C_drewN HM.out nq)
          clear HB HX HY HP HM p0 p1 x0 x1 x2 y0 y1 y2
          go_wp2_with (fail)
        ·
          go_roundg (G - 1)
          case measure => have := HN.out; omega
          case rel => exact ⟨i + 1, by go_num, ⟨by have := HN.out; omega⟩, by rw [g3_]; exact HL1, HB1, HX1, HY1, HP1, HM1⟩
        ·
          go_ret
          exact ⟨by rw [HL1.out]; rfl, HB1.out⟩
      have hi' : ¬ (i : Int) < (P.length : Int) := by omega
      have h := HL.out
      rw [List.drop_eq_nil_of_le (by omega), List.any_nil, Bool.and_false, cond_false, HR.out] at h
      have HH := Aside0.mk h
      clear h HL HR
      obtain ⟨R, HR, HL⟩ : ∃ R, Aside0 (R = (0 : Int)) ∧ Aside0 (r = bif ((x.f0 == 3) && M.any (fun p => sameI p.f0 x.f1)) then 5 else R) := ⟨_, ⟨rfl⟩, ⟨by rw [HH.out]⟩⟩
      clear HH x0 x1 x2 y0 y1 y2
      go_wp2_with (fail)
      go_loopg [11] M.length (fun gg v11 wr => ∃ i : Nat, v11 = .int .i64 i ∧ Aside0 (i + gg = M.length) ∧ Aside0 (r = bif ((x.f0 == 3) && (M.drop i).any (fun p => sameI p.f0 x.f1)) then 5 else R) ∧ Aside0 (Below w.heap.size w wr) ∧ Aside0 (wr.heap[w.heap.size]? = some (.cells (opCs x A c B d) 27 (0, 0))) ∧ Aside0 (wr.heap[w.heap.size + 1]? = some (.cells (opCs y A2 c2 B2 d2) 27 (0, 0))) ∧ Aside0 (Kd.C k38 wr Ap P.length P) ∧ Aside0 (Kd.C k38 wr Am M.length M))
      case atStart => exact ⟨0, rfl, ⟨by omega⟩, HL, HB, HX, HY, HP, HM⟩
      case round =>
        clear HL HB HX HY HP HM
        obtain ⟨i, rfl, HN, HL, HB, HX, HY, HP, HM⟩ := hrel
        obtain ⟨G, rfl⟩ : ∃ G, G = gk := ⟨_, rfl⟩
        obtain ⟨x0, x1, x2, -⟩ := op_cells HX.out
        obtain ⟨y0, y1, y2, -⟩ := op_cells HY.out
        by_cases hi : i < M.length
        case pos =>
          have hi' : (i : Int) < (M.length : Int) := by omega
          have r1 : (0 ≤ (i : Int)) = True := eq_true (by omega)
          have r2 : ((i : Int) < (M.length : Int)) = True := eq_true hi'
          have hi9 : (i : Int) + 1 ≤ 9223372036854775807 := by omega
          have h := HL.out
          rw [List.drop_eq_getElem_cons hi, List.any_cons] at h
          have er : rd_T38 M (i : Int) = M[i] := by simp [rd_T38, hi]
          obtain ⟨ad, e1, p0, p1, -⟩ := at_T38 HM.out (i : Int) (by omega) hi'
          rw [er] at p0 p1
          generalize M[i] = p at *
          rw [Int.toNat_natCast] at p0 p1
          subst e1
          rw [show sameI p.f0 x.f1 = (p.f0.f0.toList == x.f1.f0.toList && (p.f0.f1 == x.f1.f1)) from rfl] at h
          have HL1 := Aside0.mk h
          clear h er HL
          cases b3_ : (x.f0 == 3)
          case false =>
            rw [b3_] at HL1
            go_upto_region 26 with (fail)
            go_quiet (fail)
            have HB1 := Aside0.mk (pw_below_drewN HB.out nq)
            have HX1 := Aside0.mk (blk_drewN HX.out nq)
            have HY1 := Aside0.mk (blk_drewN HY.out nq)
            have HP1 := Aside0.mk (Kd.C_drewN HP.out nq)
            have HM1 := Aside0.mk (Kd.C_drewN HM.out nq)
            clear HB HX HY HP HM p0 p1 x0 x1 x2 y0 y1 y2
            go_wp2_with (fail)
            go_roundg (G - 1)
            case measure => have := HN.out; omega
            case rel => exact ⟨i + 1, by go_num, ⟨by have := HN.out; omega⟩, by rw [b3_]; exact HL1, HB1, HX1, HY1, HP1, HM1⟩
          cases hq : (p.f0.f0.toList == x.f1.f0.toList && (p.f0.f1 == x.f1.f1))
          all_goals
            rw [b3_, hq] at HL1
            go_upto_region 26 with (fail)
            go_quiet (fail)
            have HB1 := Aside0.mk (pw_below_drewN HB.out nq)
            have HX1 := Aside0.mk (blk_drewN HX.out nq)
            have HY1 := Aside0.mk (blk_drewN HY.out nq)
            have HP1 := Aside0.mk (Kd.C_drewN HP.out nq)
            have HM1 := Aside0.mk (Kd.C_drewN HM.out nq)
            clear HB HX HY HP HM p0 p1 x0 x1 x2 y0 y1 y2
            go_wp2_with (fail)
          ·
            go_roundg (G - 1)
            case measure => have := HN.out; omega
            case rel => exact ⟨i + 1, by go_num, ⟨by have := HN.out; omega⟩, by rw [b3_]; exact HL1, HB1, HX1, HY1, HP1, HM1⟩
          ·
            go_ret
            exact ⟨by rw [HL1.out]; rfl, HB1.out⟩
        have hi' : ¬ (i : Int) < (M.length : Int) := by omega
        have h := HL.out
        rw [List.drop_eq_nil_of_le (by omega), List.any_nil, Bool.and_false, cond_false, HR.out] at h
        have HH := Aside0.mk h
        clear h HL HR
        go_wp2_with (fail)
        go_ret
        exact ⟨by rw [HH.out]; rfl, HB.out⟩
set_option maxHeartbeats 8000000 in
set_option maxRecDepth 100000 in
attribute [local go_sem high] eqA23 eqA38 in
theorem r15_Ops.part4 (x : TOp) (A : Option Addr) (c : Nat) (B : Option Addr) (d : Nat) (y : TOp) (A2 : Option Addr) (c2 : Nat) (B2 : Option Addr) (d2 : Nat) (w : World) (hx : OpAt w x A c B d) (hy : OpAt w y A2 c2 B2 d2) (b1 : (x.f1.f0.toList == y.f1.f0.toList && x.f1.f1 == y.f1.f1) = true) (b5 : (x.f0 == 5) = false) (b3 : (x.f0 == 3) = false) :
    Calls Tryd.prog 11 #[opV x A c B d, opV y A2 c2 B2 d2] w fun e w' => e = .returned (.int .i64 (opsR x y)) ∧ Below w.heap.size w w' := by
  obtain ⟨r, hr⟩ : ∃ r, r = opsR x y := ⟨_, rfl⟩
  rw [← hr]
  have HX0 := Aside0.mk hx
  have HY0 := Aside0.mk hy
  have hu := Tryd.underlying23
  have hu3 := Tryd.underlying38
  clear hx hy
  unfold opsR at hr
  generalize hP : plR x = P at *
  generalize hM : plR y = M at *
  unfold hunksR at hr
  have HH := Aside0.mk hr
  clear hr
  have b1s : sameI x.f1 y.f1 = _ := b1
  go_enter Tryd.func11, Tryd.ntmps11
  go_upto_region 1 with (fail)
  obtain ⟨W, hW⟩ : ∃ W, W = (w.alloc (.cells (opCs x A c B d) 27)).alloc (.cells (opCs y A2 c2 B2 d2) 27) := ⟨_, rfl⟩
  have HX : Aside0 (W.heap[w.heap.size]? = some (.cells (opCs x A c B d) 27 (0, 0))) := ⟨by rw [hW]; exact blk_alloc (heap_alloc_new w _) _⟩
  have HY : Aside0 (W.heap[w.heap.size + 1]? = some (.cells (opCs y A2 c2 B2 d2) 27 (0, 0))) := ⟨by rw [hW]; simpa using heap_alloc_new (w.alloc (.cells (opCs x A c B d) 27)) (.cells (opCs y A2 c2 B2 d2) 27)⟩
  have HB : Aside0 (Below w.heap.size w W) := ⟨by rw [hW]; exact below_alloc (below_alloc (Below.refl _ _) _) _⟩
  rw [← hW]
  clear hW
  obtain ⟨x0, x1, x2, -⟩ := op_cells HX.out
  obtain ⟨y0, y1, y2, -⟩ := op_cells HY.out
  go_upto_region 6 with (fail)
  go_wp2_with (first | refine op_load 2 _ HX.out rfl rfl rfl ?_ | refine op_load 3 _ HY.out rfl rfl rfl ?_ | fail)
  refine (r15_Places.calls x A c B d _).mono ?_
  rintro e_ w1 ⟨v, rfl, hR, hb⟩
  rw [hP] at hR
  obtain ⟨Ap, cp, rfl⟩ := Kd.R_slice hR
  have HP := Aside0.mk (Kd.R_reads' hR).2.2
  clear hR
  have HX1 := Aside0.mk (blk_below HX.out hb)
  have HY1 := Aside0.mk (blk_below HY.out hb)
  have HB1 := Aside0.mk (below_then HB.out HB.out.size hb)
  clear hb HX HY HB  x0 x1 x2 y0 y1 y2
  have HX := HX1
  clear HX1
  have HY := HY1
  clear HY1
  have HB := HB1
  clear HB1
  obtain ⟨x0, x1, x2, -⟩ := op_cells HX.out
  obtain ⟨y0, y1, y2, -⟩ := op_cells HY.out
  go_wp2_with (first | refine op_load 2 _ HX.out rfl rfl rfl ?_ | refine op_load 3 _ HY.out rfl rfl rfl ?_ | fail)
  refine (r15_Places.calls y A2 c2 B2 d2 _).mono ?_
  rintro e_ w2 ⟨v, rfl, hR, hb⟩
  rw [hM] at hR
  obtain ⟨Am, cm, rfl⟩ := Kd.R_slice hR
  have HM := Aside0.mk (Kd.R_reads' hR).2.2
  clear hR
  have HX1 := Aside0.mk (blk_below HX.out hb)
  have HY1 := Aside0.mk (blk_below HY.out hb)
  have HB1 := Aside0.mk (below_then HB.out HB.out.size hb)
  have HP1 := Aside0.mk (Kd.C_below HP.out hb)
  clear hb HX HY HB HP x0 x1 x2 y0 y1 y2
  have HX := HX1
  clear HX1
  have HY := HY1
  clear HY1
  have HB := HB1
  clear HB1
  have HP := HP1
  clear HP1
  obtain ⟨x0, x1, x2, -⟩ := op_cells HX.out
  obtain ⟨y0, y1, y2, -⟩ := op_cells HY.out
  have hmP := Kd.C_max HP.out
  have hmM := Kd.C_max HM.out
  obtain ⟨R, HR, hR3⟩ : ∃ R, Aside0 (R = (bif (sameI x.f1 y.f1 && ((x.f0 == 3 || x.f0 == 4) && (y.f0 == 3 || y.f0 == 4))) then 4 else (bif (y.f0 == 3 && (P.any fun p => sameI p.f0 y.f1)) then 5 else (bif (x.f0 == 3 && (M.any fun p => sameI p.f0 x.f1)) then 5 else 0)))) ∧ Aside0 (r = bif (P.any fun p => M.any (samePl p)) then 3 else R) := ⟨_, ⟨rfl⟩, ⟨by rw [HH.out]; simp only [b1s, b5, b3, Bool.false_and, Bool.true_and, Bool.and_false, Bool.and_true, Bool.false_or, Bool.true_or, Bool.or_false, Bool.or_true, cond_true, cond_false]⟩⟩
  clear HH
  have HL := hR3
  clear hR3 x0 x1 x2 y0 y1 y2
  go_wp2_with (fail)
  go_loopg [8] P.length (fun gg v8 wr => ∃ i : Nat, v8 = .int .i64 i ∧ Aside0 (i + gg = P.length) ∧ Aside0 (r = bif ((P.drop i).any fun p => M.any (samePl p)) then 3 else R) ∧ Aside0 (Below w.heap.size w wr) ∧ Aside0 (wr.heap[w.heap.size]? = some (.cells (opCs x A c B d) 27 (0, 0))) ∧ Aside0 (wr.heap[w.heap.size + 1]? = some (.cells (opCs y A2 c2 B2 d2) 27 (0, 0))) ∧ Aside0 (Kd.C k38 wr Ap P.length P) ∧ Aside0 (Kd.C k38 wr Am M.length M))
  case atStart => exact ⟨0, rfl, ⟨by omega⟩, HL, HB, HX, HY, HP, HM⟩
  case round =>
    clear HL HB HX HY HP HM
    obtain ⟨i, rfl, HN, HL, HB, HX, HY, HP, HM⟩ := hrel
    obtain ⟨G, rfl⟩ : ∃ G, G = gk := ⟨_, rfl⟩
    by_cases hi : i < P.length
    case pos =>
      have hi' : (i : Int) < (P.length : Int) := by omega
      have r1 : (0 ≤ (i : Int)) = True := eq_true (by omega)
      have r2 : ((i : Int) < (P.length : Int)) = True := eq_true hi'
      have hi9 : (i : Int) + 1 ≤ 9223372036854775807 := by omega
      have h := HL.out
      rw [List.drop_eq_getElem_cons hi, List.any_cons] at h
      have er : rd_T38 P (i : Int) = P[i] := by simp [rd_T38, hi]
      have HE := Aside0.mk er
      obtain ⟨p, hp⟩ : ∃ p, p = P[i] := ⟨_, rfl⟩
      rw [← hp] at h er
      have HL1 := Aside0.mk h
      have HE := Aside0.mk er
      clear h er hp HL
      go_wp2_with (fail)
      go_loopg [9] M.length (fun gg v9 wr => ∃ j : Nat, v9 = .int .i64 j ∧ Aside0 (j + gg = M.length) ∧ Aside0 (r = bif ((M.drop j).any (samePl p) || (P.drop (i + 1)).any fun p => M.any (samePl p)) then 3 else R) ∧ Aside0 (Below w.heap.size w wr) ∧ Aside0 (wr.heap[w.heap.size]? = some (.cells (opCs x A c B d) 27 (0, 0))) ∧ Aside0 (wr.heap[w.heap.size + 1]? = some (.cells (opCs y A2 c2 B2 d2) 27 (0, 0))) ∧ Aside0 (Kd.C k38 wr Ap P.length P) ∧ Aside0 (Kd.C k38 wr Am M.length M))
      case atStart => exact ⟨0, rfl, ⟨by omega⟩, HL1, HB, HX, HY, HP, HM⟩
      case round =>
        clear HL1 HB HX HY HP HM
        obtain ⟨j, rfl, HNj, HL, HB, HX, HY, HP, HM⟩ := hrel
        obtain ⟨J, rfl⟩ : ∃ J, J = gk := ⟨_, rfl⟩
        by_cases hj : j < M.length
        case pos =>
          have hj' : (j : Int) < (M.length : Int) := by omega
          have r3 : (0 ≤ (j : Int)) = True := eq_true (by omega)
          have r4 : ((j : Int) < (M.length : Int)) = True := eq_true hj'
          have hj9 : (j : Int) + 1 ≤ 9223372036854775807 := by omega
          have h := HL.out
          rw [List.drop_eq_getElem_cons hj, List.any_cons] at h
          have eq : rd_T38 M (j : Int) = M[j] := by simp [rd_T38, hj]
          obtain ⟨ad, e1, p0, p1, p2⟩ := at_T38 HP.out (i : Int) (by omega) hi'
          obtain ⟨bd, e2, q0, q1, q2⟩ := at_T38 HM.out (j : Int) (by omega) hj'
          rw [HE.out] at p0 p1 p2
          rw [eq] at q0 q1 q2
          generalize M[j] = q at *
          rw [Int.toNat_natCast] at p0 p1 p2 q0 q1 q2
          subst e1
          subst e2
          rw [show samePl p q = ((p.f0.f0.toList == q.f0.f0.toList && (p.f0.f1 == q.f0.f1)) && (p.f1.toList == q.f1.toList)) from rfl] at h
          have HL1 := Aside0.mk h
          clear h eq HL
          cases hq : ((p.f0.f0.toList == q.f0.f0.toList && (p.f0.f1 == q.f0.f1)) && (p.f1.toList == q.f1.toList))
          all_goals
            rw [hq] at HL1
            go_upto_region 14 with (fail)
            go_quiet (fail)
            have HB1 := Aside0.mk (pw_below_drewN HB.out nq)
            have HX1 := Aside0.mk (blk_drewN HX.out nq)
            have HY1 := Aside0.mk (blk_drewN HY.out nq)
            have HP1 := Aside0.mk (Kd.C_drewN HP.out nq)
            have HM1 := Aside0.mk (Kd.C_drewN HM.out nq)
            clear HB HX HY HP HM p0 p1 p2 q0 q1 q2
            go_wp2_with (fail)
          ·
            go_roundg (J - 1)
            case measure => have := HNj.out; omega
            case rel => exact ⟨j + 1, by go_num, ⟨by have := HNj.out; omega⟩, HL1, HB1, HX1, HY1, HP1, HM1⟩
          ·
            go_ret
            exact ⟨by rw [HL1.out]; rfl, HB1.out⟩
        have hj' : ¬ (j : Int) < (M.length : Int) := by omega
        have h := HL.out
        rw [List.drop_eq_nil_of_le (by omega), List.any_nil, Bool.false_or] at h
        have HL1 := Aside0.mk h
        clear h HL
        go_wp2_with (fail)
        go_roundg (G - 1)
        case measure => have := HN.out; omega
        case rel => exact ⟨i + 1, by go_num, ⟨by have := HN.out; omega⟩, HL1, HB, HX, HY, HP, HM⟩
    have hi' : ¬ (i : Int) < (P.length : Int) := by omega
    have h := HL.out
    rw [List.drop_eq_nil_of_le (by omega), List.any_nil, cond_false, HR.out] at h
    have HH := Aside0.mk h
    clear h HL HR
    obtain ⟨x0, x1, x2, -⟩ := op_cells HX.out
    obtain ⟨y0, y1, y2, -⟩ := op_cells HY.out
    cases b4 : x.f0 == 4
    case true =>
      cases g3 : y.f0 == 3
      case true =>
        go_wp2_with (fail)
        go_ret
        exact ⟨by have h := HH.out; simp only [b1s, b5, b3, b4, g3, Bool.false_and, Bool.true_and, Bool.and_false, Bool.and_true, Bool.false_or, Bool.true_or, Bool.or_false, Bool.or_true, cond_true, cond_false] at h; rw [h]; rfl, HB.out⟩
      cases g4 : y.f0 == 4
      case true =>
        go_wp2_with (fail)
        go_ret
        exact ⟨by have h := HH.out; simp only [b1s, b5, b3, b4, g3, g4, Bool.false_and, Bool.true_and, Bool.and_false, Bool.and_true, Bool.false_or, Bool.true_or, Bool.or_false, Bool.or_true, cond_true, cond_false] at h; rw [h]; rfl, HB.out⟩
      have HHt := Aside0.mk (show r = (bif (y.f0 == 3 && (P.any fun p => sameI p.f0 y.f1)) then 5 else (bif (x.f0 == 3 && (M.any fun p => sameI p.f0 x.f1)) then 5 else 0)) by rw [HH.out]; simp only [b1s, b5, b3, b4, g3, g4, Bool.false_and, Bool.true_and, Bool.and_false, Bool.and_true, Bool.false_or, Bool.true_or, Bool.or_false, Bool.or_true, cond_true, cond_false])
      clear HH
      have HH := HHt
      clear HHt
      go_upto_region 18 with (fail)
      clear b3
      clear b4
      clear b5
      clear g3
      clear g4
      obtain ⟨R, HR, HL⟩ : ∃ R, Aside0 (R = (bif (x.f0 == 3 && (M.any fun p => sameI p.f0 x.f1)) then 5 else 0)) ∧ Aside0 (r = bif ((y.f0 == 3) && P.any (fun p => sameI p.f0 y.f1)) then 5 else R) := ⟨_, ⟨rfl⟩, ⟨by rw [HH.out]⟩⟩
      clear HH x0 x1 x2 y0 y1 y2
      go_wp2_with (fail)
      go_loopg [10] P.length (fun gg v10 wr => ∃ i : Nat, v10 = .int .i64 i ∧ Aside0 (i + gg = P.length) ∧ Aside0 (r = bif ((y.f0 == 3) && (P.drop i).any (fun p => sameI p.f0 y.f1)) then 5 else R) ∧ Aside0 (Below w.heap.size w wr) ∧ Aside0 (wr.heap[w.heap.size]? = some (.cells (opCs x A c B d) 27 (0, 0))) ∧ Aside0 (wr.heap[w.heap.size + 1]? = some (.cells (opCs y A2 c2 B2 d2) 27 (0, 0))) ∧ Aside0 (Kd.C k38 wr Ap P.length P) ∧ Aside0 (Kd.C k38 wr Am M.length M))
      case atStart => exact ⟨0, rfl, ⟨by omega⟩, HL, HB, HX, HY, HP, HM⟩
      case round =>
        clear HL HB HX HY HP HM
        obtain ⟨i, rfl, HN, HL, HB, HX, HY, HP, HM⟩ := hrel
        obtain ⟨G, rfl⟩ : ∃ G, G = gk := ⟨_, rfl⟩
        obtain ⟨x0, x1, x2, -⟩ := op_cells HX.out
        obtain ⟨y0, y1, y2, -⟩ := op_cells HY.out
        by_cases hi : i < P.length
        case pos =>
          have hi' : (i : Int) < (P.length : Int) := by omega
          have r1 : (0 ≤ (i : Int)) = True := eq_true (by omega)
          have r2 : ((i : Int) < (P.length : Int)) = True := eq_true hi'
          have hi9 : (i : Int) + 1 ≤ 9223372036854775807 := by omega
          have h := HL.out
          rw [List.drop_eq_getElem_cons hi, List.any_cons] at h
          have er : rd_T38 P (i : Int) = P[i] := by simp [rd_T38, hi]
          obtain ⟨ad, e1, p0, p1, -⟩ := at_T38 HP.out (i : Int) (by omega) hi'
          rw [er] at p0 p1
          generalize P[i] = p at *
          rw [Int.toNat_natCast] at p0 p1
          subst e1
          rw [show sameI p.f0 y.f1 = (p.f0.f0.toList == y.f1.f0.toList && (p.f0.f1 == y.f1.f1)) from rfl] at h
          have HL1 := Aside0.mk h
          clear h er HL
          cases g3_ : (y.f0 == 3)
          case false =>
            rw [g3_] at HL1
            go_upto_region 21 with (fail)
            go_quiet (fail)
            have HB1 := Aside0.mk (pw_below_drewN HB.out nq)
            have HX1 := Aside0.mk (blk_drewN HX.out nq)
            have HY1 := Aside0.mk (blk_drewN HY.out nq)
            have HP1 := Aside0.mk (Kd.C_drewN HP.out nq)
            have HM1 := Aside0.mk (Kd.C_drewN HM.out nq)
            clear HB HX HY HP HM p0 p1 x0 x1 x2 y0 y1 y2
            go_wp2_with (fail)
            go_roundg (G - 1)
            case measure => have := HN.out; omega
            case rel => exact ⟨i + 1, by go_num, ⟨by have := HN.out; omega⟩, by rw [g3_]; exact HL1, HB1, HX1, HY1, HP1, HM1⟩
          cases hq : (p.f0.f0.toList == y.f1.f0.toList && (p.f0.f1 == y.f1.f1))
          all_goals
            rw [g3_, hq] at HL1
            go_upto_region 21 with (fail)
            go_quiet (fail)
            have HB1 := Aside0.mk (pw_below_drewN HB.out nq)
            have HX1 := Aside0.mk (blk_drewN HX.out nq)
            have HY1 := Aside0.mk (blk_drewN HY.out nq)
            have HP1 := Aside0.mk (Kd.C_drewN HP.out nq)
            have HM1 := Aside0.mk (Kd.C_drewN HM.out nq)
            clear HB HX HY HP HM p0 p1 x0 x1 x2 y0 y1 y2
            go_wp2_with (fail)
          ·
            go_roundg (G - 1)
            case measure => have := HN.out; omega
            case rel => exact ⟨i + 1, by go_num, ⟨by have := HN.out; omega⟩, by rw [g3_]; exact HL1, HB1, HX1, HY1, HP1, HM1⟩
          ·
            go_ret
            exact ⟨by rw [HL1.out]; rfl, HB1.out⟩
        have hi' : ¬ (i : Int) < (P.length : Int) := by omega
        have h := HL.out
        rw [List.drop_eq_nil_of_le (by omega), List.any_nil, Bool.and_false, cond_false, HR.out] at h
        have HH := Aside0.mk h
        clear h HL HR
        obtain ⟨R, HR, HL⟩ : ∃ R, Aside0 (R = (0 : Int)) ∧ Aside0 (r = bif ((x.f0 == 3) && M.any (fun p => sameI p.f0 x.f1)) then 5 else R) := ⟨_, ⟨rfl⟩, ⟨by rw [HH.out]⟩⟩
        clear HH x0 x1 x2 y0 y1 y2
        go_wp2_with (fail)
        go_loopg [11] M.length (fun gg v11 wr => ∃ i : Nat, v11 = .int .i64 i ∧ Aside0 (i + gg = M.length) ∧ Aside0 (r = bif ((x.f0 == 3) && (M.drop i).any (fun p => sameI p.f0 x.f1)) then 5 else R) ∧ Aside0 (Below w.heap.size w wr) ∧ Aside0 (wr.heap[w.heap.size]? = some (.cells (opCs x A c B d) 27 (0, 0))) ∧ Aside0 (wr.heap[w.heap.size + 1]? = some (.cells (opCs y A2 c2 B2 d2) 27 (0, 0))) ∧ Aside0 (Kd.C k38 wr Ap P.length P) ∧ Aside0 (Kd.C k38 wr Am M.length M))
        case atStart => exact ⟨0, rfl, ⟨by omega⟩, HL, HB, HX, HY, HP, HM⟩
        case round =>
          clear HL HB HX HY HP HM
          obtain ⟨i, rfl, HN, HL, HB, HX, HY, HP, HM⟩ := hrel
          obtain ⟨G, rfl⟩ : ∃ G, G = gk := ⟨_, rfl⟩
          obtain ⟨x0, x1, x2, -⟩ := op_cells HX.out
          obtain ⟨y0, y1, y2, -⟩ := op_cells HY.out
          by_cases hi : i < M.length
          case pos =>
            have hi' : (i : Int) < (M.length : Int) := by omega
            have r1 : (0 ≤ (i : Int)) = True := eq_true (by omega)
            have r2 : ((i : Int) < (M.length : Int)) = True := eq_true hi'
            have hi9 : (i : Int) + 1 ≤ 9223372036854775807 := by omega
            have h := HL.out
            rw [List.drop_eq_getElem_cons hi, List.any_cons] at h
            have er : rd_T38 M (i : Int) = M[i] := by simp [rd_T38, hi]
            obtain ⟨ad, e1, p0, p1, -⟩ := at_T38 HM.out (i : Int) (by omega) hi'
            rw [er] at p0 p1
            generalize M[i] = p at *
            rw [Int.toNat_natCast] at p0 p1
            subst e1
            rw [show sameI p.f0 x.f1 = (p.f0.f0.toList == x.f1.f0.toList && (p.f0.f1 == x.f1.f1)) from rfl] at h
            have HL1 := Aside0.mk h
            clear h er HL
            cases b3_ : (x.f0 == 3)
            case false =>
              rw [b3_] at HL1
              go_upto_region 26 with (fail)
              go_quiet (fail)
              have HB1 := Aside0.mk (pw_below_drewN HB.out nq)
              have HX1 := Aside0.mk (blk_drewN HX.out nq)
              have HY1 := Aside0.mk (blk_drewN HY.out nq)
              have HP1 := Aside0.mk (Kd.C_drewN HP.out nq)
              have HM1 := Aside0.mk (Kd.C_drewN HM.out nq)
              clear HB HX HY HP HM p0 p1 x0 x1 x2 y0 y1 y2
              go_wp2_with (fail)
              go_roundg (G - 1)
              case measure => have := HN.out; omega
              case rel => exact ⟨i + 1, by go_num, ⟨by have := HN.out; omega⟩, by rw [b3_]; exact HL1, HB1, HX1, HY1, HP1, HM1⟩
            cases hq : (p.f0.f0.toList == x.f1.f0.toList && (p.f0.f1 == x.f1.f1))
            all_goals
              rw [b3_, hq] at HL1
              go_upto_region 26 with (fail)
              go_quiet (fail)
              have HB1 := Aside0.mk (pw_below_drewN HB.out nq)
              have HX1 := Aside0.mk (blk_drewN HX.out nq)
              have HY1 := Aside0.mk (blk_drewN HY.out nq)
              have HP1 := Aside0.mk (Kd.C_drewN HP.out nq)
              have HM1 := Aside0.mk (Kd.C_drewN HM.out nq)
              clear HB HX HY HP HM p0 p1 x0 x1 x2 y0 y1 y2
              go_wp2_with (fail)
            ·
              go_roundg (G - 1)
              case measure => have := HN.out; omega
              case rel => exact ⟨i + 1, by go_num, ⟨by have := HN.out; omega⟩, by rw [b3_]; exact HL1, HB1, HX1, HY1, HP1, HM1⟩
            ·
              go_ret
              exact ⟨by rw [HL1.out]; rfl, HB1.out⟩
          have hi' : ¬ (i : Int) < (M.length : Int) := by omega
          have h := HL.out
          rw [List.drop_eq_nil_of_le (by omega), List.any_nil, Bool.and_false, cond_false, HR.out] at h
          have HH := Aside0.mk h
          clear h HL HR
          go_wp2_with (fail)
          go_ret
          exact ⟨by rw [HH.out]; rfl, HB.out⟩
    have HHt := Aside0.mk (show r = (bif (y.f0 == 3 && (P.any fun p => sameI p.f0 y.f1)) then 5 else (bif (x.f0 == 3 && (M.any fun p => sameI p.f0 x.f1)) then 5 else 0)) by rw [HH.out]; simp only [b1s, b5, b3, b4, Bool.false_and, Bool.true_and, Bool.and_false, Bool.and_true, Bool.false_or, Bool.true_or, Bool.or_false, Bool.or_true, cond_true, cond_false])
    clear HH
    have HH := HHt
    clear HHt
    go_upto_region 18 with (fail)
    clear b3
    clear b4
    clear b5
    obtain ⟨R, HR, HL⟩ : ∃ R, Aside0 (R = (bif (x.f0 == 3 && (M.any fun p => sameI p.f0 x.f1)) then 5 else 0)) ∧ Aside0 (r = bif ((y.f0 == 3) && P.any (fun p => sameI p.f0 y.f1)) then 5 else R) := ⟨_, ⟨rfl⟩, ⟨by rw [HH.out]⟩⟩
    clear HH x0 x1 x2 y0 y1 y2
    go_wp2_with (fail)
    go_loopg [10] P.length (fun gg v10 wr => ∃ i : Nat, v10 = .int .i64 i ∧ Aside0 (i + gg = P.length) ∧ Aside0 (r = bif ((y.f0 == 3) && (P.drop i).any (fun p => sameI p.f0 y.f1)) then 5 else R) ∧ Aside0 (Below w.heap.size w wr) ∧ Aside0 (wr.heap[w.heap.size]? = some (.cells (opCs x A c B d) 27 (0, 0))) ∧ Aside0 (wr.heap[w.heap.size + 1]? = some (.cells (opCs y A2 c2 B2 d2) 27 (0, 0))) ∧ Aside0 (Kd.C k38 wr Ap P.length P) ∧ Aside0 (Kd.C k38 wr Am M.length M))
    case atStart => exact ⟨0, rfl, ⟨by omega⟩, HL, HB, HX, HY, HP, HM⟩
    case round =>
      clear HL HB HX HY HP HM
      obtain ⟨i, rfl, HN, HL, HB, HX, HY, HP, HM⟩ := hrel
      obtain ⟨G, rfl⟩ : ∃ G, G = gk := ⟨_, rfl⟩
      obtain ⟨x0, x1, x2, -⟩ := op_cells HX.out
      obtain ⟨y0, y1, y2, -⟩ := op_cells HY.out
      by_cases hi : i < P.length
      case pos =>
        have hi' : (i : Int) < (P.length : Int) := by omega
        have r1 : (0 ≤ (i : Int)) = True := eq_true (by omega)
        have r2 : ((i : Int) < (P.length : Int)) = True := eq_true hi'
        have hi9 : (i : Int) + 1 ≤ 9223372036854775807 := by omega
        have h := HL.out
        rw [List.drop_eq_getElem_cons hi, List.any_cons] at h
        have er : rd_T38 P (i : Int) = P[i] := by simp [rd_T38, hi]
        obtain ⟨ad, e1, p0, p1, -⟩ := at_T38 HP.out (i : Int) (by omega) hi'
        rw [er] at p0 p1
        generalize P[i] = p at *
        rw [Int.toNat_natCast] at p0 p1
        subst e1
        rw [show sameI p.f0 y.f1 = (p.f0.f0.toList == y.f1.f0.toList && (p.f0.f1 == y.f1.f1)) from rfl] at h
        have HL1 := Aside0.mk h
        clear h er HL
        cases g3_ : (y.f0 == 3)
        case false =>
          rw [g3_] at HL1
          go_upto_region 21 with (fail)
          go_quiet (fail)
          have HB1 := Aside0.mk (pw_below_drewN HB.out nq)
          have HX1 := Aside0.mk (blk_drewN HX.out nq)
          have HY1 := Aside0.mk (blk_drewN HY.out nq)
          have HP1 := Aside0.mk (Kd.C_drewN HP.out nq)
          have HM1 := Aside0.mk (Kd.C_drewN HM.out nq)
          clear HB HX HY HP HM p0 p1 x0 x1 x2 y0 y1 y2
          go_wp2_with (fail)
          go_roundg (G - 1)
          case measure => have := HN.out; omega
          case rel => exact ⟨i + 1, by go_num, ⟨by have := HN.out; omega⟩, by rw [g3_]; exact HL1, HB1, HX1, HY1, HP1, HM1⟩
        cases hq : (p.f0.f0.toList == y.f1.f0.toList && (p.f0.f1 == y.f1.f1))
        all_goals
          rw [g3_, hq] at HL1
          go_upto_region 21 with (fail)
          go_quiet (fail)
          have HB1 := Aside0.mk (pw_below_drewN HB.out nq)
          have HX1 := Aside0.mk (blk_drewN HX.out nq)
          have HY1 := Aside0.mk (blk_drewN HY.out nq)
          have HP1 := Aside0.mk (Kd.C_drewN HP.out nq)
          have HM1 := Aside0.mk (Kd.C_drewN HM.out nq)
          clear HB HX HY HP HM p0 p1 x0 x1 x2 y0 y1 y2
          go_wp2_with (fail)
        ·
          go_roundg (G - 1)
          case measure => have := HN.out; omega
          case rel => exact ⟨i + 1, by go_num, ⟨by have := HN.out; omega⟩, by rw [g3_]; exact HL1, HB1, HX1, HY1, HP1, HM1⟩
        ·
          go_ret
          exact ⟨by rw [HL1.out]; rfl, HB1.out⟩
      have hi' : ¬ (i : Int) < (P.length : Int) := by omega
      have h := HL.out
      rw [List.drop_eq_nil_of_le (by omega), List.any_nil, Bool.and_false, cond_false, HR.out] at h
      have HH := Aside0.mk h
      clear h HL HR
      obtain ⟨R, HR, HL⟩ : ∃ R, Aside0 (R = (0 : Int)) ∧ Aside0 (r = bif ((x.f0 == 3) && M.any (fun p => sameI p.f0 x.f1)) then 5 else R) := ⟨_, ⟨rfl⟩, ⟨by rw [HH.out]⟩⟩
      clear HH x0 x1 x2 y0 y1 y2
      go_wp2_with (fail)
      go_loopg [11] M.length (fun gg v11 wr => ∃ i : Nat, v11 = .int .i64 i ∧ Aside0 (i + gg = M.length) ∧ Aside0 (r = bif ((x.f0 == 3) && (M.drop i).any (fun p => sameI p.f0 x.f1)) then 5 else R) ∧ Aside0 (Below w.heap.size w wr) ∧ Aside0 (wr.heap[w.heap.size]? = some (.cells (opCs x A c B d) 27 (0, 0))) ∧ Aside0 (wr.heap[w.heap.size + 1]? = some (.cells (opCs y A2 c2 B2 d2) 27 (0, 0))) ∧ Aside0 (Kd.C k38 wr Ap P.length P) ∧ Aside0 (Kd.C k38 wr Am M.length M))
      case atStart => exact ⟨0, rfl, ⟨by omega⟩, HL, HB, HX, HY, HP, HM⟩
      case round =>
        clear HL HB HX HY HP HM
        obtain ⟨i, rfl, HN, HL, HB, HX, HY, HP, HM⟩ := hrel
        obtain ⟨G, rfl⟩ : ∃ G, G = gk := ⟨_, rfl⟩
        obtain ⟨x0, x1, x2, -⟩ := op_cells HX.out
        obtain ⟨y0, y1, y2, -⟩ := op_cells HY.out
        by_cases hi : i < M.length
        case pos =>
          have hi' : (i : Int) < (M.length : Int) := by omega
          have r1 : (0 ≤ (i : Int)) = True := eq_true (by omega)
          have r2 : ((i : Int) < (M.length : Int)) = True := eq_true hi'
          have hi9 : (i : Int) + 1 ≤ 9223372036854775807 := by omega
          have h := HL.out
          rw [List.drop_eq_getElem_cons hi, List.any_cons] at h
          have er : rd_T38 M (i : Int) = M[i] := by simp [rd_T38, hi]
          obtain ⟨ad, e1, p0, p1, -⟩ := at_T38 HM.out (i : Int) (by omega) hi'
          rw [er] at p0 p1
          generalize M[i] = p at *
          rw [Int.toNat_natCast] at p0 p1
          subst e1
          rw [show sameI p.f0 x.f1 = (p.f0.f0.toList == x.f1.f0.toList && (p.f0.f1 == x.f1.f1)) from rfl] at h
          have HL1 := Aside0.mk h
          clear h er HL
          cases b3_ : (x.f0 == 3)
          case false =>
            rw [b3_] at HL1
            go_upto_region 26 with (fail)
            go_quiet (fail)
            have HB1 := Aside0.mk (pw_below_drewN HB.out nq)
            have HX1 := Aside0.mk (blk_drewN HX.out nq)
            have HY1 := Aside0.mk (blk_drewN HY.out nq)
            have HP1 := Aside0.mk (Kd.C_drewN HP.out nq)
            have HM1 := Aside0.mk (Kd.C_drewN HM.out nq)
            clear HB HX HY HP HM p0 p1 x0 x1 x2 y0 y1 y2
            go_wp2_with (fail)
            go_roundg (G - 1)
            case measure => have := HN.out; omega
            case rel => exact ⟨i + 1, by go_num, ⟨by have := HN.out; omega⟩, by rw [b3_]; exact HL1, HB1, HX1, HY1, HP1, HM1⟩
          cases hq : (p.f0.f0.toList == x.f1.f0.toList && (p.f0.f1 == x.f1.f1))
          all_goals
            rw [b3_, hq] at HL1
            go_upto_region 26 with (fail)
            go_quiet (fail)
            have HB1 := Aside0.mk (pw_below_drewN HB.out nq)
            have HX1 := Aside0.mk (blk_drewN HX.out nq)
            have HY1 := Aside0.mk (blk_drewN HY.out nq)
            have HP1 := Aside0.mk (Kd.C_drewN HP.out nq)
            have HM1 := Aside0.mk (Kd.C_drewN HM.out nq)
            clear HB HX HY HP HM p0 p1 x0 x1 x2 y0 y1 y2
            go_wp2_with (fail)
          ·
            go_roundg (G - 1)
            case measure => have := HN.out; omega
            case rel => exact ⟨i + 1, by go_num, ⟨by have := HN.out; omega⟩, by rw [b3_]; exact HL1, HB1, HX1, HY1, HP1, HM1⟩
          ·
            go_ret
            exact ⟨by rw [HL1.out]; rfl, HB1.out⟩
        have hi' : ¬ (i : Int) < (M.length : Int) := by omega
        have h := HL.out
        rw [List.drop_eq_nil_of_le (by omega), List.any_nil, Bool.and_false, cond_false, HR.out] at h
        have HH := Aside0.mk h
        clear h HL HR
        go_wp2_with (fail)
        go_ret
        exact ⟨by rw [HH.out]; rfl, HB.out⟩
theorem r15_Ops.calls (x : TOp) (A : Option Addr) (c : Nat) (B : Option Addr) (d : Nat) (y : TOp) (A2 : Option Addr) (c2 : Nat) (B2 : Option Addr) (d2 : Nat) (w : World) (hx : OpAt w x A c B d) (hy : OpAt w y A2 c2 B2 d2) :
    Calls Tryd.prog 11 #[opV x A c B d, opV y A2 c2 B2 d2] w fun e w' => e = .returned (.int .i64 (opsR x y)) ∧ Below w.heap.size w w' := by
  have H : ∀ (z a b : Int), a ≠ b → (z == a) = true → (z == b) = false := fun z a b h e => by rw [eq_of_beq e]; exact beq_eq_false_iff_ne.2 h
  cases b1 : (x.f1.f0.toList == y.f1.f0.toList && x.f1.f1 == y.f1.f1)
  case false => exact r15_Ops.part0 x A c B d y A2 c2 B2 d2 w hx hy b1
  cases b5 : x.f0 == 5
  case true =>
    cases g5 : y.f0 == 5
    case true => exact r15_Ops.part1 x A c B d y A2 c2 B2 d2 w hx hy b1 b5 g5 (H _ 5 3 (by decide) b5) (H _ 5 4 (by decide) b5) (H _ 5 3 (by decide) g5) (H _ 5 4 (by decide) g5)
    exact r15_Ops.part2 x A c B d y A2 c2 B2 d2 w hx hy b1 b5 g5 (H _ 5 3 (by decide) b5) (H _ 5 4 (by decide) b5)
  cases b3 : x.f0 == 3
  case true => exact r15_Ops.part3 x A c B d y A2 c2 B2 d2 w hx hy b1 b5 b3 (H _ 3 4 (by decide) b3)
  exact r15_Ops.part4 x A c B d y A2 c2 B2 d2 w hx hy b1 b5 b3
end Go.Proofs.YtmimejckcknjfaaDoor.G
