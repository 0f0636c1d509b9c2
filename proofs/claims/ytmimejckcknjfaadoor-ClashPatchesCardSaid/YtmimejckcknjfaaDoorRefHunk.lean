/- R12.hunk: it answers, whatever it is: the walk. Printed by wip/tools/gen_hunk.py. -/
import Derived.Test.YtmimejckcknjfaaDoorRefMade
import Derived.Test.YtmimejckcknjfaaDoorClashEx
set_option linter.unusedVariables false
set_option linter.unusedSimpArgs false
namespace Go.Proofs.YtmimejckcknjfaaDoor.G
open Go.RowKit Go.Proofs.YtmimejckcknjfaaDoorW.PrintWords Go.Proofs.YtmimejckcknjfaaDoorW.PrintLast Go.Proofs.YtmimejckcknjfaaDoorW.PrintMore Go.Proofs.YtmimejckcknjfaaDoor.Plain

/-- The sizes of an operation's parts. -/
structure OpSized (x : TOp) : Prop where
  s1 : x.f1.f0.size ≤ 9000000000000000000
  s2 : x.f2.f0.size ≤ 9000000000000000000
  s3 : x.f3.f0.size ≤ 9000000000000000000
  s4 : x.f4.size ≤ 9000000000000000000
  s5 : x.f5.size ≤ 9000000000000000000
  s6 : x.f6.f0.size ≤ 9000000000000000000
  s7 : x.f7.f0.size ≤ 9000000000000000000
  s8 : ∀ i ∈ x.f8, i.f0.size ≤ 9000000000000000000
  l8 : (x.f8.length + 2) * 24 ≤ 140737488355328
set_option maxHeartbeats 8000000 in
set_option maxRecDepth 100000 in
attribute [local go_sem high] eqA23 in
theorem r12_hunk.calls (x : TOp) (A : Option Addr) (c : Nat) (B : Option Addr) (d : Nat) (w : World) (hx : OpAt w x A c B d) (hs : OpSized x) (hG : Gl w) :
    Calls Tryd.prog 28 #[opV x A c B d] w fun e w' => (∃ r : Bool, e = .returned (.bool r)) ∧ Below w.heap.size w w' := by
  obtain ⟨kc, rc, hc⟩ := check_ex x.f10
  have hl8 := hs.l8
  have hu := Tryd.underlying23
  have HX0 := Aside0.mk hx
  have HS := Aside0.mk hs
  have HG := Aside0.mk hG
  have HL := Aside0.mk (show ([x.f6, x.f7].length + x.f8.length) * 24 ≤ 140737488355328 by simp only [List.length_cons, List.length_nil]; omega)
  have HC := Aside0.mk (fun W q g => rafterref03_Check.calls kc B d x.f10 rc W q hx.l10 hc g)
  have HO1 := Aside0.mk (fun W => r12_or.calls x.f6 1 W hs.s6)
  have HO2 := Aside0.mk (fun W => r12_or.calls x.f7 2 W hs.s7)
  have hall0 : ∀ i ∈ [x.f6, x.f7] ++ x.f8, i.f0.size ≤ 9000000000000000000 := by
    intro i hi
    rcases List.mem_append.1 hi with hi | hi
    · rcases List.mem_cons.1 hi with rfl | hi
      · exact hs.s6
      · rcases List.mem_cons.1 hi with rfl | hi
        · exact hs.s7
        · cases hi
    · exact hs.s8 i hi
  have HALL := Aside0.mk hall0
  clear hx hs hG hc hall0 hl8
  go_enter Tryd.func28, Tryd.ntmps28
  go_upto_region 1 with (fail)
  obtain ⟨W, hW⟩ : ∃ W, W = w.alloc (.cells (opCs x A c B d) 27) := ⟨_, rfl⟩
  have HX : Aside0 (W.heap[w.heap.size]? = some (.cells (opCs x A c B d) 27 (0, 0))) := ⟨by rw [hW]; exact heap_alloc_new w _⟩
  have HB : Aside0 (Below w.heap.size w W) := ⟨by rw [hW]; exact below_alloc (Below.refl _ _) _⟩
  rw [← hW]
  clear hW
  have HI := Aside0.mk (R_ids2 (below_size HB.out) x.f6 x.f7)
  have HR8 := Aside0.mk (Kd.C_alloc (HX0.out.below HB.out).r8 (.cells #[.string x.f6.f0, .int .i64 x.f6.f1, .string x.f7.f0, .int .i64 x.f7.f1] 23))
  have HB1 := Aside0.mk (below_alloc HB.out (.cells #[.string x.f6.f0, .int .i64 x.f6.f1, .string x.f7.f0, .int .i64 x.f7.f1] 23))
  have HX1 := Aside0.mk (blk_alloc HX.out (.cells #[.string x.f6.f0, .int .i64 x.f6.f1, .string x.f7.f0, .int .i64 x.f7.f1] 23))
  have x9 := (blk_cell HX.out 9).trans rfl
  have x10 := (blk_cell HX.out 10).trans rfl
  have x11 := (blk_cell HX.out 11).trans rfl
  have x12 := (blk_cell HX.out 12).trans rfl
  have x13 := (blk_cell HX1.out 13).trans rfl
  go_wp2_with (first | ((with_reducible refine gate_builtin (b := .append) (xs := #[.tmp 10, .tmp 12]) rfl ?_); at_builtin; refine Kd.R_append_rows k23 (w0 := w) w.heap.size rfl (.tmp 10) (.tmp 12) 24 23 (.agg #[.string ⟨#[]⟩, .int .i64 0]) 24 rfl Tryd.underlying24 info23 rfl (by decide) (by omega) _ [x.f6, x.f7] x.f8 _ _ _ (fun _ => True) (fun _ => False) rfl rfl HI.out HR8.out (fun _ _ h => by obtain rfl := k23_open h; exact k23_mkM _ _ _ _) (fun _ h => h.elim) (fun _ _ => trivial) HB1.out (below_size HB1.out) HL.out ?_; intro v5 w5 ho hb hg hat; have HX2 := Aside0.mk (blk_grown HX1.out hg (Kd.R_ne HI.out HX1.out (by decide))); obtain ⟨Ar, cr, rfl⟩ := Kd.R_slice ho; have HR := Aside0.mk (Kd.R_reads' ho).2.2; have HB2 := Aside0.mk hb; clear ho hb hg hat x9 x10 x11 x12 x13 HX HB HI HR8 HB1 HX1 HL; generalize [x.f6, x.f7] ++ x.f8 = all at *) | fail)
  have hmA := Kd.C_max HR.out
  go_loopg [4] all.length (fun gg v4 wr => ∃ i : Nat, v4 = .int .i64 i ∧ Aside0 (i + gg = all.length) ∧ Aside0 (Below w.heap.size w wr) ∧ Aside0 (wr.heap[w.heap.size]? = some (.cells (opCs x A c B d) 27 (0, 0))) ∧ Aside0 (Kd.C k23 wr Ar all.length all))
  case atStart => exact ⟨0, rfl, ⟨by omega⟩, HB2, HX2, HR⟩
  case round =>
    clear HB2 HX2 HR
    obtain ⟨i, rfl, HN, HB, HX, HR⟩ := hrel
    obtain ⟨G, rfl⟩ : ∃ G, G = gk := ⟨_, rfl⟩
    by_cases hi : i < all.length
    case pos =>
      have hi' : (i : Int) < (all.length : Int) := by omega
      have r1 : (0 ≤ (i : Int)) = True := eq_true (by omega)
      have r2 : ((i : Int) < (all.length : Int)) = True := eq_true hi'
      have hi9 : (i : Int) + 1 ≤ 9223372036854775807 := by omega
      have HZ := Aside0.mk (HALL.out _ (List.getElem_mem hi))
      obtain ⟨p, hp⟩ : ∃ p, p = all[i] := ⟨_, rfl⟩
      have HE := Aside0.mk (show rd_T23 all (i : Int) = p by rw [hp]; simp [rd_T23, hi])
      rw [← hp] at HZ
      clear hp
      go_wp2_with (fail)
      go_loopg [5] i (fun gg v5 wr => ∃ j : Nat, v5 = .int .i64 j ∧ Aside0 (j + gg = i) ∧ Aside0 (Below w.heap.size w wr) ∧ Aside0 (wr.heap[w.heap.size]? = some (.cells (opCs x A c B d) 27 (0, 0))) ∧ Aside0 (Kd.C k23 wr Ar all.length all))
      case atStart => exact ⟨0, rfl, ⟨by omega⟩, HB, HX, HR⟩
      case round =>
        clear HB HX HR
        obtain ⟨j, rfl, HNj, HB, HX, HR⟩ := hrel
        obtain ⟨J, rfl⟩ : ∃ J, J = gk := ⟨_, rfl⟩
        by_cases hj : j < i
        case pos =>
          have hj' : (j : Int) < (i : Int) := by omega
          have hj2 : (j : Int) < (all.length : Int) := by omega
          have r3 : (0 ≤ (j : Int)) = True := eq_true (by omega)
          have r4 : ((j : Int) < (all.length : Int)) = True := eq_true hj2
          have r5 : ((j : Int) < (i : Int)) = True := eq_true hj'
          have hj9 : (j : Int) + 1 ≤ 9223372036854775807 := by omega
          obtain ⟨ad, e1, p0, p1⟩ := at_T23 HR.out (i : Int) (by omega) hi'
          obtain ⟨bd, e2, q0, q1⟩ := at_T23 HR.out (j : Int) (by omega) hj2
          rw [HE.out] at p0 p1
          generalize rd_T23 all (j : Int) = q at *
          rw [Int.toNat_natCast] at p0 p1 q0 q1
          subst e1
          cases e2
          cases hq : (q.f0.toList == p.f0.toList && q.f1 == p.f1)
          all_goals
            go_upto_region 8 with (fail)
            go_quiet (fail)
            have HB1 := Aside0.mk (pw_below_drewN HB.out nq)
            have HX1 := Aside0.mk (blk_drewN HX.out nq)
            have HR1 := Aside0.mk (Kd.C_drewN HR.out nq)
            clear HB HX HR p0 p1 q0 q1
            go_wp2_with (fail)
          ·
            go_roundg (J - 1)
            case measure => have := HNj.out; omega
            case rel => exact ⟨j + 1, by go_num, ⟨by have := HNj.out; omega⟩, HB1, HX1, HR1⟩
          ·
            go_ret
            exact ⟨⟨_, rfl⟩, HB1.out⟩
        have hj' : ¬ (j : Int) < (i : Int) := by omega
        obtain ⟨ad, e1, p0, p1⟩ := at_T23 HR.out (i : Int) (by omega) hi'
        rw [HE.out] at p0 p1
        rw [Int.toNat_natCast] at p0 p1
        subst e1
        by_cases h1 : 1 < i
        case neg =>
          have t1 : ((i : Int) > 1) = False := eq_false (by omega)
          have t2 : ((1 : Int) < (i : Int)) = False := eq_false (by omega)
          have t3 : (1 < i) = False := eq_false h1
          clear p0 p1 h1
          go_wp2_with (fail)
          go_roundg (G - 1)
          case measure => have := HN.out; omega
          case rel => exact ⟨i + 1, by go_num, ⟨by have := HN.out; omega⟩, HB, HX, HR⟩
        have t1 : ((i : Int) > 1) = True := eq_true (by omega)
        have t2 : ((1 : Int) < (i : Int)) = True := eq_true (by omega)
        have t3 : (1 < i) = True := eq_true h1
        clear h1
        go_wp2_with (fail)
        refine (r12_made.calls p _ HZ.out).mono ?_
        rintro e_ w1 ⟨rfl, hb⟩
        have HB1 := Aside0.mk (below_then HB.out HB.out.size hb)
        have HX1 := Aside0.mk (blk_below HX.out hb)
        have HR1 := Aside0.mk (Kd.C_below HR.out hb)
        clear hb HB HX HR p0 p1
        cases madeI p
        all_goals
          go_wp2_with (fail)
        ·
          go_ret
          exact ⟨⟨_, rfl⟩, HB1.out⟩
        ·
          go_roundg (G - 1)
          case measure => have := HN.out; omega
          case rel => exact ⟨i + 1, by go_num, ⟨by have := HN.out; omega⟩, HB1, HX1, HR1⟩
    have hi' : ¬ (i : Int) < (all.length : Int) := by omega
    clear HALL HN HR
    have x9 := (blk_cell HX.out 9).trans rfl
    have x10 := (blk_cell HX.out 10).trans rfl
    go_wp2_with (fail)
    refine (HO1.out _).mono ?_
    rintro e_ w1 ⟨rfl, hb⟩
    have HB1 := Aside0.mk (below_then HB.out HB.out.size hb)
    have HX1 := Aside0.mk (blk_below HX.out hb)
    clear hb HB HX
    have HB := HB1
    have HX := HX1
    clear HB1 HX1
    clear x9 x10
    cases orI x.f6 1
    case false =>
      go_wp2_with (fail)
      go_ret
      exact ⟨⟨_, rfl⟩, HB.out⟩
    have x11 := (blk_cell HX.out 11).trans rfl
    have x12 := (blk_cell HX.out 12).trans rfl
    go_wp2_with (fail)
    refine (HO2.out _).mono ?_
    rintro e_ w1 ⟨rfl, hb⟩
    have HB1 := Aside0.mk (below_then HB.out HB.out.size hb)
    have HX1 := Aside0.mk (blk_below HX.out hb)
    clear hb HB HX
    have HB := HB1
    have HX := HX1
    clear HB1 HX1
    clear x11 x12
    cases orI x.f7 2
    case false =>
      go_wp2_with (fail)
      go_ret
      exact ⟨⟨_, rfl⟩, HB.out⟩
    have x13 := (blk_cell HX.out 13).trans rfl
    have x14 := (blk_cell HX.out 14).trans rfl
    have x15 := (blk_cell HX.out 15).trans rfl
    by_cases g1 : (0 : Int) ≤ x.f9
    case neg =>
      have g1f0 : ((0 : Int) ≤ x.f9) = False := eq_false (by omega)
      have g1f1 : (x.f9 ≥ (0 : Int)) = False := eq_false (by omega)
      clear g1
      go_wp2_with (fail)
      go_ret
      exact ⟨⟨_, rfl⟩, HB.out⟩
    have g1t0 : ((0 : Int) ≤ x.f9) = True := eq_true (by omega)
    have g1t1 : (x.f9 ≥ (0 : Int)) = True := eq_true (by omega)
    clear g1
    by_cases g2 : x.f9 ≤ (1048576 : Int)
    case neg =>
      have g2f0 : (x.f9 ≤ (1048576 : Int)) = False := eq_false (by omega)
      clear g2
      go_wp2_with (fail)
      go_ret
      exact ⟨⟨_, rfl⟩, HB.out⟩
    have g2t0 : (x.f9 ≤ (1048576 : Int)) = True := eq_true (by omega)
    clear g2
    by_cases g3 : x.f8.length ≤ 2000
    case neg =>
      have g3f0 : (x.f8.length ≤ 2000) = False := eq_false (by omega)
      have g3f1 : ((x.f8.length : Int) ≤ (2000 : Int)) = False := eq_false (by omega)
      clear g3
      go_wp2_with (fail)
      go_ret
      exact ⟨⟨_, rfl⟩, HB.out⟩
    have g3t0 : (x.f8.length ≤ 2000) = True := eq_true (by omega)
    have g3t1 : ((x.f8.length : Int) ≤ (2000 : Int)) = True := eq_true (by omega)
    clear g3
    obtain ⟨z, hz⟩ : ∃ z, IntKind.i64.wrap ((x.f8.length : Int) + (x.f10.length : Int)) = z := ⟨_, rfl⟩
    by_cases g4 : (0 : Int) < z
    case neg =>
      have g4f0 : ((0 : Int) < z) = False := eq_false (by omega)
      have g4f1 : (z > (0 : Int)) = False := eq_false (by omega)
      clear g4
      go_wp2_with (fail)
      go_ret
      exact ⟨⟨_, rfl⟩, HB.out⟩
    have g4t0 : ((0 : Int) < z) = True := eq_true (by omega)
    have g4t1 : (z > (0 : Int)) = True := eq_true (by omega)
    clear g4
    go_wp2_with (fail)
    refine (HC.out _ (HX0.out.below HB.out).r10 (HG.out.below HB.out)).mono ?_
    rintro e_ w1 ⟨rfl, hb⟩
    have HB1 := Aside0.mk (below_then HB.out HB.out.size hb)
    have HX1 := Aside0.mk (blk_below HX.out hb)
    clear hb HB HX
    have HB := HB1
    have HX := HX1
    clear HB1 HX1
    clear x13 x14 x15
    go_wp2_with (fail)
    go_ret
    exact ⟨⟨_, rfl⟩, HB.out⟩
end Go.Proofs.YtmimejckcknjfaaDoor.G
