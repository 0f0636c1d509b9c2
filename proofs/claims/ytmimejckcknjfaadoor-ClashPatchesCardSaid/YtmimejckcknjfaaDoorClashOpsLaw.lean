/- ClashOps: the walk of the law. Printed by wip/tools/gen_clashlaw.py. -/
import Derived.Test.YtmimejckcknjfaaDoorClashAwake
import Derived.Deep.RegionHeld3
set_option linter.unusedVariables false
set_option linter.unusedSimpArgs false
namespace Go.Proofs.YtmimejckcknjfaaDoor.G
open Go.RowKit Go.Proofs.YtmimejckcknjfaaDoorW.PrintWords Go.Proofs.YtmimejckcknjfaaDoorW.PrintLast Go.Proofs.YtmimejckcknjfaaDoorW.PrintMore Go.Proofs.YtmimejckcknjfaaDoor.Plain

theorem plC_len (x : TOp) : (plC x).length = (plR x).length := by unfold plC; rw [List.length_map]
set_option maxHeartbeats 8000000 in
set_option maxRecDepth 100000 in
attribute [local go_sem high] eqA35 in
theorem clashOps_law (x : TOp) (A : Option Addr) (c : Nat) (B : Option Addr) (d : Nat) (y : TOp) (A2 : Option Addr) (c2 : Nat) (B2 : Option Addr) (d2 : Nat) (w : World) (hx : OpAt w x A c B d) (hy : OpAt w y A2 c2 B2 d2) (sx : OpSized x) (sy : OpSized y) (hG : Gl w) :
    Calls Tryd.prog 3 #[opV x A c B d, opV y A2 c2 B2 d2] w fun e w' => e = .returned (.bool true) ∧ Below w.heap.size w w' := by
  have HX0 := Aside0.mk hx
  have HY0 := Aside0.mk hy
  have SX := Aside0.mk sx
  have SY := Aside0.mk sy
  have HG := Aside0.mk hG
  clear hx hy sx sy hG
  go_enter Tryd.func3, Tryd.ntmps3
  go_upto_region 1 with (fail)
  obtain ⟨W, hW⟩ : ∃ W, W = (w.alloc (.cells (opCs x A c B d) 27)).alloc (.cells (opCs y A2 c2 B2 d2) 27) := ⟨_, rfl⟩
  have HX : Aside0 (W.heap[w.heap.size]? = some (.cells (opCs x A c B d) 27 (0, 0))) := ⟨by rw [hW]; exact blk_alloc (heap_alloc_new w _) _⟩
  have HY : Aside0 (W.heap[w.heap.size + 1]? = some (.cells (opCs y A2 c2 B2 d2) 27 (0, 0))) := ⟨by rw [hW]; simpa using heap_alloc_new (w.alloc (.cells (opCs x A c B d) 27)) (.cells (opCs y A2 c2 B2 d2) 27)⟩
  have HB : Aside0 (Below w.heap.size w W) := ⟨by rw [hW]; exact below_alloc (below_alloc (Below.refl _ _) _) _⟩
  rw [← hW]
  clear hW
  have HC2 : Aside0 (Kd.C k27 (W.alloc (.cells ((opCs x A c B d).toList ++ (opCs y A2 c2 B2 d2).toList).toArray 27)) (some ⟨W.heap.size, 0, none⟩) [x, y].length [x, y]) :=
    ⟨C_two (t := 27) (heap_alloc_new W _) (op_K (HX0.out.below (below_alloc HB.out _))) (op_K (HY0.out.below (below_alloc HB.out _)))⟩
  go_wp2_with (first | refine op_load 2 _ HX.out rfl rfl rfl ?_ | refine op_load 3 _ HY.out rfl rfl rfl ?_ | fail)
  refine (law15_may.calls (some ⟨W.heap.size, 0, none⟩) 2 [x, y] _ HC2.out (fun z hz => by rcases List.mem_cons.1 hz with rfl | hz; exact SX.out; rw [List.mem_singleton.1 hz]; exact SY.out) (HG.out.below (below_alloc HB.out _))).mono ?_
  rintro e_ w1 ⟨⟨⟨r, rfl, hq⟩⟩, hb⟩
  have HB1 := Aside0.mk (below_then (below_alloc HB.out _) (below_alloc HB.out _).size hb)
  have HX1 := Aside0.mk (blk_below (blk_alloc HX.out _) hb)
  have HY1 := Aside0.mk (blk_below (blk_alloc HY.out _) hb)
  clear hb HC2 HX HY HB
  cases r
  · clear hq
    go_wp2_with (fail)
    refine (law15_awake.calls _).mono ?_
    rintro e_ w2 ⟨rfl, hb⟩
    have HB := Aside0.mk (below_then HB1.out HB1.out.size hb)
    clear hb
    go_wp2_with (fail)
    go_ret
    exact ⟨rfl, HB.out⟩
  have hml := hq rfl
  have HM1 := Aside0.mk (hml.may x List.mem_cons_self)
  have HM2 := Aside0.mk (hml.may y (List.mem_cons_of_mem _ List.mem_cons_self))
  obtain ⟨k1, h1⟩ := opIs_ev HM1.out SX.out (hml.dels x List.mem_cons_self)
  obtain ⟨k2, h2⟩ := opIs_ev HM2.out SY.out (hml.dels y (List.mem_cons_of_mem _ List.mem_cons_self))
  obtain ⟨k, hk⟩ : ∃ k, k = k1 + k2 := ⟨_, rfl⟩
  have IX := Aside0.mk (h1 k (by omega))
  have IY := Aside0.mk (h2 k (by omega))
  have HPl := Aside0.mk (fun W => clash_Places.calls k x A c B d (plC x) W IX.out.pl)
  have HO1 : Aside0 (∀ W : World, OpAt W x A c B d → OpAt W y A2 c2 B2 d2 → Calls Tryd.prog 10 #[opV x A c B d, opV y A2 c2 B2 d2] W fun e w' => e = .returned (.int .i64 (opsR x y)) ∧ Below W.heap.size W w') := ⟨fun W q1 q2 => aw_ops (ops_same HM1.out HM2.out) IX.out IY.out q1 q2⟩
  have HO2 : Aside0 (∀ W : World, OpAt W y A2 c2 B2 d2 → OpAt W x A c B d → Calls Tryd.prog 10 #[opV y A2 c2 B2 d2, opV x A c B d] W fun e w' => e = .returned (.int .i64 (opsR x y)) ∧ Below W.heap.size W w') := ⟨fun W q1 q2 => aw_ops ((ops_same HM2.out HM1.out).trans (ops_comm y x)) IY.out IX.out q1 q2⟩
  have HTX : Aside0 (∀ p ∈ plR x, ∃ k, rafterref11_Text.f k p.f0.f0 p.f0.f1 = some (textI p.f0)) := ⟨fun p hp => by
    have hz : p.f0.f0.size ≤ 9000000000000000000 := by
      unfold plR at hp
      by_cases h4 : x.f0 = 4
      · rw [if_pos h4] at hp
        rcases List.mem_cons.1 hp with rfl | hp
        · exact SX.out.s2
        · rw [List.mem_singleton.1 hp]
          exact SX.out.s3
      · rw [if_neg h4] at hp
        by_cases h5 : 1 ≤ x.f0 ∧ x.f0 ≤ 4
        · rw [if_pos h5] at hp
          rw [List.mem_singleton.1 hp]
          exact SX.out.s2
        · rw [if_neg h5] at hp
          cases hp
    obtain ⟨k, hk⟩ := refText_ev p.f0 hz (plR_right HM1.out p hp)
    exact ⟨k, hk k (Nat.le_refl k)⟩⟩
  clear hq hml h1 h2 hk HM1 HM2
  have HX := HX1
  have HY := HY1
  have HB := HB1
  clear HX1 HY1 HB1
  go_upto_region 3 with (fail)
  obtain ⟨x0, x1, x2, x3, x4, x5, x6, x7, x8, x9, x10, x11, x12, x13, x14, x15⟩ := op_cells HX.out
  go_region_held3 (fun w' => w'.cell? ⟨w.heap.size, 0, none⟩ = some (.int .i64 x.f0) ∧ w'.cell? ⟨w.heap.size, 1, none⟩ = some (.string x.f1.f0) ∧ w'.cell? ⟨w.heap.size, 2, none⟩ = some (.int .i64 x.f1.f1) ∧ w'.cell? ⟨w.heap.size, 3, none⟩ = some (.string x.f2.f0) ∧ w'.cell? ⟨w.heap.size, 4, none⟩ = some (.int .i64 x.f2.f1) ∧ w'.cell? ⟨w.heap.size, 5, none⟩ = some (.string x.f3.f0) ∧ w'.cell? ⟨w.heap.size, 6, none⟩ = some (.int .i64 x.f3.f1) ∧ w'.cell? ⟨w.heap.size, 7, none⟩ = some (.string x.f4) ∧ w'.cell? ⟨w.heap.size, 8, none⟩ = some (.string x.f5) ∧ w'.cell? ⟨w.heap.size, 9, none⟩ = some (.string x.f6.f0) ∧ w'.cell? ⟨w.heap.size, 10, none⟩ = some (.int .i64 x.f6.f1) ∧ w'.cell? ⟨w.heap.size, 11, none⟩ = some (.string x.f7.f0) ∧ w'.cell? ⟨w.heap.size, 12, none⟩ = some (.int .i64 x.f7.f1) ∧ w'.cell? ⟨w.heap.size, 13, none⟩ = some (.slice A x.f8.length c) ∧ w'.cell? ⟨w.heap.size, 14, none⟩ = some (.int .i64 x.f9) ∧ w'.cell? ⟨w.heap.size, 15, none⟩ = some (.slice B x.f10.length d)) (first | exact ⟨x0, x1, x2, x3, x4, x5, x6, x7, x8, x9, x10, x11, x12, x13, x14, x15⟩ | go_keep) (first | (have z_ := HPa; clear z_; go_at_call 8; refine (r15_Places.calls x A c B d _).mono ?_; rintro e_ w3 ⟨v, rfl, hR, hb⟩; obtain ⟨Ar, cr, rfl⟩ := Kd.R_slice hR; have HR := Aside0.mk (Kd.R_reads' hR).2.2; have HP := Aside0.mk (Kd.C_below HPa.out hb); have HXb := Aside0.mk (blk_below HXa.out hb); have HYb := Aside0.mk (blk_below HYa.out hb); have HBb := Aside0.mk (below_then HBa.out HBa.out.size hb); clear x0 x1 x2 x3 x4 x5 x6 x7 x8 x9 x10 x11 x12 x13 x14 x15; obtain ⟨x0, x1, x2, x3, x4, x5, x6, x7, x8, x9, x10, x11, x12, x13, x14, x15⟩ := op_cells HXb.out; clear hb hR HXa HYa HBa HPa) | (have z_ := HX; clear z_; go_at_call 7; refine (HPl.out _).mono ?_; rintro e_ w2 ⟨v, rfl, hR, hb⟩; obtain ⟨Ap, cp, rfl⟩ := Kd.R_slice hR; rw [plC_len x]; have HPa : Aside0 (Kd.C k35 w2 Ap (plR x).length (plC x)) := ⟨by rw [← plC_len x]; exact (Kd.R_reads' hR).2.2⟩; have HXa := Aside0.mk (blk_below (blk_drew HX.out) hb); have HYa := Aside0.mk (blk_below (blk_drew HY.out) hb); have HBa := Aside0.mk (below_then (below_drew HB.out) (below_drew HB.out).size hb); clear x0 x1 x2 x3 x4 x5 x6 x7 x8 x9 x10 x11 x12 x13 x14 x15; obtain ⟨x0, x1, x2, x3, x4, x5, x6, x7, x8, x9, x10, x11, x12, x13, x14, x15⟩ := op_cells HXa.out; clear hb hR HX HY HB) | fail)
  have HX := HXb
  have HY := HYb
  have HB := HBb
  clear HXb HYb HBb x0 x1 x2 x3 x4 x5 x6 x7 x8 x9 x10 x11 x12 x13 x14 x15 HPl
  have hmR := Kd.C_max HR.out
  go_wp2_with (fail)
  go_loopg [7] (plR x).length (fun gg v7 wr => ∃ i : Nat, v7 = .int .i64 i ∧ Aside0 (i + gg = (plR x).length) ∧ Aside0 (Below w.heap.size w wr) ∧ Aside0 (wr.heap[w.heap.size]? = some (.cells (opCs x A c B d) 27 (0, 0))) ∧ Aside0 (wr.heap[w.heap.size + 1]? = some (.cells (opCs y A2 c2 B2 d2) 27 (0, 0))) ∧ Aside0 (Kd.C k35 wr Ap (plR x).length (plC x)) ∧ Aside0 (Kd.C k38 wr Ar (plR x).length (plR x)))
  case atStart => exact ⟨0, rfl, ⟨by omega⟩, HB, HX, HY, HP, HR⟩
  case round =>
    clear HB HX HY HP HR
    obtain ⟨i, rfl, HN, HB, HX, HY, HP, HR⟩ := hrel
    obtain ⟨V, rfl⟩ : ∃ V, V = wr := ⟨_, rfl⟩
    obtain ⟨G, rfl⟩ : ∃ G, G = gk := ⟨_, rfl⟩
    by_cases hi : i < (plR x).length
    case pos =>
      have hi' : (i : Int) < ((plR x).length : Int) := by omega
      have r1 : (0 ≤ (i : Int)) = True := eq_true (by omega)
      have r2 : ((i : Int) < ((plR x).length : Int)) = True := eq_true hi'
      have hi9 : (i : Int) + 1 ≤ 9223372036854775807 := by omega
      obtain ⟨kt, ht⟩ := HTX.out _ (List.getElem_mem hi)
      obtain ⟨ad, e1, p0, p1⟩ := at_T35 HP.out (i : Int) (by omega) hi'
      obtain ⟨bd, e2, q0, q1, q2⟩ := at_T38 HR.out (i : Int) (by omega) hi'
      have er : rd_T38 (plR x) (i : Int) = (plR x)[i] := by simp [rd_T38, hi]
      have ec : rd_T35 (plC x) (i : Int) = mapP (plR x)[i] := by simp [rd_T35, plC, hi]
      rw [er] at q0 q1 q2
      rw [ec] at p0 p1
      generalize (plR x)[i] = p at *
      rw [Int.toNat_natCast] at p0 p1 q0 q1 q2
      have p0' : V.cell? (ad.add (i * 2)) = some (.string (textI p.f0)) := p0
      have p1' : V.cell? ⟨(ad.add (i * 2)).block, (ad.add (i * 2)).off + 1, none⟩ = some (.string p.f1) := p1
      clear p0 p1
      subst e1
      subst e2
      have HT := Aside0.mk (fun W => rafterref11_Text.calls kt p.f0.f0 p.f0.f1 (textI p.f0) W ht)
      have HQ : Aside0 (V.drew.cell? (ad.add (i * 2)) = some (.string (textI p.f0)) ∧ V.drew.cell? ⟨(ad.add (i * 2)).block, (ad.add (i * 2)).off + 1, none⟩ = some (.string p.f1) ∧ V.drew.cell? (bd.add (i * 3)) = some (.string p.f0.f0) ∧ V.drew.cell? ⟨(bd.add (i * 3)).block, (bd.add (i * 3)).off + 1, none⟩ = some (.int .i64 p.f0.f1) ∧ V.drew.cell? ⟨(bd.add (i * 3)).block, (bd.add (i * 3)).off + 2, none⟩ = some (.string p.f1)) := ⟨p0', p1', q0, q1, q2⟩
      clear ht er ec
      go_upto_region 7 with (fail)
      go_region_held3 (fun w' => w'.cell? (ad.add (i * 2)) = some (.string (textI p.f0)) ∧ w'.cell? ⟨(ad.add (i * 2)).block, (ad.add (i * 2)).off + 1, none⟩ = some (.string p.f1) ∧ w'.cell? (bd.add (i * 3)) = some (.string p.f0.f0) ∧ w'.cell? ⟨(bd.add (i * 3)).block, (bd.add (i * 3)).off + 1, none⟩ = some (.int .i64 p.f0.f1) ∧ w'.cell? ⟨(bd.add (i * 3)).block, (bd.add (i * 3)).off + 2, none⟩ = some (.string p.f1)) (first | exact ⟨p0', p1', q0, q1, q2⟩ | go_keep) (first | (go_at_call 9; refine (HT.out _).mono ?_; rintro e_ w4 ⟨rfl, hb⟩; have HB1 := Aside0.mk (below_then (below_drew HB.out) (below_drew HB.out).size hb); have HX1 := Aside0.mk (blk_below (blk_drew HX.out) hb); have HY1 := Aside0.mk (blk_below (blk_drew HY.out) hb); have HP1 := Aside0.mk (Kd.C_below (Kd.C_drew HP.out) hb); have HR1 := Aside0.mk (Kd.C_below (Kd.C_drew HR.out) hb); clear p0' p1' q0 q1 q2; have ce : ∀ {a : Addr} {v : Value}, V.drew.cell? a = some v → w4.cell? a = some v := fun q => (hb.cell (World.block_lt_of_cell? _ _ q)).trans q; have p0' := ce HQ.out.1; have p1' := ce HQ.out.2.1; have q0 := ce HQ.out.2.2.1; have q1 := ce HQ.out.2.2.2.1; have q2 := ce HQ.out.2.2.2.2; clear hb ce) | fail)
      clear HB HX HY HP HR HQ p0' p1' q0 q1 q2
      go_wp2_with (fail)
      go_roundg (G - 1)
      case measure => have := HN.out; omega
      case rel => exact ⟨i + 1, by go_num, ⟨by have := HN.out; omega⟩, HB1, HX1, HY1, HP1, HR1⟩
    have hi' : ¬ (i : Int) < ((plR x).length : Int) := by omega
    go_wp2_with (first | refine op_load 2 _ HX.out rfl rfl rfl ?_ | refine op_load 3 _ HY.out rfl rfl rfl ?_ | fail)
    refine (HO1.out _ (HX0.out.below HB.out) (HY0.out.below HB.out)).mono ?_
    rintro e_ w2 ⟨rfl, hb⟩
    have HB1 := Aside0.mk (below_then HB.out HB.out.size hb)
    have HX1 := Aside0.mk (blk_below HX.out hb)
    have HY1 := Aside0.mk (blk_below HY.out hb)
    clear hb HB HX HY HP HR
    go_wp2_with (fail)
    refine (law15_awake.calls _).mono ?_
    rintro e_ w3 ⟨rfl, hb⟩
    have HB := Aside0.mk (below_then HB1.out HB1.out.size hb)
    have HX := Aside0.mk (blk_below HX1.out hb)
    have HY := Aside0.mk (blk_below HY1.out hb)
    clear hb HB1 HX1 HY1
    go_wp2_with (first | refine op_load 2 _ HX.out rfl rfl rfl ?_ | refine op_load 3 _ HY.out rfl rfl rfl ?_ | fail)
    refine (r15_Ops.calls x A c B d y A2 c2 B2 d2 _ (HX0.out.below HB.out) (HY0.out.below HB.out)).mono ?_
    rintro e_ w4 ⟨rfl, hb⟩
    have HB1 := Aside0.mk (below_then HB.out HB.out.size hb)
    have HX1 := Aside0.mk (blk_below HX.out hb)
    have HY1 := Aside0.mk (blk_below HY.out hb)
    clear hb HB HX HY
    go_wp2_with (first | refine op_load 2 _ HX1.out rfl rfl rfl ?_ | refine op_load 3 _ HY1.out rfl rfl rfl ?_ | fail)
    refine (HO2.out _ (HY0.out.below HB1.out) (HX0.out.below HB1.out)).mono ?_
    rintro e_ w5 ⟨rfl, hb⟩
    have HB := Aside0.mk (below_then HB1.out HB1.out.size hb)
    clear hb HB1 HX1 HY1
    go_wp2_with (fail)
    go_ret
    exact ⟨rfl, HB.out⟩
end Go.Proofs.YtmimejckcknjfaaDoor.G
