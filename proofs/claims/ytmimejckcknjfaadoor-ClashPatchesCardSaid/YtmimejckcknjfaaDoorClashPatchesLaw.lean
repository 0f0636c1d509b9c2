/- ClashPatches: the walk of the law. -/
import Derived.Test.YtmimejckcknjfaaDoorClashAwake
import Derived.Deep.RegionHeld3
set_option linter.unusedVariables false
set_option linter.unusedSimpArgs false
namespace Go.Proofs.YtmimejckcknjfaaDoor.G
open Go.RowKit Go.Proofs.YtmimejckcknjfaaDoorW.PrintWords Go.Proofs.YtmimejckcknjfaaDoorW.PrintLast Go.Proofs.YtmimejckcknjfaaDoorW.PrintMore Go.Proofs.YtmimejckcknjfaaDoor.Plain

theorem drop_cons {α : Type} {l : List α} {n : Nat} {a : α} {t : List α} (h : l.drop n = a :: t) : ∃ hn : n < l.length, l[n] = a ∧ l.drop (n + 1) = t := by
  have hn : n < l.length := by
    rcases Nat.lt_or_ge n l.length with q | q
    · exact q
    · rw [List.drop_eq_nil_of_le q] at h; cases h
  rw [List.drop_eq_getElem_cons hn] at h
  exact ⟨hn, List.cons.inj h⟩
set_option maxHeartbeats 8000000 in
set_option maxRecDepth 100000 in
attribute [local go_sem high] eqA45 in
theorem clashPatches_law (n1 n2 : ByteArray) (D1 : Option Addr) (dl1 dc1 : Nat) (A1 : Option Addr) (c1 : Nat) (l1 : List TOp) (D2 : Option Addr) (dl2 dc2 : Nat) (A2 : Option Addr) (c2 : Nat) (l2 : List TOp) (w : World)
    (h1 : Kd.C k27 w A1 l1.length l1) (h2 : Kd.C k27 w A2 l2.length l2) (s1 : ∀ x ∈ l1, OpSized x) (s2 : ∀ x ∈ l2, OpSized x) (hG : Gl w) :
    Calls Tryd.prog 4 #[patV n1 D1 dl1 dc1 A1 l1.length c1, patV n2 D2 dl2 dc2 A2 l2.length c2] w fun e w' => e = .returned (.bool true) ∧ Below w.heap.size w w' := by
  have hm1 := Kd.C_max h1
  have hm2 := Kd.C_max h2
  have H1 := Aside0.mk h1
  have H2 := Aside0.mk h2
  have S1 := Aside0.mk s1
  have S2 := Aside0.mk s2
  have HG := Aside0.mk hG
  clear h1 h2 s1 s2 hG
  go_enter Tryd.func4, Tryd.ntmps4
  go_upto_region 1 with (fail)
  obtain ⟨W, hW⟩ : ∃ W, W = (w.alloc (.cells (patCs n1 D1 dl1 dc1 A1 l1.length c1) 42)).alloc (.cells (patCs n2 D2 dl2 dc2 A2 l2.length c2) 42) := ⟨_, rfl⟩
  have HX : Aside0 (W.heap[w.heap.size]? = some (.cells (patCs n1 D1 dl1 dc1 A1 l1.length c1) 42 (0, 0))) := ⟨by rw [hW]; exact blk_alloc (heap_alloc_new w _) _⟩
  have HY : Aside0 (W.heap[w.heap.size + 1]? = some (.cells (patCs n2 D2 dl2 dc2 A2 l2.length c2) 42 (0, 0))) := ⟨by rw [hW]; simpa using heap_alloc_new (w.alloc (.cells (patCs n1 D1 dl1 dc1 A1 l1.length c1) 42)) (.cells (patCs n2 D2 dl2 dc2 A2 l2.length c2) 42)⟩
  have HB : Aside0 (Below w.heap.size w W) := ⟨by rw [hW]; exact below_alloc (below_alloc (Below.refl _ _) _) _⟩
  rw [← hW]
  clear hW
  obtain ⟨x0, x1, x2, -⟩ := cells3 HX.out
  obtain ⟨y0, y1, y2, -⟩ := cells3 HY.out
  go_wp2_with (fail)
  refine (law15_may.calls A1 c1 l1 _ (Kd.C_below H1.out HB.out) S1.out (HG.out.below HB.out)).mono ?_
  rintro e_ w1 ⟨⟨⟨r, rfl, hq⟩⟩, hb⟩
  have HX1 := Aside0.mk (blk_below HX.out hb)
  have HY1 := Aside0.mk (blk_below HY.out hb)
  have HB1 := Aside0.mk (below_then HB.out HB.out.size hb)
  clear hb HX HY HB x0 x1 x2 y0 y1 y2
  have HX := HX1
  clear HX1
  have HY := HY1
  clear HY1
  have HB := HB1
  clear HB1
  obtain ⟨x0, x1, x2, -⟩ := cells3 HX.out
  obtain ⟨y0, y1, y2, -⟩ := cells3 HY.out
  cases r
  · clear hq
    go_wp2_with (fail)
    refine (law15_awake.calls _).mono ?_
    rintro e_ w2 ⟨rfl, hb⟩
    have HBz := Aside0.mk (below_then HB.out HB.out.size hb)
    clear hb
    go_wp2_with (fail)
    go_ret
    exact ⟨rfl, HBz.out⟩
  have M1 := Aside0.mk (hq rfl)
  clear hq
  go_wp2_with (fail)
  refine (law15_may.calls A2 c2 l2 _ (Kd.C_below H2.out HB.out) S2.out (HG.out.below HB.out)).mono ?_
  rintro e_ w1 ⟨⟨⟨r, rfl, hq⟩⟩, hb⟩
  have HX1 := Aside0.mk (blk_below HX.out hb)
  have HY1 := Aside0.mk (blk_below HY.out hb)
  have HB1 := Aside0.mk (below_then HB.out HB.out.size hb)
  clear hb HX HY HB x0 x1 x2 y0 y1 y2
  have HX := HX1
  clear HX1
  have HY := HY1
  clear HY1
  have HB := HB1
  clear HB1
  obtain ⟨x0, x1, x2, -⟩ := cells3 HX.out
  obtain ⟨y0, y1, y2, -⟩ := cells3 HY.out
  cases r
  · clear hq
    go_wp2_with (fail)
    refine (law15_awake.calls _).mono ?_
    rintro e_ w2 ⟨rfl, hb⟩
    have HBz := Aside0.mk (below_then HB.out HB.out.size hb)
    clear hb
    go_wp2_with (fail)
    go_ret
    exact ⟨rfl, HBz.out⟩
  have M2 := Aside0.mk (hq rfl)
  clear hq
  obtain ⟨k1, o1⟩ := opIs_all l1 M1.out.may S1.out M1.out.dels
  obtain ⟨k2, o2⟩ := opIs_all l2 M2.out.may S2.out M2.out.dels
  obtain ⟨k, hk⟩ : ∃ k, k = k1 + k2 := ⟨_, rfl⟩
  have O1 := Aside0.mk (o1 k (by omega))
  have O2 := Aside0.mk (o2 k (by omega))
  have HS12 : l1.length * l2.length ≤ 1000000 := Nat.le_trans (Nat.mul_le_mul M1.out.len M2.out.len) (by decide)
  have HS21 : l2.length * l1.length ≤ 1000000 := Nat.le_trans (Nat.mul_le_mul M2.out.len M1.out.len) (by decide)
  have hsame : ∀ x ∈ l1, ∀ y ∈ l2, opsT txC plC x y = opsR x y := fun x hx y hy => ops_same (M1.out.may x hx) (M2.out.may y hy)
  have hsame2 : ∀ x ∈ l2, ∀ y ∈ l1, opsT txC plC x y = opsR x y := fun x hx y hy => ops_same (M2.out.may x hx) (M1.out.may y hy)
  have HPa := Aside0.mk (fun W q1 q2 => by have h := clash_Pairs.calls k txC plC n1 n2 D1 dl1 dc1 A1 c1 l1 D2 dl2 dc2 A2 c2 l2 W q1 q2 O1.out O2.out HS12; rw [pairsT_congr l2 l1 0 hsame] at h; exact h)
  have HP1 := Aside0.mk (fun W q1 q2 => by have h := clash_Patches.calls k txC plC n1 n2 D1 dl1 dc1 A1 c1 l1 D2 dl2 dc2 A2 c2 l2 W q1 q2 O1.out O2.out HS12; rw [patT_all, allF_congr l2 l1 hsame] at h; exact h)
  have HP2 := Aside0.mk (fun W q1 q2 => by have h := clash_Patches.calls k txC plC n2 n1 D2 dl2 dc2 A2 c2 l2 D1 dl1 dc1 A1 c1 l1 W q1 q2 O2.out O1.out HS21; rw [patT_all, allF_congr l1 l2 hsame2] at h; exact h)
  have HCM := Aside0.mk (all_comm l1 l2)
  clear o1 o2 hk HS12 HS21 hsame hsame2 O1 O2 M1 M2 S1 S2
  go_wp2_with (fail)
  refine (HPa.out _ (Kd.C_below H1.out HB.out) (Kd.C_below H2.out HB.out)).mono ?_
  rintro e_ w1 ⟨v, rfl, hR, hb⟩
  obtain ⟨Al, cl, rfl⟩ := Kd.R_slice hR
  have HC := Aside0.mk (Kd.R_reads' hR).2.2
  clear hR HPa
  have HX1 := Aside0.mk (blk_below HX.out hb)
  have HY1 := Aside0.mk (blk_below HY.out hb)
  have HB1 := Aside0.mk (below_then HB.out HB.out.size hb)
  clear hb HX HY HB x0 x1 x2 y0 y1 y2
  have HX := HX1
  clear HX1
  have HY := HY1
  clear HY1
  have HB := HB1
  clear HB1
  obtain ⟨x0, x1, x2, -⟩ := cells3 HX.out
  obtain ⟨y0, y1, y2, -⟩ := cells3 HY.out
  obtain ⟨ps, hps⟩ : ∃ ps, ps = pairsT opsR l2 l1 0 := ⟨_, rfl⟩
  rw [← hps] at HC ⊢
  have HF : Aside0 (ps.drop 0 = pairsT opsR l2 (l1.drop 0) 0) := ⟨hps⟩
  have hmP := Kd.C_max HC.out
  clear hps
  go_wp2_with (fail)
  go_loopg [6, 7] l1.length (fun gg v6 v7 wr => ∃ i at_ : Nat, v7 = .int .i64 i ∧ v6 = .int .i64 at_ ∧ Aside0 (i + gg = l1.length) ∧ Aside0 (at_ ≤ ps.length) ∧ Aside0 (ps.drop at_ = pairsT opsR l2 (l1.drop i) i) ∧ Aside0 (Below w.heap.size w wr) ∧ Aside0 (wr.heap[w.heap.size]? = some (.cells (patCs n1 D1 dl1 dc1 A1 l1.length c1) 42 (0, 0))) ∧ Aside0 (wr.heap[w.heap.size + 1]? = some (.cells (patCs n2 D2 dl2 dc2 A2 l2.length c2) 42 (0, 0))) ∧ Aside0 (Kd.C k45 wr Al ps.length ps))
  case atStart => exact ⟨0, 0, rfl, rfl, ⟨by omega⟩, ⟨Nat.zero_le _⟩, HF, HB, HX, HY, HC⟩
  case round =>
    clear HF HB HX HY HC
    obtain ⟨i, a, rfl, rfl, HN, HA, HF, HB, HX, HY, HC⟩ := hrel
    obtain ⟨G, rfl⟩ : ∃ G, G = gk := ⟨_, rfl⟩
    obtain ⟨x0, x1, x2, -⟩ := cells3 HX.out
    by_cases hi : i < l1.length
    case pos =>
      have hi' : (i : Int) < (l1.length : Int) := by omega
      have r1 : (0 ≤ (i : Int)) = True := eq_true (by omega)
      have r2 : ((i : Int) < (l1.length : Int)) = True := eq_true hi'
      have hi9 : (i : Int) + 1 ≤ 9223372036854775807 := by omega
      obtain ⟨ad, B1, b1, B2, b2, e0, hc, ho⟩ := op_row H1.out i hi
      have h := HF.out
      rw [List.drop_eq_getElem_cons hi, pairsT] at h
      generalize l1[i] = x at hc ho h
      subst e0
      have HCx := Aside0.mk hc
      have HO := Aside0.mk ho
      have HF1 := Aside0.mk h
      clear h hc ho HF
      go_wp2_with (fail)
      clear x0 x1 x2
      go_loopg [6, 8] l2.length (fun gg v6 v8 wr => ∃ j at_ : Nat, v8 = .int .i64 j ∧ v6 = .int .i64 at_ ∧ Aside0 (j + gg = l2.length) ∧ Aside0 (at_ ≤ ps.length) ∧ Aside0 (ps.drop at_ = rowT opsR x i (l2.drop j) j ++ pairsT opsR l2 (l1.drop (i + 1)) (i + 1)) ∧ Aside0 (Below w.heap.size w wr) ∧ Aside0 (wr.heap[w.heap.size]? = some (.cells (patCs n1 D1 dl1 dc1 (some ad) l1.length c1) 42 (0, 0))) ∧ Aside0 (wr.heap[w.heap.size + 1]? = some (.cells (patCs n2 D2 dl2 dc2 A2 l2.length c2) 42 (0, 0))) ∧ Aside0 (Kd.C k45 wr Al ps.length ps))
      case atStart => exact ⟨0, a, rfl, rfl, ⟨by omega⟩, HA, HF1, HB, HX, HY, HC⟩
      case round =>
        clear HF1 HB HX HY HC HA
        obtain ⟨j, a, rfl, rfl, HNj, HA, HF, HB, HX, HY, HC⟩ := hrel
        obtain ⟨J, rfl⟩ : ∃ J, J = gk := ⟨_, rfl⟩
        obtain ⟨V, rfl⟩ : ∃ V, V = wr := ⟨_, rfl⟩
        obtain ⟨x0, x1, x2, -⟩ := cells3 HX.out
        obtain ⟨y0, y1, y2, -⟩ := cells3 HY.out
        by_cases hj : j < l2.length
        case neg =>
          have hj' : ¬ (j : Int) < (l2.length : Int) := by omega
          have h := HF.out
          rw [List.drop_eq_nil_of_le (show l2.length ≤ j by omega), rowT, List.nil_append] at h
          have HF1 := Aside0.mk h
          clear h HF
          go_wp2_with (fail)
          go_roundg (G - 1)
          case measure => have := HN.out; omega
          case rel => exact ⟨i + 1, a, by go_num, rfl, ⟨by have := HN.out; omega⟩, HA, HF1, HB, HX, HY, HC⟩
        have hj' : (j : Int) < (l2.length : Int) := by omega
        have r3 : (0 ≤ (j : Int)) = True := eq_true (by omega)
        have r4 : ((j : Int) < (l2.length : Int)) = True := eq_true hj'
        have hj9 : (j : Int) + 1 ≤ 9223372036854775807 := by omega
        obtain ⟨bd, E1, d1, E2, d2, e0, hc, ho⟩ := op_row H2.out j hj
        have h := HF.out
        rw [List.drop_eq_getElem_cons hj, rowT] at h
        generalize l2[j] = y at hc ho h
        subst e0
        have HC1 := Aside0.mk (HCx.out.below (below_drew HB.out))
        have HC2 := Aside0.mk (hc.below (below_drew HB.out))
        have HP1_ := HP1
        have HP2_ := HP2
        clear HP1 HP2
        have HP1 := Aside0.mk (HO.out.below (below_drew HB.out))
        have HP2 := Aside0.mk (ho.below (below_drew HB.out))
        have HF1 := Aside0.mk h
        clear h hc ho HF
        go_upto_region 11 with (fail)
        obtain ⟨u0, u1, u2, u3, u4, u5, u6, u7, u8, u9, u10, u11, u12, u13, u14, u15⟩ := HCx.out.below HB.out
        obtain ⟨v0, v1, v2, v3, v4, v5, v6, v7, v8, v9, v10, v11, v12, v13, v14, v15⟩ := HC2.out
        go_region_held3 (fun w' => w'.cell? ⟨w.heap.size, 2, none⟩ = some (.slice (some ad) l1.length c1) ∧ w'.cell? ⟨w.heap.size + 1, 2, none⟩ = some (.slice (some bd) l2.length c2) ∧ w'.cell? (ad.add (i * 16)) = some (.int .i64 x.f0) ∧ w'.cell? ⟨(ad.add (i * 16)).block, (ad.add (i * 16)).off + 1, none⟩ = some (.string x.f1.f0) ∧ w'.cell? ⟨(ad.add (i * 16)).block, (ad.add (i * 16)).off + 2, none⟩ = some (.int .i64 x.f1.f1) ∧ w'.cell? ⟨(ad.add (i * 16)).block, (ad.add (i * 16)).off + 3, none⟩ = some (.string x.f2.f0) ∧ w'.cell? ⟨(ad.add (i * 16)).block, (ad.add (i * 16)).off + 4, none⟩ = some (.int .i64 x.f2.f1) ∧ w'.cell? ⟨(ad.add (i * 16)).block, (ad.add (i * 16)).off + 5, none⟩ = some (.string x.f3.f0) ∧ w'.cell? ⟨(ad.add (i * 16)).block, (ad.add (i * 16)).off + 6, none⟩ = some (.int .i64 x.f3.f1) ∧ w'.cell? ⟨(ad.add (i * 16)).block, (ad.add (i * 16)).off + 7, none⟩ = some (.string x.f4) ∧ w'.cell? ⟨(ad.add (i * 16)).block, (ad.add (i * 16)).off + 8, none⟩ = some (.string x.f5) ∧ w'.cell? ⟨(ad.add (i * 16)).block, (ad.add (i * 16)).off + 9, none⟩ = some (.string x.f6.f0) ∧ w'.cell? ⟨(ad.add (i * 16)).block, (ad.add (i * 16)).off + 10, none⟩ = some (.int .i64 x.f6.f1) ∧ w'.cell? ⟨(ad.add (i * 16)).block, (ad.add (i * 16)).off + 11, none⟩ = some (.string x.f7.f0) ∧ w'.cell? ⟨(ad.add (i * 16)).block, (ad.add (i * 16)).off + 12, none⟩ = some (.int .i64 x.f7.f1) ∧ w'.cell? ⟨(ad.add (i * 16)).block, (ad.add (i * 16)).off + 13, none⟩ = some (.slice B1 x.f8.length b1) ∧ w'.cell? ⟨(ad.add (i * 16)).block, (ad.add (i * 16)).off + 14, none⟩ = some (.int .i64 x.f9) ∧ w'.cell? ⟨(ad.add (i * 16)).block, (ad.add (i * 16)).off + 15, none⟩ = some (.slice B2 x.f10.length b2) ∧ w'.cell? (bd.add (j * 16)) = some (.int .i64 y.f0) ∧ w'.cell? ⟨(bd.add (j * 16)).block, (bd.add (j * 16)).off + 1, none⟩ = some (.string y.f1.f0) ∧ w'.cell? ⟨(bd.add (j * 16)).block, (bd.add (j * 16)).off + 2, none⟩ = some (.int .i64 y.f1.f1) ∧ w'.cell? ⟨(bd.add (j * 16)).block, (bd.add (j * 16)).off + 3, none⟩ = some (.string y.f2.f0) ∧ w'.cell? ⟨(bd.add (j * 16)).block, (bd.add (j * 16)).off + 4, none⟩ = some (.int .i64 y.f2.f1) ∧ w'.cell? ⟨(bd.add (j * 16)).block, (bd.add (j * 16)).off + 5, none⟩ = some (.string y.f3.f0) ∧ w'.cell? ⟨(bd.add (j * 16)).block, (bd.add (j * 16)).off + 6, none⟩ = some (.int .i64 y.f3.f1) ∧ w'.cell? ⟨(bd.add (j * 16)).block, (bd.add (j * 16)).off + 7, none⟩ = some (.string y.f4) ∧ w'.cell? ⟨(bd.add (j * 16)).block, (bd.add (j * 16)).off + 8, none⟩ = some (.string y.f5) ∧ w'.cell? ⟨(bd.add (j * 16)).block, (bd.add (j * 16)).off + 9, none⟩ = some (.string y.f6.f0) ∧ w'.cell? ⟨(bd.add (j * 16)).block, (bd.add (j * 16)).off + 10, none⟩ = some (.int .i64 y.f6.f1) ∧ w'.cell? ⟨(bd.add (j * 16)).block, (bd.add (j * 16)).off + 11, none⟩ = some (.string y.f7.f0) ∧ w'.cell? ⟨(bd.add (j * 16)).block, (bd.add (j * 16)).off + 12, none⟩ = some (.int .i64 y.f7.f1) ∧ w'.cell? ⟨(bd.add (j * 16)).block, (bd.add (j * 16)).off + 13, none⟩ = some (.slice E1 y.f8.length d1) ∧ w'.cell? ⟨(bd.add (j * 16)).block, (bd.add (j * 16)).off + 14, none⟩ = some (.int .i64 y.f9) ∧ w'.cell? ⟨(bd.add (j * 16)).block, (bd.add (j * 16)).off + 15, none⟩ = some (.slice E2 y.f10.length d2)) (first | exact ⟨x2, y2, u0, u1, u2, u3, u4, u5, u6, u7, u8, u9, u10, u11, u12, u13, u14, u15, v0, v1, v2, v3, v4, v5, v6, v7, v8, v9, v10, v11, v12, v13, v14, v15⟩ | go_keep) (first | (go_at_call 11; refine (r15_Ops.calls x B1 b1 B2 b2 y E1 d1 E2 d2 _ HP1.out HP2.out).mono ?_; rintro e_ w2 ⟨rfl, hb⟩; have HB2 := Aside0.mk (below_then (below_drew HB.out) (below_drew HB.out).size hb); have HC3 := Aside0.mk (Kd.C_below (Kd.C_drew HC.out) hb); have HX2 := Aside0.mk (blk_below (blk_drew HX.out) hb); have HY2 := Aside0.mk (blk_below (blk_drew HY.out) hb); obtain ⟨_, _, x2, -⟩ := cells3 HX2.out; obtain ⟨_, _, y2, -⟩ := cells3 HY2.out; obtain ⟨u0, u1, u2, u3, u4, u5, u6, u7, u8, u9, u10, u11, u12, u13, u14, u15⟩ := HC1.out.below hb; obtain ⟨v0, v1, v2, v3, v4, v5, v6, v7, v8, v9, v10, v11, v12, v13, v14, v15⟩ := HC2.out.below hb; clear hb) | fail)
        clear u0 u1 u2 u3 u4 u5 u6 u7 u8 u9 u10 u11 u12 u13 u14 u15 v0 v1 v2 v3 v4 v5 v6 v7 v8 v9 v10 v11 v12 v13 v14 v15 x0 x1 x2 y0 y1 y2 HC1 HC2 HP1 HP2 HX HY HB HC
        generalize hz : opsR x y = z at *
        cases e1 : z == 0
        case true =>
          have h := HF1.out
          rw [if_pos (eq_of_beq e1)] at h
          have HF2 := Aside0.mk h
          clear h HF1 hz
          go_wp2_with (fail)
          go_roundg (J - 1)
          case measure => have := HNj.out; omega
          case rel => exact ⟨j + 1, a, by go_num, rfl, ⟨by have := HNj.out; omega⟩, HA, HF2, HB2, HX2, HY2, HC3⟩
        have hz0 : ¬ z = 0 := by intro h0; rw [h0] at e1; cases e1
        have h := HF1.out
        rw [if_neg hz0, List.cons_append] at h
        obtain ⟨hlt, hat, hdr⟩ := drop_cons h
        have HF2 := Aside0.mk hdr
        obtain ⟨pd, e2, p0, p1⟩ := at_T45 HC3.out (a : Int) (by omega) (by omega)
        have er : rd_T45 ps (a : Int) = ⟨(i : Int), (j : Int)⟩ := by rw [show rd_T45 ps (a : Int) = ps[a] by simp [rd_T45, hlt], hat]
        rw [er, Int.toNat_natCast] at p0 p1
        subst e2
        have q1 : ((a : Int) ≥ (ps.length : Int)) = False := eq_false (by omega)
        have q2 : ((ps.length : Int) ≤ (a : Int)) = False := eq_false (by omega)
        have q3 : (ps.length ≤ a) = False := eq_false (by omega)
        have q4 : (0 ≤ (a : Int)) = True := eq_true (by omega)
        have q5 : ((a : Int) < (ps.length : Int)) = True := eq_true (by omega)
        have ha9 : (a : Int) + 1 ≤ 9223372036854775807 := by omega
        have HA2 := Aside0.mk (show a + 1 ≤ ps.length by omega)
        clear h HF1 hz hz0 hdr hat er hlt
        go_wp2_with (fail)
        go_roundg (J - 1)
        case measure => have := HNj.out; omega
        case rel => exact ⟨j + 1, a + 1, by go_num, by go_num, ⟨by have := HNj.out; omega⟩, HA2, HF2, HB2, HX2, HY2, HC3⟩
    have hi' : ¬ (i : Int) < (l1.length : Int) := by omega
    have ha : a = ps.length := by
      have h := HF.out
      rw [List.drop_eq_nil_of_le (show l1.length ≤ i by omega), pairsT] at h
      have := List.drop_eq_nil_iff.1 h
      have := HA.out
      omega
    subst ha
    clear HF HA HN
    obtain ⟨y0, y1, y2, -⟩ := cells3 HY.out
    go_wp2_with (fail)
    refine (HP1.out _ (Kd.C_below H1.out HB.out) (Kd.C_below H2.out HB.out)).mono ?_
    rintro e_ w1 ⟨rfl, hb⟩
    have HX1 := Aside0.mk (blk_below HX.out hb)
    have HY1 := Aside0.mk (blk_below HY.out hb)
    have HB1 := Aside0.mk (below_then HB.out HB.out.size hb)
    have HC1 := Aside0.mk (Kd.C_below HC.out hb)
    clear hb HX HY HB HC x0 x1 x2 y0 y1 y2
    have HX := HX1
    clear HX1
    have HY := HY1
    clear HY1
    have HB := HB1
    clear HB1
    have HC := HC1
    clear HC1
    obtain ⟨x0, x1, x2, -⟩ := cells3 HX.out
    obtain ⟨y0, y1, y2, -⟩ := cells3 HY.out
    go_wp2_with (fail)
    refine (law15_awake.calls _).mono ?_
    rintro e_ w1 ⟨rfl, hb⟩
    have HX1 := Aside0.mk (blk_below HX.out hb)
    have HY1 := Aside0.mk (blk_below HY.out hb)
    have HB1 := Aside0.mk (below_then HB.out HB.out.size hb)
    have HC1 := Aside0.mk (Kd.C_below HC.out hb)
    clear hb HX HY HB HC x0 x1 x2 y0 y1 y2
    have HX := HX1
    clear HX1
    have HY := HY1
    clear HY1
    have HB := HB1
    clear HB1
    have HC := HC1
    clear HC1
    obtain ⟨x0, x1, x2, -⟩ := cells3 HX.out
    obtain ⟨y0, y1, y2, -⟩ := cells3 HY.out
    obtain ⟨m, hm⟩ : ∃ m, m = allF opsR l1 l2 := ⟨_, rfl⟩
    have HQ2 := Aside0.mk (fun W q1 q2 => r15_Patches.calls n1 n2 D1 dl1 dc1 A1 c1 l1 D2 dl2 dc2 A2 c2 l2 W q1 q2)
    rw [← hm] at HP2 HCM
    clear hm
    generalize allF opsR l2 l1 = n at *
    go_wp2_with (fail)
    refine (HQ2.out _ (Kd.C_below H1.out HB.out) (Kd.C_below H2.out HB.out)).mono ?_
    rintro e_ w1 ⟨rfl, hb⟩
    have HX1 := Aside0.mk (blk_below HX.out hb)
    have HY1 := Aside0.mk (blk_below HY.out hb)
    have HB1 := Aside0.mk (below_then HB.out HB.out.size hb)
    have HC1 := Aside0.mk (Kd.C_below HC.out hb)
    clear hb HX HY HB HC x0 x1 x2 y0 y1 y2
    have HX := HX1
    clear HX1
    have HY := HY1
    clear HY1
    have HB := HB1
    clear HB1
    have HC := HC1
    clear HC1
    obtain ⟨x0, x1, x2, -⟩ := cells3 HX.out
    obtain ⟨y0, y1, y2, -⟩ := cells3 HY.out
    go_wp2_with (fail)
    refine (HP2.out _ (Kd.C_below H2.out HB.out) (Kd.C_below H1.out HB.out)).mono ?_
    rintro e_ w1 ⟨rfl, hb⟩
    have HX1 := Aside0.mk (blk_below HX.out hb)
    have HY1 := Aside0.mk (blk_below HY.out hb)
    have HB1 := Aside0.mk (below_then HB.out HB.out.size hb)
    have HC1 := Aside0.mk (Kd.C_below HC.out hb)
    clear hb HX HY HB HC x0 x1 x2 y0 y1 y2
    have HX := HX1
    clear HX1
    have HY := HY1
    clear HY1
    have HB := HB1
    clear HB1
    have HC := HC1
    clear HC1
    obtain ⟨x0, x1, x2, -⟩ := cells3 HX.out
    obtain ⟨y0, y1, y2, -⟩ := cells3 HY.out
    have hcm := HCM.out
    cases b1 : n == 0
    all_goals
      rw [b1] at hcm
      have b2 := hcm.symm
      clear hcm
      go_wp2_with (fail)
      go_ret
      exact ⟨rfl, HB.out⟩
end Go.Proofs.YtmimejckcknjfaaDoor.G
