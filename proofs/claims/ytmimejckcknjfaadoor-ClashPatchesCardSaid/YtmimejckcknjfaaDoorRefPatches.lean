/- R15.Patches: the walk. -/
import Derived.Test.YtmimejckcknjfaaDoorRefOps
import Derived.Test.YtmimejckcknjfaaDoorClashPatches
set_option linter.unusedVariables false
set_option linter.unusedSimpArgs false
namespace Go.Proofs.YtmimejckcknjfaaDoor.G
open Go.RowKit Go.Proofs.YtmimejckcknjfaaDoorW.PrintWords Go.Proofs.YtmimejckcknjfaaDoorW.PrintLast Go.Proofs.YtmimejckcknjfaaDoorW.PrintMore Go.Proofs.YtmimejckcknjfaaDoor.Plain

/-- The first answer that is not 0. -/
def rowF (f : TOp → TOp → Int) (x : TOp) : List TOp → Int
  | [] => 0
  | y :: m => if f x y = 0 then rowF f x m else f x y
def allF (f : TOp → TOp → Int) (m : List TOp) : List TOp → Int
  | [] => 0
  | x :: l => if rowF f x m = 0 then allF f m l else rowF f x m
set_option maxHeartbeats 8000000 in
set_option maxRecDepth 100000 in
theorem r15_Patches.calls (n1 n2 : ByteArray) (D1 : Option Addr) (dl1 dc1 : Nat) (A1 : Option Addr) (c1 : Nat) (l1 : List TOp) (D2 : Option Addr) (dl2 dc2 : Nat) (A2 : Option Addr) (c2 : Nat) (l2 : List TOp) (w : World)
    (h1 : Kd.C k27 w A1 l1.length l1) (h2 : Kd.C k27 w A2 l2.length l2) :
    Calls Tryd.prog 14 #[patV n1 D1 dl1 dc1 A1 l1.length c1, patV n2 D2 dl2 dc2 A2 l2.length c2] w fun e w' => e = .returned (.int .i64 (allF opsR l2 l1)) ∧ Below w.heap.size w w' := by
  have hm1 := Kd.C_max h1
  have hm2 := Kd.C_max h2
  have H1 := Aside0.mk h1
  have H2 := Aside0.mk h2
  clear h1 h2
  obtain ⟨r, hr⟩ : ∃ r, r = allF opsR l2 l1 := ⟨_, rfl⟩
  rw [← hr]
  have HF := Aside0.mk hr
  clear hr
  go_enter Tryd.func14, Tryd.ntmps14
  go_upto_region 1 with (fail)
  obtain ⟨W, hW⟩ : ∃ W, W = (w.alloc (.cells (patCs n1 D1 dl1 dc1 A1 l1.length c1) 42)).alloc (.cells (patCs n2 D2 dl2 dc2 A2 l2.length c2) 42) := ⟨_, rfl⟩
  have HX : Aside0 (W.heap[w.heap.size]? = some (.cells (patCs n1 D1 dl1 dc1 A1 l1.length c1) 42 (0, 0))) := ⟨by rw [hW]; exact blk_alloc (heap_alloc_new w _) _⟩
  have HY : Aside0 (W.heap[w.heap.size + 1]? = some (.cells (patCs n2 D2 dl2 dc2 A2 l2.length c2) 42 (0, 0))) := ⟨by rw [hW]; simpa using heap_alloc_new (w.alloc (.cells (patCs n1 D1 dl1 dc1 A1 l1.length c1) 42)) (.cells (patCs n2 D2 dl2 dc2 A2 l2.length c2) 42)⟩
  have HB : Aside0 (Below w.heap.size w W) := ⟨by rw [hW]; exact below_alloc (below_alloc (Below.refl _ _) _) _⟩
  rw [← hW]
  clear hW
  go_wp2_with (fail)
  go_loopg [5] l1.length (fun gg v5 wr => ∃ i : Nat, v5 = .int .i64 i ∧ Aside0 (i + gg = l1.length) ∧ Aside0 (r = allF opsR l2 (l1.drop i)) ∧ Aside0 (Below w.heap.size w wr) ∧ Aside0 (wr.heap[w.heap.size]? = some (.cells (patCs n1 D1 dl1 dc1 A1 l1.length c1) 42 (0, 0))) ∧ Aside0 (wr.heap[w.heap.size + 1]? = some (.cells (patCs n2 D2 dl2 dc2 A2 l2.length c2) 42 (0, 0))))
  case atStart => exact ⟨0, rfl, ⟨by omega⟩, HF, HB, HX, HY⟩
  case round =>
    clear HF HB HX HY
    obtain ⟨i, rfl, HN, HF, HB, HX, HY⟩ := hrel
    obtain ⟨G, rfl⟩ : ∃ G, G = gk := ⟨_, rfl⟩
    obtain ⟨x0, x1, x2, -⟩ := cells3 HX.out
    by_cases hi : i < l1.length
    case neg =>
      have hi' : ¬ (i : Int) < (l1.length : Int) := by omega
      have h := HF.out
      rw [List.drop_eq_nil_of_le (by omega), allF] at h
      have HE := Aside0.mk h
      clear h
      go_wp2
      go_ret
      exact ⟨by rw [HE.out]; rfl, HB.out⟩
    have hi' : (i : Int) < (l1.length : Int) := by omega
    have r1 : (0 ≤ (i : Int)) = True := eq_true (by omega)
    have r2 : ((i : Int) < (l1.length : Int)) = True := eq_true hi'
    have hi9 : (i : Int) + 1 ≤ 9223372036854775807 := by omega
    obtain ⟨ad, B1, b1, B2, b2, e0, hc, ho⟩ := op_row H1.out i hi
    have h := HF.out
    rw [List.drop_eq_getElem_cons hi, allF] at h
    generalize l1[i] = x at hc ho h
    subst e0
    have HC := Aside0.mk hc
    have HO := Aside0.mk ho
    have HF1 := Aside0.mk h
    clear h hc ho HF
    go_wp2_with (fail)
    clear x0 x1 x2
    go_loopg [6] l2.length (fun gg v6 wr => ∃ j : Nat, v6 = .int .i64 j ∧ Aside0 (j + gg = l2.length) ∧ Aside0 (r = if rowF opsR x (l2.drop j) = 0 then allF opsR l2 (l1.drop (i + 1)) else rowF opsR x (l2.drop j)) ∧ Aside0 (Below w.heap.size w wr) ∧ Aside0 (wr.heap[w.heap.size]? = some (.cells (patCs n1 D1 dl1 dc1 (some ad) l1.length c1) 42 (0, 0))) ∧ Aside0 (wr.heap[w.heap.size + 1]? = some (.cells (patCs n2 D2 dl2 dc2 A2 l2.length c2) 42 (0, 0))))
    case atStart => exact ⟨0, rfl, ⟨by omega⟩, HF1, HB, HX, HY⟩
    case round =>
      clear HF1 HB HX HY
      obtain ⟨j, rfl, HNj, HF, HB, HX, HY⟩ := hrel
      obtain ⟨J, rfl⟩ : ∃ J, J = gk := ⟨_, rfl⟩
      obtain ⟨V, rfl⟩ : ∃ V, V = wr := ⟨_, rfl⟩
      obtain ⟨x0, x1, x2, -⟩ := cells3 HX.out
      obtain ⟨y0, y1, y2, -⟩ := cells3 HY.out
      by_cases hj : j < l2.length
      case neg =>
        have hj' : ¬ (j : Int) < (l2.length : Int) := by omega
        have h := HF.out
        rw [List.drop_eq_nil_of_le (by omega), rowF, if_pos rfl] at h
        have HF1 := Aside0.mk h
        clear h HF
        go_wp2_with (fail)
        go_roundg (G - 1)
        case measure => have := HN.out; omega
        case rel => exact ⟨i + 1, by go_num, ⟨by have := HN.out; omega⟩, HF1, HB, HX, HY⟩
      have hj' : (j : Int) < (l2.length : Int) := by omega
      have r3 : (0 ≤ (j : Int)) = True := eq_true (by omega)
      have r4 : ((j : Int) < (l2.length : Int)) = True := eq_true hj'
      have hj9 : (j : Int) + 1 ≤ 9223372036854775807 := by omega
      obtain ⟨bd, E1, d1, E2, d2, e0, hc, ho⟩ := op_row H2.out j hj
      have h := HF.out
      rw [List.drop_eq_getElem_cons hj, rowF] at h
      generalize l2[j] = y at hc ho h
      subst e0
      have HC1 := Aside0.mk (HC.out.below (below_drew HB.out))
      have HC2 := Aside0.mk (hc.below (below_drew HB.out))
      have HP1 := Aside0.mk (HO.out.below (below_drew HB.out))
      have HP2 := Aside0.mk (ho.below (below_drew HB.out))
      have HF1 := Aside0.mk h
      clear h hc ho HF
      go_upto_region 7 with (fail)
      obtain ⟨u0, u1, u2, u3, u4, u5, u6, u7, u8, u9, u10, u11, u12, u13, u14, u15⟩ := HC.out.below HB.out
      obtain ⟨v0, v1, v2, v3, v4, v5, v6, v7, v8, v9, v10, v11, v12, v13, v14, v15⟩ := HC2.out
      go_region_held3 (fun w' => w'.cell? ⟨w.heap.size, 2, none⟩ = some (.slice (some ad) l1.length c1) ∧ w'.cell? ⟨w.heap.size + 1, 2, none⟩ = some (.slice (some bd) l2.length c2) ∧ w'.cell? (ad.add (i * 16)) = some (.int .i64 x.f0) ∧ w'.cell? ⟨(ad.add (i * 16)).block, (ad.add (i * 16)).off + 1, none⟩ = some (.string x.f1.f0) ∧ w'.cell? ⟨(ad.add (i * 16)).block, (ad.add (i * 16)).off + 2, none⟩ = some (.int .i64 x.f1.f1) ∧ w'.cell? ⟨(ad.add (i * 16)).block, (ad.add (i * 16)).off + 3, none⟩ = some (.string x.f2.f0) ∧ w'.cell? ⟨(ad.add (i * 16)).block, (ad.add (i * 16)).off + 4, none⟩ = some (.int .i64 x.f2.f1) ∧ w'.cell? ⟨(ad.add (i * 16)).block, (ad.add (i * 16)).off + 5, none⟩ = some (.string x.f3.f0) ∧ w'.cell? ⟨(ad.add (i * 16)).block, (ad.add (i * 16)).off + 6, none⟩ = some (.int .i64 x.f3.f1) ∧ w'.cell? ⟨(ad.add (i * 16)).block, (ad.add (i * 16)).off + 7, none⟩ = some (.string x.f4) ∧ w'.cell? ⟨(ad.add (i * 16)).block, (ad.add (i * 16)).off + 8, none⟩ = some (.string x.f5) ∧ w'.cell? ⟨(ad.add (i * 16)).block, (ad.add (i * 16)).off + 9, none⟩ = some (.string x.f6.f0) ∧ w'.cell? ⟨(ad.add (i * 16)).block, (ad.add (i * 16)).off + 10, none⟩ = some (.int .i64 x.f6.f1) ∧ w'.cell? ⟨(ad.add (i * 16)).block, (ad.add (i * 16)).off + 11, none⟩ = some (.string x.f7.f0) ∧ w'.cell? ⟨(ad.add (i * 16)).block, (ad.add (i * 16)).off + 12, none⟩ = some (.int .i64 x.f7.f1) ∧ w'.cell? ⟨(ad.add (i * 16)).block, (ad.add (i * 16)).off + 13, none⟩ = some (.slice B1 x.f8.length b1) ∧ w'.cell? ⟨(ad.add (i * 16)).block, (ad.add (i * 16)).off + 14, none⟩ = some (.int .i64 x.f9) ∧ w'.cell? ⟨(ad.add (i * 16)).block, (ad.add (i * 16)).off + 15, none⟩ = some (.slice B2 x.f10.length b2) ∧ w'.cell? (bd.add (j * 16)) = some (.int .i64 y.f0) ∧ w'.cell? ⟨(bd.add (j * 16)).block, (bd.add (j * 16)).off + 1, none⟩ = some (.string y.f1.f0) ∧ w'.cell? ⟨(bd.add (j * 16)).block, (bd.add (j * 16)).off + 2, none⟩ = some (.int .i64 y.f1.f1) ∧ w'.cell? ⟨(bd.add (j * 16)).block, (bd.add (j * 16)).off + 3, none⟩ = some (.string y.f2.f0) ∧ w'.cell? ⟨(bd.add (j * 16)).block, (bd.add (j * 16)).off + 4, none⟩ = some (.int .i64 y.f2.f1) ∧ w'.cell? ⟨(bd.add (j * 16)).block, (bd.add (j * 16)).off + 5, none⟩ = some (.string y.f3.f0) ∧ w'.cell? ⟨(bd.add (j * 16)).block, (bd.add (j * 16)).off + 6, none⟩ = some (.int .i64 y.f3.f1) ∧ w'.cell? ⟨(bd.add (j * 16)).block, (bd.add (j * 16)).off + 7, none⟩ = some (.string y.f4) ∧ w'.cell? ⟨(bd.add (j * 16)).block, (bd.add (j * 16)).off + 8, none⟩ = some (.string y.f5) ∧ w'.cell? ⟨(bd.add (j * 16)).block, (bd.add (j * 16)).off + 9, none⟩ = some (.string y.f6.f0) ∧ w'.cell? ⟨(bd.add (j * 16)).block, (bd.add (j * 16)).off + 10, none⟩ = some (.int .i64 y.f6.f1) ∧ w'.cell? ⟨(bd.add (j * 16)).block, (bd.add (j * 16)).off + 11, none⟩ = some (.string y.f7.f0) ∧ w'.cell? ⟨(bd.add (j * 16)).block, (bd.add (j * 16)).off + 12, none⟩ = some (.int .i64 y.f7.f1) ∧ w'.cell? ⟨(bd.add (j * 16)).block, (bd.add (j * 16)).off + 13, none⟩ = some (.slice E1 y.f8.length d1) ∧ w'.cell? ⟨(bd.add (j * 16)).block, (bd.add (j * 16)).off + 14, none⟩ = some (.int .i64 y.f9) ∧ w'.cell? ⟨(bd.add (j * 16)).block, (bd.add (j * 16)).off + 15, none⟩ = some (.slice E2 y.f10.length d2)) (first | exact ⟨x2, y2, u0, u1, u2, u3, u4, u5, u6, u7, u8, u9, u10, u11, u12, u13, u14, u15, v0, v1, v2, v3, v4, v5, v6, v7, v8, v9, v10, v11, v12, v13, v14, v15⟩ | go_keep) (first | (go_at_call 11; refine (r15_Ops.calls x B1 b1 B2 b2 y E1 d1 E2 d2 _ HP1.out HP2.out).mono ?_; rintro e_ w2 ⟨rfl, hb⟩; have HB2 := Aside0.mk (below_then (below_drew HB.out) (below_drew HB.out).size hb); have HX2 := Aside0.mk (blk_below (blk_drew HX.out) hb); have HY2 := Aside0.mk (blk_below (blk_drew HY.out) hb); obtain ⟨_, _, x2, -⟩ := cells3 HX2.out; obtain ⟨_, _, y2, -⟩ := cells3 HY2.out; obtain ⟨u0, u1, u2, u3, u4, u5, u6, u7, u8, u9, u10, u11, u12, u13, u14, u15⟩ := HC1.out.below hb; obtain ⟨v0, v1, v2, v3, v4, v5, v6, v7, v8, v9, v10, v11, v12, v13, v14, v15⟩ := HC2.out.below hb; clear hb) | fail)
      clear u0 u1 u2 u3 u4 u5 u6 u7 u8 u9 u10 u11 u12 u13 u14 u15 v0 v1 v2 v3 v4 v5 v6 v7 v8 v9 v10 v11 v12 v13 v14 v15 x0 x1 x2 y0 y1 y2 HC1 HC2 HP1 HP2 HX HY HB
      generalize hz : opsR x y = z at *
      cases e1 : z == 0
      case true =>
        have h := HF1.out
        rw [if_pos (eq_of_beq e1)] at h
        have HF2 := Aside0.mk h
        have e2 : (z != 0) = false := by rw [bne, e1]; rfl
        clear h HF1 hz
        go_wp2_with (fail)
        go_roundg (J - 1)
        case measure => have := HNj.out; omega
        case rel => exact ⟨j + 1, by go_num, ⟨by have := HNj.out; omega⟩, HF2, HB2, HX2, HY2⟩
      have hz0 : ¬ z = 0 := by intro h0; rw [h0] at e1; cases e1
      have h := HF1.out
      rw [if_neg hz0, if_neg hz0] at h
      have HF2 := Aside0.mk h
      have e2 : (z != 0) = true := by rw [bne, e1]; rfl
      clear h HF1 hz hz0
      go_wp2_with (fail)
      go_ret
      exact ⟨by rw [HF2.out]; rfl, HB2.out⟩
end Go.Proofs.YtmimejckcknjfaaDoor.G
