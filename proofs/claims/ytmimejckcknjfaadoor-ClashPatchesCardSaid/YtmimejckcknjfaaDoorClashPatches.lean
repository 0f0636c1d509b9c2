/- clash.Patches: the walk. -/
import Derived.Test.YtmimejckcknjfaaDoorClashPairs
import Derived.Deep.RegionHeld3
set_option linter.unusedVariables false
set_option linter.unusedSimpArgs false
namespace Go.Proofs.YtmimejckcknjfaaDoor.G
open Go.RowKit Go.Proofs.YtmimejckcknjfaaDoorW.PrintWords Go.Proofs.YtmimejckcknjfaaDoorW.PrintLast Go.Proofs.YtmimejckcknjfaaDoorW.PrintMore Go.Proofs.YtmimejckcknjfaaDoor.Plain

/-- The answer of clash.Patches. -/
def patT (f : TOp → TOp → Int) (l m : List TOp) : Int := match pairsT f m l 0 with
  | [] => 0
  | p :: _ => f (rd_T27 l p.f0) (rd_T27 m p.f1)
theorem rowT_in (f : TOp → TOp → Int) (x : TOp) (i : Nat) : ∀ (l : List TOp) (k : Nat) (p : S45), p ∈ rowT f x i l k → p.f0 = i ∧ ∃ j : Nat, p.f1 = j ∧ k ≤ j ∧ j < k + l.length
  | [], _, p, h => by simp [rowT] at h
  | y :: l, k, p, h => by
    rw [rowT] at h
    by_cases e : f x y = 0
    · rw [if_pos e] at h
      obtain ⟨h1, j, h2, h3, h4⟩ := rowT_in f x i l (k + 1) p h
      exact ⟨h1, j, h2, by omega, by rw [List.length_cons]; omega⟩
    · rw [if_neg e] at h
      rcases List.mem_cons.1 h with rfl | h
      · exact ⟨rfl, k, rfl, Nat.le_refl _, by rw [List.length_cons]; omega⟩
      obtain ⟨h1, j, h2, h3, h4⟩ := rowT_in f x i l (k + 1) p h
      exact ⟨h1, j, h2, by omega, by rw [List.length_cons]; omega⟩
theorem pairsT_in (f : TOp → TOp → Int) (m : List TOp) : ∀ (l : List TOp) (i : Nat) (p : S45), p ∈ pairsT f m l i → (∃ a : Nat, p.f0 = a ∧ i ≤ a ∧ a < i + l.length) ∧ ∃ j : Nat, p.f1 = j ∧ j < m.length
  | [], _, p, h => by simp [pairsT] at h
  | x :: l, i, p, h => by
    rw [pairsT] at h
    rcases List.mem_append.1 h with h | h
    · obtain ⟨h1, j, h2, h3, h4⟩ := rowT_in f x i m 0 p h
      exact ⟨⟨i, h1, Nat.le_refl _, by rw [List.length_cons]; omega⟩, j, h2, by omega⟩
    · obtain ⟨⟨a, h1, h2, h3⟩, h4⟩ := pairsT_in f m l (i + 1) p h
      exact ⟨⟨a, h1, by omega, by rw [List.length_cons]; omega⟩, h4⟩

set_option maxHeartbeats 8000000 in
set_option maxRecDepth 100000 in
theorem clash_Patches.calls (k : Nat) (tx : TOp → ByteArray) (pl : TOp → List S35) (n1 n2 : ByteArray) (D1 : Option Addr) (dl1 dc1 : Nat) (A1 : Option Addr) (c1 : Nat) (l1 : List TOp) (D2 : Option Addr) (dl2 dc2 : Nat) (A2 : Option Addr) (c2 : Nat) (l2 : List TOp) (w : World)
    (h1 : Kd.C k27 w A1 l1.length l1) (h2 : Kd.C k27 w A2 l2.length l2) (o1 : ∀ x ∈ l1, OpIs k x (pl x) (tx x)) (o2 : ∀ x ∈ l2, OpIs k x (pl x) (tx x)) (hs : l1.length * l2.length ≤ 1000000) :
    Calls Tryd.prog 13 #[patV n1 D1 dl1 dc1 A1 l1.length c1, patV n2 D2 dl2 dc2 A2 l2.length c2] w fun e w' => e = .returned (.int .i64 (patT (opsT tx pl) l1 l2)) ∧ Below w.heap.size w w' := by
  have hm1 := Kd.C_max h1
  have hm2 := Kd.C_max h2
  have H1 := Aside0.mk h1
  have H2 := Aside0.mk h2
  have O1 := Aside0.mk o1
  have O2 := Aside0.mk o2
  have HP := Aside0.mk (fun W q1 q2 => clash_Pairs.calls k tx pl n1 n2 D1 dl1 dc1 A1 c1 l1 D2 dl2 dc2 A2 c2 l2 W q1 q2 o1 o2 hs)
  have HIN := Aside0.mk (pairsT_in (opsT tx pl) l2 l1 0)
  clear h1 h2 o1 o2 hs
  obtain ⟨r, hr⟩ : ∃ r, r = patT (opsT tx pl) l1 l2 := ⟨_, rfl⟩
  rw [← hr]
  unfold patT at hr
  generalize pairsT (opsT tx pl) l2 l1 0 = ps at *
  have HF := Aside0.mk hr
  clear hr
  go_enter Tryd.func13, Tryd.ntmps13
  go_upto_region 1 with (fail)
  obtain ⟨W, hW⟩ : ∃ W, W = (w.alloc (.cells (patCs n1 D1 dl1 dc1 A1 l1.length c1) 42)).alloc (.cells (patCs n2 D2 dl2 dc2 A2 l2.length c2) 42) := ⟨_, rfl⟩
  have HX : Aside0 (W.heap[w.heap.size]? = some (.cells (patCs n1 D1 dl1 dc1 A1 l1.length c1) 42 (0, 0))) := ⟨by rw [hW]; exact blk_alloc (heap_alloc_new w _) _⟩
  have HY : Aside0 (W.heap[w.heap.size + 1]? = some (.cells (patCs n2 D2 dl2 dc2 A2 l2.length c2) 42 (0, 0))) := ⟨by rw [hW]; simpa using heap_alloc_new (w.alloc (.cells (patCs n1 D1 dl1 dc1 A1 l1.length c1) 42)) (.cells (patCs n2 D2 dl2 dc2 A2 l2.length c2) 42)⟩
  have HB : Aside0 (Below w.heap.size w W) := ⟨by rw [hW]; exact below_alloc (below_alloc (Below.refl _ _) _) _⟩
  rw [← hW]
  clear hW
  obtain ⟨x0, x1, x2, -⟩ := cells3 HX.out
  obtain ⟨y0, y1, y2, -⟩ := cells3 HY.out
  go_wp2_with (fail)
  refine (HP.out W (Kd.C_below H1.out HB.out) (Kd.C_below H2.out HB.out)).mono ?_
  rintro e_ w1 ⟨v, rfl, hR, hb⟩
  obtain ⟨Al, cl, rfl⟩ := Kd.R_slice hR
  have HX1 := Aside0.mk (blk_below HX.out hb)
  have HY1 := Aside0.mk (blk_below HY.out hb)
  have HB1 := Aside0.mk (below_then HB.out HB.out.size hb)
  have HC := Aside0.mk (Kd.R_reads' hR).2.2
  clear hb hR HX HY HB x0 x1 x2 y0 y1 y2 HP
  cases ps with
  | nil =>
    have h := HF.out
    dsimp only at h
    subst h
    have e0 : (([] : List S45).length : Int) = 0 := rfl
    clear HIN HC
    go_wp2
    go_ret
    exact ⟨rfl, HB1.out⟩
  | cons p ps =>
    obtain ⟨⟨a, ha, -, ha2⟩, j, hj, hj2⟩ := HIN.out p List.mem_cons_self
    rw [Nat.zero_add] at ha2
    obtain ⟨pd, ep, z0, z1⟩ := at_T45 HC.out 0 (Int.le_refl 0) (by simp only [List.length_cons]; omega)
    have h := HF.out
    dsimp only at h
    have er : rd_T45 (p :: ps) 0 = p := rfl
    rw [er, ha] at z0
    rw [er, hj] at z1
    obtain ⟨ad, B1, b1, B2, b2, e1, hc1, ho1⟩ := op_row H1.out a ha2
    obtain ⟨bd, E1, d1, E2, d2, e2, hc2, ho2⟩ := op_row H2.out j hj2
    have ra : rd_T27 l1 (a : Int) = l1[a] := by simp [rd_T27, ha2]
    have rb : rd_T27 l2 (j : Int) = l2[j] := by simp [rd_T27, hj2]
    have k1 := O1.out _ (List.getElem_mem ha2)
    have k2 := O2.out _ (List.getElem_mem hj2)
    rw [ha, hj, ra, rb] at h
    have HA := Aside0.mk ha2
    have HJ := Aside0.mk hj2
    generalize l1[a] = x at *
    generalize l2[j] = y at *
    subst e1
    subst e2
    subst ep
    have HO := Aside0.mk (fun W q1 q2 => clash_Ops.calls k x B1 b1 B2 b2 y E1 d1 E2 d2 (pl x) (pl y) (tx x) (tx y) W q1 q2 k1 k2)
    have HP1 := Aside0.mk (ho1.below (below_drew HB1.out))
    have HP2 := Aside0.mk (ho2.below (below_drew HB1.out))
    have HC1 := Aside0.mk (hc1.below (below_drew HB1.out))
    have HC2 := Aside0.mk (hc2.below (below_drew HB1.out))
    obtain ⟨x0, x1, x2, -⟩ := cells3 HX1.out
    obtain ⟨y0, y1, y2, -⟩ := cells3 HY1.out
    have r1 : ((a : Int) < (l1.length : Int)) = True := eq_true (by omega)
    have r2 : ((j : Int) < (l2.length : Int)) = True := eq_true (by omega)
    have r3 : (0 ≤ (a : Int)) = True := eq_true (by omega)
    have r4 : (0 ≤ (j : Int)) = True := eq_true (by omega)
    have HE := Aside0.mk h
    have en : (((p :: ps).length : Int) == 0) = false := beq_eq_false_iff_ne.2 (by simp only [List.length_cons]; omega)
    have en2 : (0 < ((p :: ps).length : Int)) = True := eq_true (by simp only [List.length_cons]; omega)
    have en3 : (0 < (p :: ps).length) = True := eq_true (by simp only [List.length_cons]; omega)
    generalize (p :: ps).length = pn at *
    clear h ha ha2 hj hj2 hc1 hc2 ho1 ho2 k1 k2 HA HJ HC HF HIN er ra rb O1 O2
    go_upto_region 4 with (fail)
    simp only [Int.toNat_zero, Nat.zero_mul, Addr.add_zero'] at z0 z1
    have hz0 : w1.drew.cell? pd = some (.int .i64 (a : Int)) := z0
    have hz1 : w1.drew.cell? ⟨pd.block, pd.off + 1, none⟩ = some (.int .i64 (j : Int)) := z1
    have HZ := Aside0.mk (And.intro hz0 hz1)
    clear hz0 hz1
    obtain ⟨u0, u1, u2, u3, u4, u5, u6, u7, u8, u9, u10, u11, u12, u13, u14, u15⟩ := HC1.out
    obtain ⟨v0, v1, v2, v3, v4, v5, v6, v7, v8, v9, v10, v11, v12, v13, v14, v15⟩ := HC2.out
    go_region_held3 (fun w' => w'.cell? ⟨w.heap.size, 2, none⟩ = some (.slice (some ad) l1.length c1) ∧ w'.cell? ⟨w.heap.size + 1, 2, none⟩ = some (.slice (some bd) l2.length c2) ∧ w'.cell? pd = some (.int .i64 (a : Int)) ∧ w'.cell? ⟨pd.block, pd.off + 1, none⟩ = some (.int .i64 (j : Int)) ∧ w'.cell? (ad.add (a * 16)) = some (.int .i64 x.f0) ∧ w'.cell? ⟨(ad.add (a * 16)).block, (ad.add (a * 16)).off + 1, none⟩ = some (.string x.f1.f0) ∧ w'.cell? ⟨(ad.add (a * 16)).block, (ad.add (a * 16)).off + 2, none⟩ = some (.int .i64 x.f1.f1) ∧ w'.cell? ⟨(ad.add (a * 16)).block, (ad.add (a * 16)).off + 3, none⟩ = some (.string x.f2.f0) ∧ w'.cell? ⟨(ad.add (a * 16)).block, (ad.add (a * 16)).off + 4, none⟩ = some (.int .i64 x.f2.f1) ∧ w'.cell? ⟨(ad.add (a * 16)).block, (ad.add (a * 16)).off + 5, none⟩ = some (.string x.f3.f0) ∧ w'.cell? ⟨(ad.add (a * 16)).block, (ad.add (a * 16)).off + 6, none⟩ = some (.int .i64 x.f3.f1) ∧ w'.cell? ⟨(ad.add (a * 16)).block, (ad.add (a * 16)).off + 7, none⟩ = some (.string x.f4) ∧ w'.cell? ⟨(ad.add (a * 16)).block, (ad.add (a * 16)).off + 8, none⟩ = some (.string x.f5) ∧ w'.cell? ⟨(ad.add (a * 16)).block, (ad.add (a * 16)).off + 9, none⟩ = some (.string x.f6.f0) ∧ w'.cell? ⟨(ad.add (a * 16)).block, (ad.add (a * 16)).off + 10, none⟩ = some (.int .i64 x.f6.f1) ∧ w'.cell? ⟨(ad.add (a * 16)).block, (ad.add (a * 16)).off + 11, none⟩ = some (.string x.f7.f0) ∧ w'.cell? ⟨(ad.add (a * 16)).block, (ad.add (a * 16)).off + 12, none⟩ = some (.int .i64 x.f7.f1) ∧ w'.cell? ⟨(ad.add (a * 16)).block, (ad.add (a * 16)).off + 13, none⟩ = some (.slice B1 x.f8.length b1) ∧ w'.cell? ⟨(ad.add (a * 16)).block, (ad.add (a * 16)).off + 14, none⟩ = some (.int .i64 x.f9) ∧ w'.cell? ⟨(ad.add (a * 16)).block, (ad.add (a * 16)).off + 15, none⟩ = some (.slice B2 x.f10.length b2) ∧ w'.cell? (bd.add (j * 16)) = some (.int .i64 y.f0) ∧ w'.cell? ⟨(bd.add (j * 16)).block, (bd.add (j * 16)).off + 1, none⟩ = some (.string y.f1.f0) ∧ w'.cell? ⟨(bd.add (j * 16)).block, (bd.add (j * 16)).off + 2, none⟩ = some (.int .i64 y.f1.f1) ∧ w'.cell? ⟨(bd.add (j * 16)).block, (bd.add (j * 16)).off + 3, none⟩ = some (.string y.f2.f0) ∧ w'.cell? ⟨(bd.add (j * 16)).block, (bd.add (j * 16)).off + 4, none⟩ = some (.int .i64 y.f2.f1) ∧ w'.cell? ⟨(bd.add (j * 16)).block, (bd.add (j * 16)).off + 5, none⟩ = some (.string y.f3.f0) ∧ w'.cell? ⟨(bd.add (j * 16)).block, (bd.add (j * 16)).off + 6, none⟩ = some (.int .i64 y.f3.f1) ∧ w'.cell? ⟨(bd.add (j * 16)).block, (bd.add (j * 16)).off + 7, none⟩ = some (.string y.f4) ∧ w'.cell? ⟨(bd.add (j * 16)).block, (bd.add (j * 16)).off + 8, none⟩ = some (.string y.f5) ∧ w'.cell? ⟨(bd.add (j * 16)).block, (bd.add (j * 16)).off + 9, none⟩ = some (.string y.f6.f0) ∧ w'.cell? ⟨(bd.add (j * 16)).block, (bd.add (j * 16)).off + 10, none⟩ = some (.int .i64 y.f6.f1) ∧ w'.cell? ⟨(bd.add (j * 16)).block, (bd.add (j * 16)).off + 11, none⟩ = some (.string y.f7.f0) ∧ w'.cell? ⟨(bd.add (j * 16)).block, (bd.add (j * 16)).off + 12, none⟩ = some (.int .i64 y.f7.f1) ∧ w'.cell? ⟨(bd.add (j * 16)).block, (bd.add (j * 16)).off + 13, none⟩ = some (.slice E1 y.f8.length d1) ∧ w'.cell? ⟨(bd.add (j * 16)).block, (bd.add (j * 16)).off + 14, none⟩ = some (.int .i64 y.f9) ∧ w'.cell? ⟨(bd.add (j * 16)).block, (bd.add (j * 16)).off + 15, none⟩ = some (.slice E2 y.f10.length d2)) (first | exact ⟨x2, y2, z0, z1, u0, u1, u2, u3, u4, u5, u6, u7, u8, u9, u10, u11, u12, u13, u14, u15, v0, v1, v2, v3, v4, v5, v6, v7, v8, v9, v10, v11, v12, v13, v14, v15⟩ | go_keep) (first | (go_at_call 10; refine (HO.out _ HP1.out HP2.out).mono ?_; rintro e_ w2 ⟨rfl, hb⟩; have HB2 := Aside0.mk (below_then (below_drew HB1.out) (below_drew HB1.out).size hb); obtain ⟨_, _, x2, -⟩ := cells3 (blk_below (blk_drew HX1.out) hb); obtain ⟨_, _, y2, -⟩ := cells3 (blk_below (blk_drew HY1.out) hb); have z0 := (hb.cell (World.block_lt_of_cell? _ _ HZ.out.1)).trans HZ.out.1; have z1 := (hb.cell (World.block_lt_of_cell? _ _ HZ.out.2)).trans HZ.out.2; obtain ⟨u0, u1, u2, u3, u4, u5, u6, u7, u8, u9, u10, u11, u12, u13, u14, u15⟩ := HC1.out.below hb; obtain ⟨v0, v1, v2, v3, v4, v5, v6, v7, v8, v9, v10, v11, v12, v13, v14, v15⟩ := HC2.out.below hb; clear hb) | fail)
    clear HZ u0 u1 u2 u3 u4 u5 u6 u7 u8 u9 u10 u11 u12 u13 u14 u15 v0 v1 v2 v3 v4 v5 v6 v7 v8 v9 v10 v11 v12 v13 v14 v15 x0 x1 x2 y0 y1 y2 z0 z1 HC1 HC2 HO HP1 HP2 HX1 HY1
    go_wp2
    go_ret
    exact ⟨by rw [HE.out]; rfl, HB2.out⟩
end Go.Proofs.YtmimejckcknjfaaDoor.G
