/- clash.Pairs, clash.Patches: the walks. -/
import Derived.Test.YtmimejckcknjfaaDoorClashOp
set_option linter.unusedVariables false
set_option linter.unusedSimpArgs false
namespace Go.Proofs.YtmimejckcknjfaaDoor.G
open Go.RowKit Go.Proofs.YtmimejckcknjfaaDoorW.PrintWords Go.Proofs.YtmimejckcknjfaaDoorW.PrintLast Go.Proofs.YtmimejckcknjfaaDoorW.PrintMore Go.Proofs.YtmimejckcknjfaaDoor.Plain

/-- The answer of clash.Ops, the texts and places told by functions. -/
def opsT (tx : TOp → ByteArray) (pl : TOp → List S35) (x y : TOp) : Int := opsC x y (tx x) (tx y) (pl x) (pl y)
def rowT (f : TOp → TOp → Int) (x : TOp) (i : Nat) : List TOp → Nat → List S45
  | [], _ => []
  | y :: l, k => if f x y = 0 then rowT f x i l (k + 1) else ⟨(i : Int), (k : Int)⟩ :: rowT f x i l (k + 1)
def pairsT (f : TOp → TOp → Int) (m : List TOp) : List TOp → Nat → List S45
  | [], _ => []
  | x :: l, i => rowT f x i m 0 ++ pairsT f m l (i + 1)
theorem rowT_length (f : TOp → TOp → Int) (x : TOp) (i : Nat) : ∀ (l : List TOp) (k : Nat), (rowT f x i l k).length ≤ l.length
  | [], _ => Nat.le_refl 0
  | y :: l, k => by
    rw [rowT]
    have := rowT_length f x i l (k + 1)
    by_cases h : f x y = 0
    · rw [if_pos h, List.length_cons]; omega
    · rw [if_neg h, List.length_cons, List.length_cons]; omega
theorem pairsT_length (f : TOp → TOp → Int) (m : List TOp) : ∀ (l : List TOp) (i : Nat), (pairsT f m l i).length ≤ l.length * m.length
  | [], _ => by simp [pairsT]
  | x :: l, i => by
    rw [pairsT, List.length_append, List.length_cons, Nat.succ_mul]
    have := rowT_length f x i m 0
    have := pairsT_length f m l (i + 1)
    omega
abbrev patV (n : ByteArray) (A : Option Addr) (a c : Nat) (B : Option Addr) (b d : Nat) : Value := .agg #[.string n, .slice A a c, .slice B b d]
abbrev patCs (n : ByteArray) (A : Option Addr) (a c : Nat) (B : Option Addr) (b d : Nat) : Array Value := #[.string n, .slice A a c, .slice B b d]

set_option maxHeartbeats 8000000 in
set_option maxRecDepth 100000 in
theorem clash_Pairs.calls (k : Nat) (tx : TOp → ByteArray) (pl : TOp → List S35) (n1 n2 : ByteArray) (D1 : Option Addr) (dl1 dc1 : Nat) (A1 : Option Addr) (c1 : Nat) (l1 : List TOp) (D2 : Option Addr) (dl2 dc2 : Nat) (A2 : Option Addr) (c2 : Nat) (l2 : List TOp) (w : World)
    (h1 : Kd.C k27 w A1 l1.length l1) (h2 : Kd.C k27 w A2 l2.length l2) (o1 : ∀ x ∈ l1, OpIs k x (pl x) (tx x)) (o2 : ∀ x ∈ l2, OpIs k x (pl x) (tx x)) (hs : l1.length * l2.length ≤ 1000000) :
    Calls Tryd.prog 12 #[patV n1 D1 dl1 dc1 A1 l1.length c1, patV n2 D2 dl2 dc2 A2 l2.length c2] w fun e w' => ∃ v, e = .returned v ∧ Kd.R k45 45 w' w.heap.size (fun _ => True) v (pairsT (opsT tx pl) l2 l1 0) ∧ Below w.heap.size w w' := by
  have hm1 := Kd.C_max h1
  have hm2 := Kd.C_max h2
  have H1 := Aside0.mk h1
  have H2 := Aside0.mk h2
  have O1 := Aside0.mk o1
  have O2 := Aside0.mk o2
  have HS := Aside0.mk (show (pairsT (opsT tx pl) l2 l1 0).length ≤ 1000000 from Nat.le_trans (pairsT_length _ _ _ _) hs)
  clear h1 h2 o1 o2 hs
  obtain ⟨r, hr⟩ : ∃ r, r = pairsT (opsT tx pl) l2 l1 0 := ⟨_, rfl⟩
  rw [← hr] at HS ⊢
  have HF := Aside0.mk hr
  clear hr
  go_enter Tryd.func12, Tryd.ntmps12
  go_upto_region 1 with (fail)
  obtain ⟨W, hW⟩ : ∃ W, W = (w.alloc (.cells (patCs n1 D1 dl1 dc1 A1 l1.length c1) 42)).alloc (.cells (patCs n2 D2 dl2 dc2 A2 l2.length c2) 42) := ⟨_, rfl⟩
  have HX : Aside0 (W.heap[w.heap.size]? = some (.cells (patCs n1 D1 dl1 dc1 A1 l1.length c1) 42 (0, 0))) := ⟨by rw [hW]; exact blk_alloc (heap_alloc_new w _) _⟩
  have HY : Aside0 (W.heap[w.heap.size + 1]? = some (.cells (patCs n2 D2 dl2 dc2 A2 l2.length c2) 42 (0, 0))) := ⟨by rw [hW]; simpa using heap_alloc_new (w.alloc (.cells (patCs n1 D1 dl1 dc1 A1 l1.length c1) 42)) (.cells (patCs n2 D2 dl2 dc2 A2 l2.length c2) 42)⟩
  have HB : Aside0 (Below w.heap.size w W) := ⟨by rw [hW]; exact below_alloc (below_alloc (Below.refl _ _) _) _⟩
  rw [← hW]
  clear hW
  obtain ⟨x0, x1, x2, -⟩ := cells3 HX.out
  have HI : Aside0 (Kd.R k45 45 W w.heap.size (fun _ => True) (.slice none 0 0) []) := ⟨Kd.R_nil _ _ _ _ _⟩
  go_wp2_with (fail)
  clear x0 x1 x2
  go_loopg [5, 13] l1.length (fun gg v5 v13 wr => ∃ (i : Nat) (out : List S45), v13 = .int .i64 i ∧ Aside0 (i + gg = l1.length) ∧ Aside0 (Kd.R k45 45 wr w.heap.size (fun _ => True) v5 out) ∧ Aside0 (r = out ++ pairsT (opsT tx pl) l2 (l1.drop i) i) ∧ Aside0 (Below w.heap.size w wr) ∧ Aside0 (wr.heap[w.heap.size + 1]? = some (.cells (patCs n2 D2 dl2 dc2 A2 l2.length c2) 42 (0, 0))))
  case atStart => exact ⟨0, [], rfl, ⟨by omega⟩, HI, by simpa using HF, HB, HY⟩
  case round =>
    clear HF HB HX HY HI
    obtain ⟨i, out, rfl, HN, HR, HF, HB, HY⟩ := hrel
    obtain ⟨V, rfl⟩ : ∃ V, V = wr := ⟨_, rfl⟩
    obtain ⟨G, rfl⟩ : ∃ G, G = gk := ⟨_, rfl⟩
    by_cases hi : i < l1.length
    case neg =>
      have hi' : ¬ (i : Int) < (l1.length : Int) := by omega
      have h := HF.out
      rw [List.drop_eq_nil_of_le (by omega), pairsT, List.append_nil] at h
      subst h
      go_wp2
      go_ret
      exact ⟨_, rfl, HR.out, HB.out⟩
    have hi' : (i : Int) < (l1.length : Int) := by omega
    have r1 : (0 ≤ (i : Int)) = True := eq_true (by omega)
    have r2 : ((i : Int) < (l1.length : Int)) = True := eq_true hi'
    have hi9 : (i : Int) + 1 ≤ 9223372036854775807 := by omega
    obtain ⟨ad, B1, b1, B2, b2, e0, hc, ho⟩ := op_row H1.out i hi
    have h := HF.out
    rw [List.drop_eq_getElem_cons hi, pairsT] at h
    have hok := O1.out _ (List.getElem_mem hi)
    generalize l1[i] = x at hc ho h hok
    cases e0
    have HC := Aside0.mk (hc.below HB.out)
    have HF1 := Aside0.mk h
    have HK := Aside0.mk hok
    have HO := Aside0.mk ho
    clear h hc hok ho HF
    go_upto_region 5 with (first | refine op_loadAt 16 HC.out rfl rfl rfl ?_ | (refine op_new 7 17 rfl rfl rfl rfl rfl rfl rfl ?_; intro W hX hW) | fail)
    have HX := Aside0.mk hX
    have HW := Aside0.mk hW
    clear hX hW HC
    have HY1 := Aside0.mk (blk_below HY.out HW.out)
    have HR1 := Aside0.mk (Kd.R_below HR.out HW.out)
    have HB1 := Aside0.mk (below_then HB.out HB.out.size HW.out)
    clear HR
    obtain ⟨y0, y1, y2, -⟩ := cells3 HY1.out
    have HBV := Aside0.mk HB.out.size
    go_wp2_with (fail)
    clear y0 y1 y2
    go_loopg [5, 21] l2.length (fun gg v5 v21 wr => ∃ (j : Nat) (out : List S45), v21 = .int .i64 j ∧ Aside0 (j + gg = l2.length) ∧ Aside0 (Kd.R k45 45 wr w.heap.size (fun _ => True) v5 out) ∧ Aside0 (r = out ++ (rowT (opsT tx pl) x i (l2.drop j) j ++ pairsT (opsT tx pl) l2 (l1.drop (i + 1)) (i + 1))) ∧ Aside0 (Below w.heap.size w wr) ∧ Aside0 (wr.heap[w.heap.size + 1]? = some (.cells (patCs n2 D2 dl2 dc2 A2 l2.length c2) 42 (0, 0))) ∧ Aside0 (wr.heap[V.heap.size]? = some (.cells (opCs x B1 b1 B2 b2) 27 (0, 0))))
    case atStart => exact ⟨0, out, rfl, ⟨by omega⟩, HR1, by simpa using HF1, HB1, HY1, HX⟩
    case round =>
      clear HF1 HB1 HY1 HX HR1 HW
      obtain ⟨j, out, rfl, HNj, HR, HF, HB, HY, HX⟩ := hrel
      obtain ⟨U, rfl⟩ : ∃ U, U = wr := ⟨_, rfl⟩
      obtain ⟨J, rfl⟩ : ∃ J, J = gk := ⟨_, rfl⟩
      by_cases hj : j < l2.length
      case neg =>
        have hj' : ¬ (j : Int) < (l2.length : Int) := by omega
        have h := HF.out
        rw [List.drop_eq_nil_of_le (by omega), rowT, List.nil_append] at h
        have HF1 := Aside0.mk h
        clear h HF
        go_wp2
        go_roundg (G - 1)
        case measure => have := HN.out; omega
        case rel => exact ⟨i + 1, out, by go_num, ⟨by have := HN.out; omega⟩, HR, HF1, HB, HY⟩
      have hj' : (j : Int) < (l2.length : Int) := by omega
      have r3 : (0 ≤ (j : Int)) = True := eq_true (by omega)
      have r4 : ((j : Int) < (l2.length : Int)) = True := eq_true hj'
      have hj9 : (j : Int) + 1 ≤ 9223372036854775807 := by omega
      obtain ⟨ad, E1, d1, E2, d2, e0, hc, ho⟩ := op_row H2.out j hj
      have h := HF.out
      rw [List.drop_eq_getElem_cons hj, rowT] at h
      have hok := O2.out _ (List.getElem_mem hj)
      generalize l2[j] = y at hc ho h hok
      cases e0
      have HC := Aside0.mk (hc.below HB.out)
      have HF1 := Aside0.mk h
      have HK2 := Aside0.mk hok
      have HP := Aside0.mk ho
      clear h hc hok ho HF
      go_upto_region 8 with (first | refine op_loadAt 24 HC.out rfl rfl rfl ?_ | (refine op_new 9 25 rfl rfl rfl rfl rfl rfl rfl ?_; intro W hZ hW) | fail)
      have HZ := Aside0.mk hZ
      have HW := Aside0.mk hW
      clear hZ hW HC
      have HX1 := Aside0.mk (blk_below HX.out HW.out)
      go_wp2_with (first | refine op_load 7 _ HX1.out rfl rfl rfl ?_ | refine op_load 9 _ HZ.out rfl rfl rfl ?_ | fail)
      refine (clash_Ops.calls k x B1 b1 B2 b2 y E1 d1 E2 d2 (pl x) (pl y) (tx x) (tx y) W (HO.out.below (below_then HB.out HB.out.size HW.out)) (HP.out.below (below_then HB.out HB.out.size HW.out)) HK.out HK2.out).mono ?_
      rintro e_ w1 ⟨rfl, hb⟩
      have HV := Aside0.mk (below_then HW.out HW.out.size hb)
      clear hb HZ HX1 HP HW
      have HX1 := Aside0.mk (blk_below HX.out HV.out)
      have HY1 := Aside0.mk (blk_below HY.out HV.out)
      have HR1 := Aside0.mk (Kd.R_below HR.out HV.out)
      have HB1 := Aside0.mk (below_then HB.out HB.out.size HV.out)
      clear HX HY HR HB HV
      have hfold : opsC x y (tx x) (tx y) (pl x) (pl y) = opsT tx pl x y := rfl
      rw [hfold]
      clear hfold
      generalize hz : opsT tx pl x y = z at *
      cases e1 : z == 0
      case true =>
        have h := HF1.out
        rw [if_pos (eq_of_beq e1)] at h
        have HF2 := Aside0.mk h
        have e2 : (z != 0) = false := by rw [bne, e1]; rfl
        clear h HF1 hz
        go_wp2
        go_roundg (J - 1)
        case measure => have := HNj.out; omega
        case rel => exact ⟨j + 1, out, by go_num, ⟨by have := HNj.out; omega⟩, HR1, HF2, HB1, HY1, HX1⟩
      have h := HF1.out
      rw [if_neg (by intro h0; rw [h0] at e1; cases e1)] at h
      have hlen : out.length + 1 ≤ 1000000 := by
        have := HS.out
        rw [h] at this
        simp only [List.length_append, List.length_cons] at this
        omega
      have HL := Aside0.mk (show (out.length + 1) * 16 ≤ 140737488355328 by omega)
      have HF2 : Aside0 (r = (out ++ [⟨(i : Int), (j : Int)⟩]) ++ (rowT (opsT tx pl) x i (l2.drop (j + 1)) (j + 1) ++ pairsT (opsT tx pl) l2 (l1.drop (i + 1)) (i + 1))) := ⟨by rw [h]; simp⟩
      have e2 : (z != 0) = true := by rw [bne, e1]; rfl
      clear h HF1 hz hlen
      have HI := Aside0.mk (R_int1 (below_size HB1.out) (i : Int) (j : Int))
      go_upto_region 9 with (fail)
      clear e1 e2
      go_wp2_with (first | ((with_reducible refine gate_builtin (b := .append) (xs := #[.tmp 30, .tmp 34]) rfl ?_); at_builtin; refine Kd.R_append_rows k45 (w0 := w) w.heap.size rfl (.tmp 30) (.tmp 34) 43 45 (.agg #[.int .i64 0, .int .i64 0]) 16 rfl Tryd.underlying43 info45 rfl (by decide) (by omega) _ out [⟨(i : Int), (j : Int)⟩] _ _ _ (fun _ => True) (fun _ => False) rfl rfl (Kd.R_alloc HR1.out (.cells #[.int .i64 (i : Int), .int .i64 (j : Int)] 45)) (Kd.R_reads' HI.out).2.2 (fun _ _ h => by obtain rfl := k45_open h; exact k45_mkM _ _ _ _) (fun _ h => h.elim) (fun _ _ => trivial) (below_alloc HB1.out (.cells #[.int .i64 (i : Int), .int .i64 (j : Int)] 45)) (below_size (below_alloc HB1.out (.cells #[.int .i64 (i : Int), .int .i64 (j : Int)] 45))) HL.out ?_; intro v5 w5 ho hb hg hat; have HX2 := Aside0.mk (blk_grown (blk_alloc HX1.out (.cells #[.int .i64 (i : Int), .int .i64 (j : Int)] 45)) hg (Kd.R_ne (Kd.R_alloc HR1.out (.cells #[.int .i64 (i : Int), .int .i64 (j : Int)] 45)) (blk_alloc HX1.out (.cells #[.int .i64 (i : Int), .int .i64 (j : Int)] 45)) (by decide))); have HY2 := Aside0.mk (blk_grown (blk_alloc HY1.out (.cells #[.int .i64 (i : Int), .int .i64 (j : Int)] 45)) hg (Kd.R_ne (Kd.R_alloc HR1.out (.cells #[.int .i64 (i : Int), .int .i64 (j : Int)] 45)) (blk_alloc HY1.out (.cells #[.int .i64 (i : Int), .int .i64 (j : Int)] 45)) (by decide))); have HR2 := Aside0.mk ho; have HB2 := Aside0.mk hb; clear ho hb hg hat) | fail)
      go_roundg (J - 1)
      case measure => have := HNj.out; omega
      case rel => exact ⟨j + 1, _, by go_num, ⟨by have := HNj.out; omega⟩, HR2, HF2, HB2, HY2, HX2⟩
end Go.Proofs.YtmimejckcknjfaaDoor.G
