/- ident.Meet, clash.hunks, and the predicates that they hand on: the walks. -/
import Derived.Test.YtmimejckcknjfaaDoorClashBase
import Derived.Shelf.Abstract
set_option linter.unusedVariables false
set_option linter.unusedSimpArgs false
namespace Go.Proofs.YtmimejckcknjfaaDoor.G
open Go.RowKit Go.Proofs.YtmimejckcknjfaaDoorW.PrintWords Go.Proofs.YtmimejckcknjfaaDoorW.PrintLast Go.Proofs.YtmimejckcknjfaaDoorW.PrintMore Go.Proofs.YtmimejckcknjfaaDoor.Plain

/-- Have lists one in common? -/
def meetI (a b : List S23) : Bool := a.any fun x => b.any (sameI x)
set_option maxHeartbeats 2000000 in
theorem pred_meet (A : Option Addr) (c : Nat) (l : List S23) (g : Nat) (w : World) (hk : w.heap[g]? = some (.cells #[.slice A l.length c] 24 (0, 0))) (hr : Kd.C k23 w A l.length l) :
    PredId 49 #[.pointer (some ⟨g, 0, none⟩)] (fun x => l.any (sameI x)) w := by
  intro W x hb
  have hk' := blk_below hk hb
  have hltW : g < W.heap.size := blk_lt hk'
  have hne : g ≠ W.heap.size := by omega
  have hd0 : W.cell? ⟨g, 0, none⟩ = some (.slice A l.length c) := (blk_cell hk' 0).trans rfl
  have HB0 := Aside0.mk ((Below.refl W.heap.size W).alloc (Nat.le_refl _) (.cells #[.string x.f0, .int .i64 x.f1] 23))
  have H := Aside0.mk (fun W hW => ident_Has.calls A c l x W hW)
  have HR := Aside0.mk (Kd.C_below hr hb)
  clear hk hr hb hk'
  show Calls Tryd.prog 49 #[.agg #[.string x.f0, .int .i64 x.f1], .pointer (some ⟨g, 0, none⟩)] W fun e w' => e = .returned (.bool (l.any (sameI x))) ∧ Below W.heap.size W w'
  generalize l.any (sameI x) = r at *
  go_enter Tryd.func49, Tryd.ntmps49
  go_wp2_with (fail)
  refine (H.out _ (Kd.C_alloc HR.out _)).mono ?_
  rintro e w' ⟨rfl, hb⟩
  have HB := Aside0.mk (below_then HB0.out HB0.out.size hb)
  clear hb H HB0
  go_wp2
  go_ret
  exact ⟨rfl, HB.out⟩
set_option maxHeartbeats 2000000 in
theorem ident_Meet.calls (A : Option Addr) (c : Nat) (a : List S23) (B : Option Addr) (d : Nat) (b : List S23) (w : World) (ha : Kd.C k23 w A a.length a) (hb : Kd.C k23 w B b.length b) :
    Calls Tryd.prog 35 #[.slice A a.length c, .slice B b.length d] w fun e w' => e = .returned (.bool (meetI a b)) ∧ Below w.heap.size w w' := by
  have HB0 := Aside0.mk ((Below.refl w.heap.size w).alloc (Nat.le_refl _) (.cells #[.slice B b.length d] 24))
  have HK0 := Aside0.mk (show (w.alloc (.cells #[.slice B b.length d] 24)).heap[w.heap.size]? = some (.cells #[.slice B b.length d] 24 (0, 0)) by simpa using heap_alloc_new w _)
  have H := Aside0.mk (fun W h1 h2 => containsFunc_Id 49 #[.pointer (some ⟨w.heap.size, 0, none⟩)] (fun x => b.any (sameI x)) (by intro args w; go_simp) A c a W h1 h2)
  have HP := Aside0.mk (pred_meet B d b w.heap.size _ HK0.out (Kd.C_alloc hb _))
  have HR := Aside0.mk (Kd.C_alloc ha (.cells #[.slice B b.length d] 24))
  clear ha hb HK0
  unfold meetI
  generalize a.any (fun x => b.any (sameI x)) = r at *
  go_enter Tryd.func35, Tryd.ntmps35
  go_wp2_with (fail)
  refine (H.out _ HR.out HP.out).mono ?_
  rintro e w' ⟨rfl, hb⟩
  have HB := Aside0.mk (below_then HB0.out HB0.out.size hb)
  clear hb H HB0
  go_wp2
  go_ret
  exact ⟨rfl, HB.out⟩

/-! ### the meeting of two hunks -/
/-- Do a hunk's lines that go meet what another one names? -/
def touchC (x y : S27) : Bool := meetI x.f8 (y.f6 :: y.f7 :: y.f8)
theorem touch_cells {x y : S27} {A B A2 B2 : Option Addr} {c d c2 d2 g g2 : Nat} {W : World} (hx : W.heap[g]? = some (.cells (opCs x A c B d) 27 (0, 0))) (hy : W.heap[g2]? = some (.cells (opCs y A2 c2 B2 d2) 27 (0, 0))) :
    W.cell? ⟨g, 13, none⟩ = some (.slice A x.f8.length c) ∧ W.cell? ⟨g2, 9, none⟩ = some (.string y.f6.f0) ∧ W.cell? ⟨g2, 10, none⟩ = some (.int .i64 y.f6.f1) ∧ W.cell? ⟨g2, 11, none⟩ = some (.string y.f7.f0) ∧ W.cell? ⟨g2, 12, none⟩ = some (.int .i64 y.f7.f1) ∧ W.cell? ⟨g2, 13, none⟩ = some (.slice A2 y.f8.length c2) :=
  ⟨(blk_cell hx 13).trans rfl, (blk_cell hy 9).trans rfl, (blk_cell hy 10).trans rfl, (blk_cell hy 11).trans rfl, (blk_cell hy 12).trans rfl, (blk_cell hy 13).trans rfl⟩
set_option maxHeartbeats 4000000 in
set_option maxRecDepth 100000 in
theorem clash_hunks_1.calls (x : S27) (A : Option Addr) (c : Nat) (B : Option Addr) (d : Nat) (y : S27) (A2 : Option Addr) (c2 : Nat) (B2 : Option Addr) (d2 : Nat) (w : World) (hx : OpAt w x A c B d) (hy : OpAt w y A2 c2 B2 d2) (hl : y.f8.length ≤ 1000000) :
    Calls Tryd.prog 34 #[opV x A c B d, opV y A2 c2 B2 d2] w fun e w' => e = .returned (.bool (touchC x y)) ∧ Below w.heap.size w w' := by
  have HR := Aside0.mk hx.r8
  have HR2 := Aside0.mk hy.r8
  have HZ := Aside0.mk hl
  clear hx hy hl
  have hlen : (y.f6 :: y.f7 :: y.f8).length = 2 + y.f8.length := by simp; omega
  have HM : Aside0 (∀ (A3 : Option Addr) (c3 : Nat) (W : World), Kd.C k23 W A x.f8.length x.f8 → Kd.C k23 W A3 (2 + y.f8.length) (y.f6 :: y.f7 :: y.f8) → Calls Tryd.prog 35 #[.slice A x.f8.length c, .slice A3 (2 + y.f8.length) c3] W fun e w' => e = .returned (.bool (meetI x.f8 (y.f6 :: y.f7 :: y.f8))) ∧ Below W.heap.size W w') := ⟨fun A3 c3 W h1 h2 => by have h := ident_Meet.calls A c x.f8 A3 c3 (y.f6 :: y.f7 :: y.f8) W h1 (by rw [hlen]; exact h2); rw [hlen] at h; exact h⟩
  unfold touchC
  generalize meetI x.f8 (y.f6 :: y.f7 :: y.f8) = r at *
  go_enter Tryd.func34, Tryd.ntmps34
  go_wp2_with (fail)
  obtain ⟨W, hW⟩ : ∃ W, W = (w.alloc (.cells (opCs x A c B d) 27)).alloc (.cells (opCs y A2 c2 B2 d2) 27) := ⟨_, rfl⟩
  have HX : Aside0 (W.heap[w.heap.size]? = some (.cells (opCs x A c B d) 27 (0, 0))) := ⟨by rw [hW]; exact blk_alloc (heap_alloc_new w _) _⟩
  have HY : Aside0 (W.heap[w.heap.size + 1]? = some (.cells (opCs y A2 c2 B2 d2) 27 (0, 0))) := ⟨by rw [hW]; simpa using heap_alloc_new (w.alloc (.cells (opCs x A c B d) 27)) (.cells (opCs y A2 c2 B2 d2) 27)⟩
  have HB : Aside0 (Below w.heap.size w W) := ⟨by rw [hW]; exact below_alloc (below_alloc (Below.refl _ _) _) _⟩
  rw [← hW]
  clear hW
  obtain ⟨x0, y0, y1, y2, y3, y4⟩ := touch_cells HX.out HY.out
  have HX1 := Aside0.mk (blk_drew (blk_alloc HX.out (.cells #[.string y.f6.f0, .int .i64 y.f6.f1, .string y.f7.f0, .int .i64 y.f7.f1] 23)))
  have HY1 := Aside0.mk (blk_drew (blk_alloc HY.out (.cells #[.string y.f6.f0, .int .i64 y.f6.f1, .string y.f7.f0, .int .i64 y.f7.f1] 23)))
  have HB1 := Aside0.mk (below_drew (below_alloc HB.out (.cells #[.string y.f6.f0, .int .i64 y.f6.f1, .string y.f7.f0, .int .i64 y.f7.f1] 23)))
  have HI1 := Aside0.mk (Kd.R_drew (R_ids2 (below_size HB.out) y.f6 y.f7))
  have HR3 := Aside0.mk (Kd.C_below HR2.out HB1.out)
  go_region_held3 (fun w' => w'.cell? ⟨w.heap.size, 13, none⟩ = some (.slice A x.f8.length c) ∧ w'.cell? ⟨w.heap.size + 1, 9, none⟩ = some (.string y.f6.f0) ∧ w'.cell? ⟨w.heap.size + 1, 10, none⟩ = some (.int .i64 y.f6.f1) ∧ w'.cell? ⟨w.heap.size + 1, 11, none⟩ = some (.string y.f7.f0) ∧ w'.cell? ⟨w.heap.size + 1, 12, none⟩ = some (.int .i64 y.f7.f1) ∧ w'.cell? ⟨w.heap.size + 1, 13, none⟩ = some (.slice A2 y.f8.length c2)) (first | exact ⟨x0, y0, y1, y2, y3, y4⟩ | go_keep) (first | (have z_ := H3; clear z_; go_at_call 35; refine (HM.out _ _ _ (Kd.C_below HR.out HB2.out) H3.out).mono ?_; rintro e_ w6 ⟨rfl, hb⟩; have HX3 := Aside0.mk (blk_below HX2.out hb); have HY3 := Aside0.mk (blk_below HY2.out hb); have HB3 := Aside0.mk (below_then HB2.out HB2.out.size hb); clear hb x0 y0 y1 y2 y3 y4; obtain ⟨x0, y0, y1, y2, y3, y4⟩ := touch_cells HX3.out HY3.out) | (apply Kd.R_append_rows_step k23 (w0 := w) w.heap.size ?hw (.tmp 11) (.tmp 13) 24 23 (.agg #[.string ⟨#[]⟩, .int .i64 0]) 24 ?ho ?ht ?hi ?hz ?hs0 ?hb0 ?v [y.f6, y.f7] y.f8 ?A ?m ?c (fun _ => True) (fun _ => False) ?hs ?hx ?HO ?HR ?hKM ?hokp ?hfresh ?HB ?hbase ?aL; (case hw => rfl); (case ho => rfl); (case ht => exact Tryd.underlying24); (case hi => exact info23); (case hz => rfl); (case hs0 => decide); (case hb0 => omega); (case hs => rfl); (case hx => rfl); (case HO => exact HI1.out); (case HR => exact HR3.out); (case hKM => intro _ _ h; obtain rfl := k23_open h; exact k23_mkM _ _ _ _); (case hokp => exact fun _ h => h.elim); (case hfresh => exact fun _ _ => trivial); (case HB => exact HB1.out); (case hbase => exact below_size HB1.out); (case aL => have hz_ := HZ.out; simp only [List.length_cons, List.length_nil] at *; omega); intro v5 w5 ho hb hg hat; clear hat; have HX2 := Aside0.mk (blk_grown HX1.out hg (Kd.R_ne HI1.out HX1.out (by decide))); have HY2 := Aside0.mk (blk_grown HY1.out hg (Kd.R_ne HI1.out HY1.out (by decide))); have HB2 := Aside0.mk hb; obtain ⟨A3, c3, rfl⟩ := Kd.R_slice ho; have H3 : Aside0 (Kd.C k23 w5 A3 (2 + y.f8.length) (y.f6 :: y.f7 :: y.f8)) := ⟨by have q := (Kd.R_reads' ho).2.2; rw [show ([y.f6, y.f7] ++ y.f8).length = 2 + y.f8.length from hlen] at q; exact q⟩; clear ho hb hg x0 y0 y1 y2 y3 y4; obtain ⟨x0, y0, y1, y2, y3, y4⟩ := touch_cells HX2.out HY2.out) | fail)
  clear HX HY HX1 HY1 HB1 HI1 HR3 HX2 HY2 HB2 H3 HX3 HY3 x0 y0 y1 y2 y3 y4 HM HR HR2
  go_wp2
  go_ret
  exact ⟨rfl, HB3.out⟩
/-- Do two hunks of one file clash? -/
def hunksC (x y : S27) : Bool := sameI x.f6 y.f6 || (sameI x.f7 y.f7 || (touchC x y || touchC y x))
set_option maxHeartbeats 4000000 in
set_option maxRecDepth 100000 in
attribute [local go_sem high] eqA23 in
theorem clash_hunks.calls (x : S27) (A : Option Addr) (c : Nat) (B : Option Addr) (d : Nat) (y : S27) (A2 : Option Addr) (c2 : Nat) (B2 : Option Addr) (d2 : Nat) (w : World) (hx : OpAt w x A c B d) (hy : OpAt w y A2 c2 B2 d2) (hl : x.f8.length ≤ 1000000) (hl2 : y.f8.length ≤ 1000000) :
    Calls Tryd.prog 21 #[opV x A c B d, opV y A2 c2 B2 d2] w fun e w' => e = .returned (.bool (hunksC x y)) ∧ Below w.heap.size w w' := by
  obtain ⟨r, hr⟩ : ∃ r, r = hunksC x y := ⟨_, rfl⟩
  rw [← hr]
  have HX0 := Aside0.mk hx
  have HY0 := Aside0.mk hy
  have hu := Tryd.underlying23
  have H1 := Aside0.mk (fun W h1 h2 => clash_hunks_1.calls x A c B d y A2 c2 B2 d2 W h1 h2 hl2)
  have H2 := Aside0.mk (fun W h1 h2 => clash_hunks_1.calls y A2 c2 B2 d2 x A c B d W h1 h2 hl)
  clear hx hy hl hl2
  unfold hunksC sameI at hr
  have HH := Aside0.mk hr
  clear hr
  go_enter Tryd.func21, Tryd.ntmps21
  go_upto_region 2 with (fail)
  obtain ⟨W, hW⟩ : ∃ W, W = (w.alloc (.cells (opCs x A c B d) 27)).alloc (.cells (opCs y A2 c2 B2 d2) 27) := ⟨_, rfl⟩
  have HX : Aside0 (W.heap[w.heap.size]? = some (.cells (opCs x A c B d) 27 (0, 0))) := ⟨by rw [hW]; exact blk_alloc (heap_alloc_new w _) _⟩
  have HY : Aside0 (W.heap[w.heap.size + 1]? = some (.cells (opCs y A2 c2 B2 d2) 27 (0, 0))) := ⟨by rw [hW]; simpa using heap_alloc_new (w.alloc (.cells (opCs x A c B d) 27)) (.cells (opCs y A2 c2 B2 d2) 27)⟩
  have HB : Aside0 (Below w.heap.size w W) := ⟨by rw [hW]; exact below_alloc (below_alloc (Below.refl _ _) _) _⟩
  rw [← hW]
  clear hW
  obtain ⟨x0, x1, x2, x3, x4, x5, x6, x7, x8, x9, x10, x11, x12, x13, x14, x15⟩ := op_cells HX.out
  obtain ⟨y0, y1, y2, y3, y4, y5, y6, y7, y8, y9, y10, y11, y12, y13, y14, y15⟩ := op_cells HY.out
  cases b1 : (x.f6.f0.toList == y.f6.f0.toList && x.f6.f1 == y.f6.f1)
  case true =>
    rw [b1] at HH
    go_wp2_with (fail)
    go_ret
    exact ⟨by rw [HH.out]; simp, HB.out⟩
  rw [b1] at HH
  cases b2 : (x.f7.f0.toList == y.f7.f0.toList && x.f7.f1 == y.f7.f1)
  case true =>
    rw [b2] at HH
    go_wp2_with (fail)
    go_ret
    exact ⟨by rw [HH.out]; simp, HB.out⟩
  rw [b2] at HH
  go_wp2_with (fail)
  refine (H1.out _ (HX0.out.below HB.out) (HY0.out.below HB.out)).mono ?_
  rintro e_ w1 ⟨rfl, hb⟩
  have HX1 := Aside0.mk (blk_below HX.out hb)
  have HY1 := Aside0.mk (blk_below HY.out hb)
  have HB1 := Aside0.mk (below_then HB.out HB.out.size hb)
  clear hb HX HY HB H1 x0 x1 x2 x3 x4 x5 x6 x7 x8 x9 x10 x11 x12 x13 x14 x15 y0 y1 y2 y3 y4 y5 y6 y7 y8 y9 y10 y11 y12 y13 y14 y15
  obtain ⟨x0, x1, x2, x3, x4, x5, x6, x7, x8, x9, x10, x11, x12, x13, x14, x15⟩ := op_cells HX1.out
  obtain ⟨y0, y1, y2, y3, y4, y5, y6, y7, y8, y9, y10, y11, y12, y13, y14, y15⟩ := op_cells HY1.out
  cases b3 : touchC x y
  case true =>
    rw [b3] at HH
    go_wp2_with (fail)
    go_ret
    exact ⟨by rw [HH.out]; simp, HB1.out⟩
  rw [b3] at HH
  go_wp2_with (fail)
  refine (H2.out _ (HY0.out.below HB1.out) (HX0.out.below HB1.out)).mono ?_
  rintro e_ w2 ⟨rfl, hb⟩
  have HB2 := Aside0.mk (below_then HB1.out HB1.out.size hb)
  clear hb
  go_wp2
  go_ret
  exact ⟨by rw [HH.out]; simp, HB2.out⟩
end Go.Proofs.YtmimejckcknjfaaDoor.G
