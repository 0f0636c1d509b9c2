-- Words of the kit's print (as it laid them for this seat); what this claim does not use is left out.
import Derived.Test.YtloibeefopdhpaaDoorG8
import Derived.Test.YtloibeefopdhpaaDoorIndexByte
import Derived.Deep.RegionLaw
import Derived.Outline
import Derived.Shelf.Abstract
set_option linter.unusedVariables false
namespace Go.Proofs.YtloibeefopdhpaaDoor.G
open Go.RowKit Go.Proofs.YtloibeefopdhpaaDoorW.PrintWords Go.Proofs.YtloibeefopdhpaaDoorW.PrintLast Go.Proofs.YtloibeefopdhpaaDoorW.PrintMore Go.Proofs.YtloibeefopdhpaaDoor.Plain
def PredS (g : Nat) (lb : Array Value) (p : S93 → Bool) (w : World) : Prop :=
  ∀ (W : World) (x : S93), Below w.heap.size w W → Calls Tryd.prog g (#[.agg #[.string x.f0, .int .i64 x.f1, .int .i64 x.f2, .int .i64 x.f3, .int .i64 x.f4, .bool x.f5]] ++ lb) W fun e w' => e = .returned (.bool (p x)) ∧ Below W.heap.size W w'
theorem PredS.later {g : Nat} {lb : Array Value} {p : S93 → Bool} {w w1 : World} (h : PredS g lb p w) (hb : Below w.heap.size w w1) : PredS g lb p w1 := fun W x hW => h W x (below_then hb hb.size hW)
def idxS (p : S93 → Bool) : List S93 → Nat → Int
  | [], _ => -1
  | x :: l, i => if p x = true then (i : Int) else idxS p l (i + 1)
set_option maxHeartbeats 2000000 in
set_option maxRecDepth 100000 in
theorem index_shapes (g : Nat) (lb : Array Value) (p : S93 → Bool) (eg : ∀ args w, (callFunc g args).run Tryd.prog w = .ok (.enter g args) w) (A : Option Addr) (c : Nat) (l : List S93) (w : World)
    (hr : Kd.C k93 w A l.length l) (hp : PredS g lb p w) :
    Calls Tryd.prog 115 #[.slice A l.length c, .func (.func g) #[] lb] w fun e w' => e = .returned (.int .i64 (idxS p l 0)) ∧ Below w.heap.size w w' := by
  have hm := Kd.C_max hr
  have HR := Aside0.mk hr
  have HP := Aside0.mk hp
  clear hr hp
  obtain ⟨r, hres⟩ : ∃ r, r = idxS p l 0 := ⟨_, rfl⟩
  rw [← hres]
  have HF := Aside0.mk hres
  clear hres
  go_enter Tryd.func115, Tryd.ntmps115
  go_wp2
  go_loopg [5, 8] l.length (fun gg _ s8 wr => ∃ i : Nat, s8 = .int .i64 i ∧ Aside0 (i + gg = l.length) ∧ Aside0 (Below w.heap.size w wr) ∧ Aside0 (r = idxS p (l.drop i) i))
  case atStart => exact ⟨0, rfl, ⟨by omega⟩, ⟨Below.refl _ w⟩, by simpa using HF⟩
  case round =>
    clear HF
    obtain ⟨i, rfl, HN, HB, HF⟩ := hrel
    by_cases hi : i < l.length
    · have hd0 : l.drop i = l[i] :: l.drop (i + 1) := List.drop_eq_getElem_cons hi
      have H := HF.out
      clear HF
      rw [hd0, idxS] at H
      have hx := at_T93 HR.out (i : Int) (by omega) (by omega)
      have e1 : rd_T93 l (i : Int) = l[i] := by simp [rd_T93, hi]
      rw [e1, Int.toNat_natCast] at hx
      have hcall := HP.out wr l[i] HB.out
      clear hd0 e1
      generalize l[i] = x at hx H hcall
      obtain ⟨ad, e0, x0, x1, x2, x3, x4, x5⟩ := hx
      cases e0
      have hbl : ∀ q : Addr, ∀ u, w.cell? q = some u → wr.cell? q = some u := fun q u hq => (HB.out.cell (World.block_lt_of_cell? w _ hq)).trans hq
      replace x0 := hbl _ _ x0
      replace x1 := hbl _ _ x1
      replace x2 := hbl _ _ x2
      replace x3 := hbl _ _ x3
      replace x4 := hbl _ _ x4
      replace x5 := hbl _ _ x5
      clear hbl
      have hi' : (i : Int) < (l.length : Int) := by omega
      have HC := Aside0.mk hcall
      clear hcall
      cases hq : p x with
      | true =>
        rw [hq, if_pos rfl] at H
        have HH := Aside0.mk H
        rw [hq] at HC
        clear H hq
        go_wp2
        refine HC.out.mono ?_
        rintro e w' ⟨rfl, hb1'⟩
        have hb' := below_then HB.out HB.out.size hb1'
        go_wp2
        go_ret
        exact ⟨by rw [HH.out]; rfl, hb'⟩
      | false =>
        rw [hq, if_neg (by decide)] at H
        have HH := Aside0.mk H
        rw [hq] at HC
        clear H hq
        go_wp2
        refine HC.out.mono ?_
        rintro e w' ⟨rfl, hb1'⟩
        have hb' := below_then HB.out HB.out.size hb1'
        go_wp2
        go_roundg (gk - 1)
        case measure => have := HN.out; omega
        case rel => exact ⟨i + 1, by go_num, ⟨by have := HN.out; omega⟩, ⟨hb'⟩, HH⟩
    · have hge : l.length ≤ i := by omega
      have H := HF.out
      rw [List.drop_eq_nil_of_le hge, idxS] at H
      have HH := Aside0.mk H
      have hi' : ¬ (i : Int) < (l.length : Int) := by omega
      clear H HF
      go_wp2
      go_ret
      exact ⟨by rw [HH.out]; rfl, HB.out⟩
theorem put6 {W : World} {g t : Nat} {a b c d e f c0 c1 c2 c3 c4 c5 : Value} (h : W.heap[g]? = some (.cells #[c0, c1, c2, c3, c4, c5] t (0, 0))) :
    ((((((W.setCell ⟨g, 0, none⟩ a).setCell ⟨g, 1, none⟩ b).setCell ⟨g, 2, none⟩ c).setCell ⟨g, 3, none⟩ d).setCell ⟨g, 4, none⟩ e).setCell ⟨g, 5, none⟩ f).heap[g]? = some (.cells #[a, b, c, d, e, f] t (0, 0)) := by
  refine blk_put (cs := #[a, b, c, d, e, c5]) ?_ 5 _ rfl
  refine blk_put (cs := #[a, b, c, d, c4, c5]) ?_ 4 _ rfl
  refine blk_put (cs := #[a, b, c, c3, c4, c5]) ?_ 3 _ rfl
  refine blk_put (cs := #[a, b, c2, c3, c4, c5]) ?_ 2 _ rfl
  refine blk_put (cs := #[a, c1, c2, c3, c4, c5]) ?_ 1 _ rfl
  exact blk_put h 0 _ rfl
theorem below6 {W0 W : World} {g : Nat} {a b c d e f : Value} (h : Below W0.heap.size W0 W) (hg : W0.heap.size ≤ g) : Below W0.heap.size W0 ((((((W.setCell ⟨g, 0, none⟩ a).setCell ⟨g, 1, none⟩ b).setCell ⟨g, 2, none⟩ c).setCell ⟨g, 3, none⟩ d).setCell ⟨g, 4, none⟩ e).setCell ⟨g, 5, none⟩ f) :=
  below_set (below_set (below_set (below_set (below_set (below_set h hg) hg) hg) hg) hg) hg
def shapesL : List S93 := cmd_shapes.f.getD []
theorem shapes_eq : cmd_shapes.f = some shapesL := rfl
def findS (p : S93 → Bool) : List S93 → S93 × Bool
  | [] => (z93, false)
  | x :: l => if p x = true then (x, true) else findS p l
theorem idxS_find (p : S93 → Bool) : ∀ (l : List S93) (i : Nat), (idxS p l i = -1 ∧ findS p l = (z93, false)) ∨ ∃ j, j < l.length ∧ idxS p l i = ((i + j : Nat) : Int) ∧ findS p l = (l.getD j z93, true)
  | [], i => .inl ⟨rfl, rfl⟩
  | x :: l, i => by
    rw [idxS, findS]
    by_cases h : p x = true
    · rw [if_pos h, if_pos h]
      exact .inr ⟨0, by simp, by simp, by simp⟩
    · rw [if_neg h, if_neg h]
      rcases idxS_find p l (i + 1) with h1 | ⟨j, h1, h2, h3⟩
      · exact .inl h1
      · exact .inr ⟨j + 1, by simp; omega, by rw [h2]; omega, by rw [h3]; simp⟩
set_option maxHeartbeats 2000000 in
set_option maxRecDepth 100000 in
theorem find_shape (g : Nat) (lb : Array Value) (p : S93 → Bool) (eg : ∀ args w, (callFunc g args).run Tryd.prog w = .ok (.enter g args) w) (w : World) (hp : PredS g lb p w) (s : S93) (b : Bool) (hs : findS p shapesL = (s, b)) :
    Calls Tryd.prog 68 #[.func (.func g) #[] lb] w fun e w' => e = .returned (.tuple #[.agg #[.string s.f0, .int .i64 s.f1, .int .i64 s.f2, .int .i64 s.f3, .int .i64 s.f4, .bool s.f5], .bool b]) ∧ Below w.heap.size w w' := by
  have HP := Aside0.mk hp
  have hI := idxS_find p shapesL 0
  rw [hs] at hI
  clear hp hs
  have HS := Aside0.mk (fun W : World => cmd_shapes.calls shapesL W shapes_eq)
  have HX := Aside0.mk (fun (A : Option Addr) (c : Nat) (W : World) (hr : Kd.C k93 W A shapesL.length shapesL) (hp : PredS g lb p W) => index_shapes g lb p eg A c shapesL W hr hp)
  have hlen : shapesL.length ≤ 1000 := by decide
  clear eg
  generalize shapesL = L at *
  obtain ⟨r, hr⟩ : ∃ r, r = idxS p L 0 := ⟨_, rfl⟩
  rw [← hr] at hI HX
  clear hr
  have HB : Aside0 (Below w.heap.size w (w.alloc (.cells #[.string ⟨#[]⟩, .int .i64 0, .int .i64 0, .int .i64 0, .int .i64 0, .bool false] 93))) := ⟨(Below.refl _ w).alloc (Nat.le_refl _) _⟩
  have HK : Aside0 ((w.alloc (.cells #[.string ⟨#[]⟩, .int .i64 0, .int .i64 0, .int .i64 0, .int .i64 0, .bool false] 93)).heap[w.heap.size]? = some (.cells #[.string ⟨#[]⟩, .int .i64 0, .int .i64 0, .int .i64 0, .int .i64 0, .bool false] 93 (0, 0))) := ⟨by simpa using heap_alloc_new w _⟩
  rcases hI with ⟨hr, he⟩ | ⟨j, hj, hr, he⟩
  · injection he with he1 he2
    subst he1 he2 hr
    go_enter Tryd.func68, Tryd.ntmps68
    go_wp2_with (first | (go_at_call 114; refine (HS.out _).mono ?_; rintro e w1 ⟨v1, rfl, hR1, hB1⟩; obtain ⟨A1, c1, rfl, hc1, hC1⟩ := Kd.R_reads hR1; have HC1 := Aside0.mk hC1; have HK1 := Aside0.mk (blk_below HK.out hB1); have HB1 := Aside0.mk (below_then HB.out HB.out.size hB1); clear hR1 hB1 hC1) | (go_at_call 115; refine (HX.out _ _ _ HC1.out (HP.out.later HB1.out)).mono ?_; rintro e w2 ⟨rfl, hB2⟩; have HK2 := Aside0.mk (blk_below HK1.out hB2); have HB2 := Aside0.mk (below_then HB1.out HB1.out.size hB2); have hf2 := blk_frozen HK2.out; have hd0 := blk_cell HK2.out 0; have hd1 := blk_cell HK2.out 1; have hd2 := blk_cell HK2.out 2; have hd3 := blk_cell HK2.out 3; have hd4 := blk_cell HK2.out 4; have hd5 := blk_cell HK2.out 5; clear hB2))
    refine bodyPost_ret (results_ct rfl _ _ w.heap.size 93 #[.string ⟨#[]⟩, .int .i64 0, .int .i64 0, .int .i64 0, .int .i64 0, .bool false] (0, 0) _ rfl (put6 HK2.out) Tryd.underlying93 rfl (by kernel_rfl)) rfl ?_
    exact ⟨rfl, below6 HB2.out (Nat.le_refl _)⟩
  · injection he with he1 he2
    rw [Nat.zero_add] at hr
    have hjr : (j : Int) < (L.length : Int) := by omega
    have hx := fun (A : Option Addr) (W : World) (h : Kd.C k93 W A L.length L) => at_T93 h (j : Int) (by omega) (by omega)
    have e1 : rd_T93 L (j : Int) = s := by rw [rd_T93, Int.toNat_natCast, he1]
    rw [e1, Int.toNat_natCast] at hx
    have HA := Aside0.mk hx
    subst he2 hr
    clear he1 e1 hx
    go_enter Tryd.func68, Tryd.ntmps68
    go_wp2_with (first | (go_at_call 114; refine (HS.out _).mono ?_; rintro e w1 ⟨v1, rfl, hR1, hB1⟩; obtain ⟨A1, c1, rfl, hc1, hC1⟩ := Kd.R_reads hR1; have HC1 := Aside0.mk hC1; have HK1 := Aside0.mk (blk_below HK.out hB1); have HB1 := Aside0.mk (below_then HB.out HB.out.size hB1); clear hR1 hB1 hC1) | (go_at_call 115; refine (HX.out _ _ _ HC1.out (HP.out.later HB1.out)).mono ?_; rintro e w2 ⟨rfl, hB2⟩; have HK2 := Aside0.mk (blk_below HK1.out hB2); have HB2 := Aside0.mk (below_then HB1.out HB1.out.size hB2); have hf2 := blk_frozen HK2.out; have hd0 := blk_cell HK2.out 0; have hd1 := blk_cell HK2.out 1; have hd2 := blk_cell HK2.out 2; have hd3 := blk_cell HK2.out 3; have hd4 := blk_cell HK2.out 4; have hd5 := blk_cell HK2.out 5; obtain ⟨ad, e0, x0, x1, x2, x3, x4, x5⟩ := HA.out _ _ (Kd.C_below HC1.out hB2); cases e0; clear hB2))
    refine bodyPost_ret (results_ct rfl _ _ w.heap.size 93 #[.string s.f0, .int .i64 s.f1, .int .i64 s.f2, .int .i64 s.f3, .int .i64 s.f4, .bool s.f5] (0, 0) _ rfl (put6 HK2.out) Tryd.underlying93 rfl (by kernel_rfl)) rfl ?_
    exact ⟨rfl, below6 HB2.out (Nat.le_refl _)⟩
def stepP (a0 a3 a6 : Int) (s : S93) : Bool := (s.f1 == a0) && ((s.f1 != 1) || (s.f2 == a3)) && ((s.f1 != 1) || (s.f2 != 0) || (s.f3 == a6))
set_option maxHeartbeats 4000000 in
set_option maxRecDepth 100000 in
theorem pred_step (a0 a3 a6 : Int) (u1 u2 u4 u5 u7 u8 u9 : Value) (g : Nat) (w : World) (hk : w.heap[g]? = some (.cells #[.int .i64 a0, u1, u2, .int .i64 a3, u4, u5, .int .i64 a6, u7, u8, u9] 34 (0, 0))) :
    PredS 111 #[.pointer (some ⟨g, 0, none⟩)] (stepP a0 a3 a6) w := by
  intro W x hb
  have hlt : g < w.heap.size := blk_lt hk
  have hk' := blk_below hk hb
  have hltW : g < W.heap.size := blk_lt hk'
  have hne : g ≠ W.heap.size := by omega
  have hd0 : W.cell? ⟨g, 0, none⟩ = some (.int .i64 a0) := (blk_cell hk' 0).trans rfl
  have hd3 : W.cell? ⟨g, 3, none⟩ = some (.int .i64 a3) := (blk_cell hk' 3).trans rfl
  have hd6 : W.cell? ⟨g, 6, none⟩ = some (.int .i64 a6) := (blk_cell hk' 6).trans rfl
  have HW := Aside0.mk ((Below.refl W.heap.size W).alloc (Nat.le_refl _) (.cells #[.string x.f0, .int .i64 x.f1, .int .i64 x.f2, .int .i64 x.f3, .int .i64 x.f4, .bool x.f5] 93))
  clear hk hk' hb hlt
  show Calls Tryd.prog 111 #[.agg #[.string x.f0, .int .i64 x.f1, .int .i64 x.f2, .int .i64 x.f3, .int .i64 x.f4, .bool x.f5], .pointer (some ⟨g, 0, none⟩)] W _
  obtain ⟨x0, x1, x2, x3, x4, x5⟩ := x
  dsimp only at *
  unfold stepP
  cases k1 : (x1 == a0)
  all_goals
    cases k2 : (x1 != 1)
    all_goals
      cases k3 : (x2 == a3)
      all_goals
        cases k4 : (x2 != 0)
        all_goals
          cases k5 : (x3 == a6)
          all_goals
            go_enter Tryd.func111, Tryd.ntmps111
            go_wp2
            go_ret
            exact ⟨by first | rfl | simp [k1, k2, k3, k4, k5], HW.out⟩
def cmd_shapeOf.f (a0_0 : Int) (a0_1 : ByteArray) (a0_2 : ByteArray) (a0_3 : Int) (a0_4 : ByteArray) (l0_5 : List ByteArray) (a0_6 : Int) (a0_7 : ByteArray) (a0_8 : ByteArray) (l0_9 : List ByteArray) : Option (ByteArray × Int × Int × Int × Int × Bool × Bool) :=
  some ((findS (stepP a0_0 a0_3 a0_6) shapesL).1.f0, (findS (stepP a0_0 a0_3 a0_6) shapesL).1.f1, (findS (stepP a0_0 a0_3 a0_6) shapesL).1.f2, (findS (stepP a0_0 a0_3 a0_6) shapesL).1.f3, (findS (stepP a0_0 a0_3 a0_6) shapesL).1.f4, (findS (stepP a0_0 a0_3 a0_6) shapesL).1.f5, (findS (stepP a0_0 a0_3 a0_6) shapesL).2)
set_option maxHeartbeats 2000000 in
set_option maxRecDepth 100000 in
theorem cmd_shapeOf.calls (a0_0 : Int) (a0_1 : ByteArray) (a0_2 : ByteArray) (a0_3 : Int) (a0_4 : ByteArray) (A0_5 : Option Addr) (c0_5 : Nat) (l0_5 : List ByteArray) (a0_6 : Int) (a0_7 : ByteArray) (a0_8 : ByteArray) (A0_9 : Option Addr) (c0_9 : Nat) (l0_9 : List ByteArray) (r1 : ByteArray) (r2 : Int) (r3 : Int) (r4 : Int) (r5 : Int) (r6 : Bool) (r7 : Bool) (w : World) (hr0_5 : Kd.C Kd.string w A0_5 l0_5.length l0_5) (hc0_5 : l0_5.length ≤ c0_5) (hr0_9 : Kd.C Kd.string w A0_9 l0_9.length l0_9) (hc0_9 : l0_9.length ≤ c0_9) (h : cmd_shapeOf.f a0_0 a0_1 a0_2 a0_3 a0_4 l0_5 a0_6 a0_7 a0_8 l0_9 = some (r1, r2, r3, r4, r5, r6, r7)) :
    Calls Tryd.prog 65 #[.agg #[.int .i64 a0_0, .string a0_1, .string a0_2, .int .i64 a0_3, .string a0_4, .slice A0_5 l0_5.length c0_5, .int .i64 a0_6, .string a0_7, .string a0_8, .slice A0_9 l0_9.length c0_9]] w fun e w' => e = .returned (.tuple #[.agg #[.string r1, .int .i64 r2, .int .i64 r3, .int .i64 r4, .int .i64 r5, .bool r6], .bool r7]) ∧ Below w.heap.size w w' := by
  unfold cmd_shapeOf.f at h
  obtain ⟨⟨s, b⟩, hs⟩ : ∃ q, q = findS (stepP a0_0 a0_3 a0_6) shapesL := ⟨_, rfl⟩
  rw [← hs] at h
  injection h with h
  simp only [Prod.mk.injEq] at h
  obtain ⟨rfl, rfl, rfl, rfl, rfl, rfl, rfl⟩ := h
  clear hr0_5 hc0_5 hr0_9 hc0_9
  have HK : Aside0 (((w.alloc (.cells #[.int .i64 a0_0, .string a0_1, .string a0_2, .int .i64 a0_3, .string a0_4, .slice A0_5 l0_5.length c0_5, .int .i64 a0_6, .string a0_7, .string a0_8, .slice A0_9 l0_9.length c0_9] 34)).alloc (.cells #[.string ⟨#[]⟩, .int .i64 0, .int .i64 0, .int .i64 0, .int .i64 0, .bool false] 93)).heap[w.heap.size + 1]? = some (.cells #[.string ⟨#[]⟩, .int .i64 0, .int .i64 0, .int .i64 0, .int .i64 0, .bool false] 93 (0, 0))) := ⟨by
    have := heap_alloc_new (w.alloc (.cells #[.int .i64 a0_0, .string a0_1, .string a0_2, .int .i64 a0_3, .string a0_4, .slice A0_5 l0_5.length c0_5, .int .i64 a0_6, .string a0_7, .string a0_8, .slice A0_9 l0_9.length c0_9] 34)) (.cells #[.string ⟨#[]⟩, .int .i64 0, .int .i64 0, .int .i64 0, .int .i64 0, .bool false] 93)
    simpa using this⟩
  have HB : Aside0 (Below w.heap.size w ((w.alloc (.cells #[.int .i64 a0_0, .string a0_1, .string a0_2, .int .i64 a0_3, .string a0_4, .slice A0_5 l0_5.length c0_5, .int .i64 a0_6, .string a0_7, .string a0_8, .slice A0_9 l0_9.length c0_9] 34)).alloc (.cells #[.string ⟨#[]⟩, .int .i64 0, .int .i64 0, .int .i64 0, .int .i64 0, .bool false] 93))) := ⟨((Below.refl _ w).alloc (Nat.le_refl _) _).alloc (by simp) _⟩
  have HF := Aside0.mk (find_shape 111 #[.pointer (some ⟨w.heap.size, 0, none⟩)] (stepP a0_0 a0_3 a0_6) (enters_of Tryd.func111 (by kernel_rfl) rfl) ((w.alloc (.cells #[.int .i64 a0_0, .string a0_1, .string a0_2, .int .i64 a0_3, .string a0_4, .slice A0_5 l0_5.length c0_5, .int .i64 a0_6, .string a0_7, .string a0_8, .slice A0_9 l0_9.length c0_9] 34)).alloc (.cells #[.string ⟨#[]⟩, .int .i64 0, .int .i64 0, .int .i64 0, .int .i64 0, .bool false] 93)) (pred_step a0_0 a0_3 a0_6 _ _ _ _ _ _ _ w.heap.size _ (blk_alloc (heap_alloc_new w _) _)) s b hs.symm)
  clear hs
  go_enter Tryd.func65, Tryd.ntmps65
  go_wp2_with (first | (go_at_call 68; refine HF.out.mono ?_; rintro e w2 ⟨rfl, hB2⟩; have HK2 := Aside0.mk (blk_below HK.out hB2); have HB2 := Aside0.mk (below_then HB.out HB.out.size hB2); have hf2 := blk_frozen HK2.out; have hd0 := blk_cell HK2.out 0; have hd1 := blk_cell HK2.out 1; have hd2 := blk_cell HK2.out 2; have hd3 := blk_cell HK2.out 3; have hd4 := blk_cell HK2.out 4; have hd5 := blk_cell HK2.out 5; clear hB2))
  refine bodyPost_ret (results_ct rfl _ _ (w.heap.size + 1) 93 #[.string s.f0, .int .i64 s.f1, .int .i64 s.f2, .int .i64 s.f3, .int .i64 s.f4, .bool s.f5] (0, 0) _ rfl (put6 HK2.out) Tryd.underlying93 rfl (by kernel_rfl)) rfl ?_
  exact ⟨rfl, below6 HB2.out (by omega)⟩
end Go.Proofs.YtloibeefopdhpaaDoor.G
