/- R15.touch: what R11.Has and R11.Meet answer, plain; the walk. -/
import Derived.Test.YtmimejckcknjfaaDoorClashRow
import Derived.Test.YtmimejckcknjfaaDoorG43
set_option linter.unusedVariables false
set_option linter.unusedSimpArgs false
namespace Go.Proofs.YtmimejckcknjfaaDoor.G
open Go.RowKit Go.Proofs.YtmimejckcknjfaaDoorW.PrintWords Go.Proofs.YtmimejckcknjfaaDoorW.PrintLast Go.Proofs.YtmimejckcknjfaaDoorW.PrintMore Go.Proofs.YtmimejckcknjfaaDoor.Plain

def hasR (l : List S23) (x : S23) : Bool := l.any fun y => sameI y x
def meetR (l m : List S23) : Bool := l.any fun x => hasR m x
def touchR (x y : TOp) : Bool := hasR x.f8 y.f6 || (hasR x.f8 y.f7 || meetR x.f8 y.f8)
theorem upO {α : Type} {g : Nat → Option α} (h : ∀ k, LeO (g k) (g (k + 1))) {a b : Nat} (hab : a ≤ b) {r : α} (e : g a = some r) : g b = some r := by
  induction hab with
  | refl => exact e
  | step _ ih => exact h _ _ ih
theorem w64 (i : Nat) (h : i + 1 ≤ 9223372036854775807) : wrap64 ((i : Int) + 1) = ((i + 1 : Nat) : Int) := by
  unfold wrap64
  omega
theorem has_loop (l : List S23) (hl : l.length ≤ 9223372036854775807) (x : S23) : ∀ (n i : Nat), l.length - i = n → i ≤ l.length → ∃ k, rafterref11_Has.l0 k l (i : Int) x.f0 x.f1 = some ((l.drop i).any fun y => sameI y x)
  | 0, i, h, hi => ⟨1, by
    rw [rafterref11_Has.l0, if_neg (by omega), List.drop_eq_nil_of_le (by omega)]
    rfl⟩
  | n + 1, i, h, hi => by
    obtain ⟨k, hk⟩ := has_loop l hl x n (i + 1) (by omega) (by omega)
    have hlt : i < l.length := by omega
    refine ⟨k + 1, ?_⟩
    have er : rd_T23 l (i : Int) = l[i] := by simp [rd_T23, hlt]
    rw [rafterref11_Has.l0, if_pos (by omega), if_pos (by omega), er, w64 i (by omega), hk, List.drop_eq_getElem_cons hlt, List.any_cons]
    have e : (l[i].f0.toList == x.f0.toList && (l[i].f1 == x.f1)) = sameI l[i] x := rfl
    rw [e]
    cases sameI l[i] x <;> simp
theorem has_some (l : List S23) (hl : l.length ≤ 9223372036854775807) (x : S23) : ∃ k, rafterref11_Has.f k l x.f0 x.f1 = some (hasR l x) := by
  obtain ⟨k, hk⟩ := has_loop l hl x _ 0 rfl (Nat.zero_le _)
  exact ⟨k, hk⟩
theorem meet_loop (l m : List S23) (hl : l.length ≤ 9223372036854775807) (hm : m.length ≤ 9223372036854775807) : ∀ (n i : Nat), l.length - i = n → i ≤ l.length → ∃ k, rafterref11_Meet.l0 k l m (i : Int) = some ((l.drop i).any fun x => hasR m x)
  | 0, i, h, hi => ⟨1, by
    rw [rafterref11_Meet.l0, if_neg (by omega), List.drop_eq_nil_of_le (by omega)]
    rfl⟩
  | n + 1, i, h, hi => by
    obtain ⟨k, hk⟩ := meet_loop l m hl hm n (i + 1) (by omega) (by omega)
    have hlt : i < l.length := by omega
    obtain ⟨k2, hk2⟩ := has_some m hm l[i]
    refine ⟨max k k2 + 1, ?_⟩
    have h1 := upO (g := fun k => rafterref11_Meet.l0 k l m ((i + 1 : Nat) : Int)) (fun k => rafterref11_Meet.mono_l k _ _ _) (Nat.le_max_left k k2) hk
    have h2 := upO (g := fun k => rafterref11_Has.f k m l[i].f0 l[i].f1) (fun k => rafterref11_Has.mono _ _ _ k) (Nat.le_max_right k k2) hk2
    have er : rd_T23 l (i : Int) = l[i] := by simp [rd_T23, hlt]
    rw [rafterref11_Meet.l0, if_pos (by omega), if_pos (by omega), er, w64 i (by omega), h1, h2, List.drop_eq_getElem_cons hlt, List.any_cons, Option.bind_some]
    cases hasR m l[i] <;> simp
theorem meet_some (l m : List S23) (hl : l.length ≤ 9223372036854775807) (hm : m.length ≤ 9223372036854775807) : ∃ k, rafterref11_Meet.f k l m = some (meetR l m) := by
  obtain ⟨k, hk⟩ := meet_loop l m hl hm _ 0 rfl (Nat.zero_le _)
  exact ⟨k, hk⟩
set_option maxHeartbeats 4000000 in
set_option maxRecDepth 100000 in
theorem r15_touch.calls (x : TOp) (A : Option Addr) (c : Nat) (B : Option Addr) (d : Nat) (y : TOp) (A2 : Option Addr) (c2 : Nat) (B2 : Option Addr) (d2 : Nat) (w : World) (hx : OpAt w x A c B d) (hy : OpAt w y A2 c2 B2 d2) :
    Calls Tryd.prog 25 #[opV x A c B d, opV y A2 c2 B2 d2] w fun e w' => e = .returned (.bool (touchR x y)) ∧ Below w.heap.size w w' := by
  obtain ⟨r, hr⟩ : ∃ r, r = touchR x y := ⟨_, rfl⟩
  rw [← hr]
  obtain ⟨k1, f1⟩ := has_some x.f8 (Kd.C_max hx.r8) y.f6
  obtain ⟨k2, f2⟩ := has_some x.f8 (Kd.C_max hx.r8) y.f7
  obtain ⟨k3, f3⟩ := meet_some x.f8 y.f8 (Kd.C_max hx.r8) (Kd.C_max hy.r8)
  have HX0 := Aside0.mk hx
  have HY0 := Aside0.mk hy
  have H1 := Aside0.mk (fun W q => rafterref11_Has.calls k1 A c x.f8 y.f6.f0 y.f6.f1 _ W q hx.l8 f1)
  have H2 := Aside0.mk (fun W q => rafterref11_Has.calls k2 A c x.f8 y.f7.f0 y.f7.f1 _ W q hx.l8 f2)
  have H3 := Aside0.mk (fun W q q2 => rafterref11_Meet.calls k3 A c x.f8 A2 c2 y.f8 _ W q hx.l8 q2 hy.l8 f3)
  clear hx hy f1 f2 f3
  unfold touchR at hr
  have HH := Aside0.mk hr
  clear hr
  go_enter Tryd.func25, Tryd.ntmps25
  go_upto_region 1 with (fail)
  obtain ⟨W, hW⟩ : ∃ W, W = (w.alloc (.cells (opCs x A c B d) 27)).alloc (.cells (opCs y A2 c2 B2 d2) 27) := ⟨_, rfl⟩
  have HX : Aside0 (W.heap[w.heap.size]? = some (.cells (opCs x A c B d) 27 (0, 0))) := ⟨by rw [hW]; exact blk_alloc (heap_alloc_new w _) _⟩
  have HY : Aside0 (W.heap[w.heap.size + 1]? = some (.cells (opCs y A2 c2 B2 d2) 27 (0, 0))) := ⟨by rw [hW]; simpa using heap_alloc_new (w.alloc (.cells (opCs x A c B d) 27)) (.cells (opCs y A2 c2 B2 d2) 27)⟩
  have HB : Aside0 (Below w.heap.size w W) := ⟨by rw [hW]; exact below_alloc (below_alloc (Below.refl _ _) _) _⟩
  rw [← hW]
  clear hW
  have x13 := (blk_cell HX.out 13).trans rfl
  have y9 := (blk_cell HY.out 9).trans rfl
  have y10 := (blk_cell HY.out 10).trans rfl
  go_wp2_with (fail)
  refine (H1.out _ (HX0.out.below HB.out).r8).mono ?_
  rintro e_ w1 ⟨rfl, hb⟩
  have HX1 := Aside0.mk (blk_below HX.out hb)
  have HY1 := Aside0.mk (blk_below HY.out hb)
  have HB1 := Aside0.mk (below_then HB.out HB.out.size hb)
  clear hb HX HY HB H1 x13 y9 y10
  cases h1 : hasR x.f8 y.f6
  case true =>
    go_wp2
    go_ret
    exact ⟨by rw [HH.out, h1]; rfl, HB1.out⟩
  have x13 := (blk_cell HX1.out 13).trans rfl
  have y11 := (blk_cell HY1.out 11).trans rfl
  have y12 := (blk_cell HY1.out 12).trans rfl
  go_wp2_with (fail)
  refine (H2.out _ (HX0.out.below HB1.out).r8).mono ?_
  rintro e_ w2 ⟨rfl, hb⟩
  have HX2 := Aside0.mk (blk_below HX1.out hb)
  have HY2 := Aside0.mk (blk_below HY1.out hb)
  have HB2 := Aside0.mk (below_then HB1.out HB1.out.size hb)
  clear hb HX1 HY1 HB1 H2 x13 y11 y12
  cases h2 : hasR x.f8 y.f7
  case true =>
    go_wp2
    go_ret
    exact ⟨by rw [HH.out, h1, h2]; rfl, HB2.out⟩
  have x13 := (blk_cell HX2.out 13).trans rfl
  have y13 := (blk_cell HY2.out 13).trans rfl
  go_wp2_with (fail)
  refine (H3.out _ (HX0.out.below HB2.out).r8 (HY0.out.below HB2.out).r8).mono ?_
  rintro e_ w3 ⟨rfl, hb⟩
  have HB3 := Aside0.mk (below_then HB2.out HB2.out.size hb)
  clear hb HX2 HY2 HB2 H3 x13 y13
  go_wp2
  go_ret
  exact ⟨by rw [HH.out, h1, h2]; rfl, HB3.out⟩
end Go.Proofs.YtmimejckcknjfaaDoor.G
