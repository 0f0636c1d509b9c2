/- What must come at any rate of clash: the walk of law15.awake. -/
import Derived.Test.YtmimejckcknjfaaDoorClashSame
set_option linter.unusedVariables false
set_option linter.unusedSimpArgs false
namespace Go.Proofs.YtmimejckcknjfaaDoor.G
open Go.RowKit Go.Proofs.YtmimejckcknjfaaDoorW.PrintWords Go.Proofs.YtmimejckcknjfaaDoorW.PrintLast Go.Proofs.YtmimejckcknjfaaDoorW.PrintMore Go.Proofs.YtmimejckcknjfaaDoor.Plain

theorem C_one {α : Type} {d : Kd α} {W : World} {g t : Nat} {x : α} {cs : List Value} (hb : W.heap[g]? = some (.cells cs.toArray t (0, 0))) (hK : d.K W x cs) : d.C W (some ⟨g, 0, none⟩) [x].length [x] := by
  refine ⟨rfl, by simp, fun _ => ⟨_, rfl, fun j p hj => ?_⟩⟩
  obtain rfl : j = 0 := by
    have := (List.getElem?_eq_some_iff.1 hj).1
    simp at this
    exact this
  injection hj with hj
  subst hj
  refine ⟨cs, d.K_len hK, hK, fun i u hu => ?_⟩
  rw [Nat.zero_mul, Nat.zero_add, add_plain, blk_cell hb]
  simpa using hu
theorem C_two {α : Type} {d : Kd α} {W : World} {g t : Nat} {x y : α} {cs ds : List Value} (hb : W.heap[g]? = some (.cells (cs ++ ds).toArray t (0, 0))) (hK : d.K W x cs) (hL : d.K W y ds) : d.C W (some ⟨g, 0, none⟩) [x, y].length [x, y] := by
  refine ⟨rfl, by simp, fun _ => ⟨_, rfl, fun j p hj => ?_⟩⟩
  have hjl := (List.getElem?_eq_some_iff.1 hj).1
  simp only [List.length_cons, List.length_nil] at hjl
  rcases (show j = 0 ∨ j = 1 by omega) with rfl | rfl
  · injection hj with hj
    subst hj
    refine ⟨cs, d.K_len hK, hK, fun i u hu => ?_⟩
    have hi := (List.getElem?_eq_some_iff.1 hu).1
    rw [Nat.zero_mul, Nat.zero_add, add_plain, blk_cell hb]
    simpa [List.getElem?_append_left hi] using hu
  · injection hj with hj
    subst hj
    refine ⟨ds, d.K_len hL, hL, fun i u hu => ?_⟩
    rw [Nat.one_mul, add_plain, blk_cell hb]
    have h1 := d.K_len hK
    simpa [List.getElem?_append_right (show cs.length ≤ d.sz + i by omega), h1] using hu
theorem op_K {W : World} {x : TOp} {A : Option Addr} {c : Nat} {B : Option Addr} {d : Nat} (h : OpAt W x A c B d) : k27.K W x (opCs x A c B d).toList := k27_mk W x h.l8 h.r8 h.l10 h.r10
theorem alloc_size (W : World) (o : Obj) : (W.alloc o).heap.size = W.heap.size + 1 := by simp
abbrev eO : ByteArray := ⟨#[]⟩
def zI : TId := ⟨eO, 0⟩
def aO : TOp := ⟨2, ⟨⟨#[97]⟩, 0⟩, ⟨⟨#[]⟩, 0⟩, ⟨⟨#[]⟩, 0⟩, ⟨#[120]⟩, ⟨#[]⟩, ⟨⟨#[]⟩, 0⟩, ⟨⟨#[]⟩, 0⟩, [], 0, []⟩
def bO : TOp := ⟨1, ⟨⟨#[98]⟩, 0⟩, ⟨⟨#[]⟩, 0⟩, ⟨⟨#[]⟩, 0⟩, ⟨#[120]⟩, ⟨#[]⟩, ⟨⟨#[]⟩, 0⟩, ⟨⟨#[]⟩, 0⟩, [], 0, []⟩
def hO : TOp := ⟨5, ⟨⟨#[97]⟩, 0⟩, ⟨⟨#[]⟩, 0⟩, ⟨⟨#[]⟩, 0⟩, ⟨#[]⟩, ⟨#[]⟩, ⟨⟨#[]⟩, 1⟩, ⟨⟨#[]⟩, 2⟩, [], 0, [⟨#[108]⟩]⟩
def gO : TOp := ⟨3, ⟨⟨#[97]⟩, 0⟩, ⟨⟨#[]⟩, 0⟩, ⟨⟨#[]⟩, 0⟩, ⟨#[120]⟩, ⟨#[]⟩, ⟨⟨#[]⟩, 0⟩, ⟨⟨#[]⟩, 0⟩, [], 0, []⟩
theorem aM : MayOp aO := ⟨by decide +kernel, by decide, by decide, fun _ => by decide +kernel, fun h => by cases h⟩
theorem bM : MayOp bO := ⟨by decide +kernel, by decide, by decide, fun _ => by decide +kernel, fun h => by cases h⟩
theorem hM : MayOp hO := ⟨by decide +kernel, by decide, by decide, fun h => absurd rfl h, fun h => by cases h⟩
theorem gM : MayOp gO := ⟨by decide +kernel, by decide, by decide, fun _ => by decide +kernel, fun h => by cases h⟩
theorem aS : OpSized aO := ⟨by decide, by decide, by decide, by decide, by decide, by decide, by decide, fun _ h => (by cases h), by decide⟩
theorem bS : OpSized bO := ⟨by decide, by decide, by decide, by decide, by decide, by decide, by decide, fun _ h => (by cases h), by decide⟩
theorem hS : OpSized hO := ⟨by decide, by decide, by decide, by decide, by decide, by decide, by decide, fun _ h => (by cases h), by decide⟩
theorem gS : OpSized gO := ⟨by decide, by decide, by decide, by decide, by decide, by decide, by decide, fun _ h => (by cases h), by decide⟩
theorem ab3 : opsT txC plC aO bO = 3 := by rw [ops_same aM bM]; decide +kernel
theorem hb0 : opsT txC plC hO bO = 0 := by rw [ops_same hM bM]; decide +kernel
theorem hh1 : opsT txC plC hO hO = 1 := by rw [ops_same hM hM]; decide +kernel
theorem hg2 : opsT txC plC hO gO = 2 := by rw [ops_same hM gM]; decide +kernel
theorem aw_pairs : pairsT (opsT txC plC) [bO] [hO, aO] 0 = [⟨1, 0⟩] := by
  simp only [pairsT, rowT, hb0, ab3]
  rfl
theorem aw_is : ∃ k, OpIs k aO (plC aO) (txC aO) ∧ OpIs k bO (plC bO) (txC bO) ∧ OpIs k hO (plC hO) (txC hO) ∧ OpIs k gO (plC gO) (txC gO) := by
  obtain ⟨k1, h1⟩ := opIs_ev aM aS (by decide)
  obtain ⟨k2, h2⟩ := opIs_ev bM bS (by decide)
  obtain ⟨k3, h3⟩ := opIs_ev hM hS (by decide)
  obtain ⟨k4, h4⟩ := opIs_ev gM gS (by decide)
  exact ⟨k1 + k2 + k3 + k4, h1 _ (by omega), h2 _ (by omega), h3 _ (by omega), h4 _ (by omega)⟩
/-- The variables of awake. -/
structure AwAt (w : World) (n1 n2 n3 n4 s : Nat) (W : World) : Prop where
  bel : Below w.heap.size w W
  a : W.heap[n1]? = some (.cells (opCs aO none 0 none 0) 27 (0, 0))
  b : W.heap[n2]? = some (.cells (opCs bO none 0 none 0) 27 (0, 0))
  h : W.heap[n3]? = some (.cells (opCs hO none 0 (some ⟨s, 0, none⟩) 1) 27 (0, 0))
  g : W.heap[n4]? = some (.cells (opCs gO none 0 none 0) 27 (0, 0))
  st : W.heap[s]? = some (.cells #[.string ⟨#[108]⟩] 9 (0, 0))
theorem AwAt.step {w : World} {n1 n2 n3 n4 s : Nat} {W W' : World} (q : AwAt w n1 n2 n3 n4 s W) (hb : Below W.heap.size W W') : AwAt w n1 n2 n3 n4 s W' :=
  ⟨below_then q.bel q.bel.size hb, blk_below q.a hb, blk_below q.b hb, blk_below q.h hb, blk_below q.g hb, blk_below q.st hb⟩
theorem AwAt.oa {w : World} {n1 n2 n3 n4 s : Nat} {W : World} (q : AwAt w n1 n2 n3 n4 s W) : OpAt W aO none 0 none 0 := ⟨Kd.C_nil _ _, Nat.le_refl 0, Kd.C_nil _ _, Nat.le_refl 0⟩
theorem AwAt.ob {w : World} {n1 n2 n3 n4 s : Nat} {W : World} (q : AwAt w n1 n2 n3 n4 s W) : OpAt W bO none 0 none 0 := ⟨Kd.C_nil _ _, Nat.le_refl 0, Kd.C_nil _ _, Nat.le_refl 0⟩
theorem AwAt.og {w : World} {n1 n2 n3 n4 s : Nat} {W : World} (q : AwAt w n1 n2 n3 n4 s W) : OpAt W gO none 0 none 0 := ⟨Kd.C_nil _ _, Nat.le_refl 0, Kd.C_nil _ _, Nat.le_refl 0⟩
theorem AwAt.oh {w : World} {n1 n2 n3 n4 s : Nat} {W : World} (q : AwAt w n1 n2 n3 n4 s W) : OpAt W hO none 0 (some ⟨s, 0, none⟩) 1 := ⟨Kd.C_nil _ _, Nat.le_refl 0, C_one (cs := [.string ⟨#[108]⟩]) q.st rfl, Nat.le_refl 1⟩
theorem aw_ops {k : Nat} {x y : TOp} {A : Option Addr} {c : Nat} {B : Option Addr} {d : Nat} {A2 : Option Addr} {c2 : Nat} {B2 : Option Addr} {d2 : Nat} {r : Int} (hr : opsT txC plC x y = r) (ix : OpIs k x (plC x) (txC x)) (iy : OpIs k y (plC y) (txC y)) {W : World} (hx : OpAt W x A c B d) (hy : OpAt W y A2 c2 B2 d2) :
    Calls Tryd.prog 10 #[opV x A c B d, opV y A2 c2 B2 d2] W fun e w' => e = .returned (.int .i64 r) ∧ Below W.heap.size W w' := by
  have h := clash_Ops.calls k x A c B d y A2 c2 B2 d2 (plC x) (plC y) (txC x) (txC y) W hx hy ix iy
  rw [show opsC x y (txC x) (txC y) (plC x) (plC y) = r from hr] at h
  exact h
theorem aw_pl : (plC aO).length = 1 := by
  unfold plC
  rw [List.length_map]
  rfl
set_option maxHeartbeats 8000000 in
set_option maxRecDepth 100000 in
attribute [local go_sem high] eqA45 in
theorem law15_awake.calls (w : World) :
    Calls Tryd.prog 6 #[] w fun e w' => e = .returned (.bool true) ∧ Below w.heap.size w w' := by
  obtain ⟨k, ia, ib, ih, ig⟩ := aw_is
  have IA := Aside0.mk ia
  have IB := Aside0.mk ib
  have IH := Aside0.mk ih
  have IG := Aside0.mk ig
  clear ia ib ih ig
  go_enter Tryd.func6, Tryd.ntmps6
  go_upto_region 5 with (first | (refine op_new (x := aO) (A := none) (c := 0) (B := none) (d := 0) 1 7 rfl rfl rfl rfl rfl rfl rfl ?_; intro W1 hX1 hW1) | (refine op_new (x := bO) (A := none) (c := 0) (B := none) (d := 0) 2 9 rfl rfl rfl rfl rfl rfl rfl ?_; intro W2 hX2 hW2) | (refine op_new (V := W2.alloc (.cells #[.string ⟨#[108]⟩] 9)) (x := hO) (A := none) (c := 0) (B := some ⟨W2.heap.size, 0, none⟩) (d := 1) 3 14 rfl rfl rfl rfl rfl (by rw [alloc_size]; rfl) rfl ?_; intro W3 hX3 hW3) | (refine op_new (x := gO) (A := none) (c := 0) (B := none) (d := 0) 4 16 rfl rfl rfl rfl rfl rfl rfl ?_; intro W4 hX4 hW4) | fail)
  have hWs : Below W2.heap.size W2 (W2.alloc (.cells #[.string ⟨#[108]⟩] 9)) := below_alloc (Below.refl _ _) _
  have hW23 := below_then hWs hWs.size hW3
  have hs3 : W3.heap[W2.heap.size]? = some (.cells #[.string ⟨#[108]⟩] 9 (0, 0)) := blk_below (heap_alloc_new W2 _) hW3
  rw [alloc_size] at hX3
  have HA := Aside0.mk (AwAt.mk (below_then (below_then (below_then hW1 hW1.size hW2) (below_then hW1 hW1.size hW2).size hW23) (below_then (below_then hW1 hW1.size hW2) (below_then hW1 hW1.size hW2).size hW23).size hW4) (blk_below (blk_below (blk_below hX1 hW2) hW23) hW4) (blk_below (blk_below hX2 hW23) hW4) (blk_below hX3 hW4) hX4 (blk_below hs3 hW4))
  clear hX1 hX2 hX3 hX4 hW1 hW2 hW3 hW4 hWs hW23 hs3
  go_wp2_with (first | refine op_load 3 _ HA.out.h rfl rfl rfl ?_ | refine op_load 1 _ HA.out.a rfl rfl rfl ?_ | refine op_load 2 _ (blk_alloc HA.out.b _) rfl rfl rfl ?_ | fail)
  have hc1 : ∀ o, Kd.C k27 ((W4.alloc (.cells ((opCs hO none 0 (some ⟨W2.heap.size, 0, none⟩) 1).toList ++ (opCs aO none 0 none 0).toList).toArray 27)).alloc o) (some ⟨W4.heap.size, 0, none⟩) [hO, aO].length [hO, aO] := fun o =>
    C_two (t := 27) (blk_alloc (heap_alloc_new W4 _) o) (op_K (HA.out.step (below_alloc (below_alloc (Below.refl _ _) _) _)).oh) (op_K (HA.out.step (below_alloc (below_alloc (Below.refl _ _) _) _)).oa)
  have hc2 : ∀ o, Kd.C k27 ((W4.alloc o).alloc (.cells (opCs bO none 0 none 0).toList.toArray 27)) (some ⟨W4.heap.size + 1, 0, none⟩) [bO].length [bO] := fun o =>
    C_one (t := 27) (by rw [← alloc_size W4 o]; exact heap_alloc_new _ _) (op_K (HA.out.step (below_alloc (below_alloc (Below.refl _ _) _) _)).ob)
  refine (clash_Pairs.calls k txC plC ⟨#[]⟩ ⟨#[]⟩ none 0 0 (some ⟨W4.heap.size, 0, none⟩) 2 [hO, aO] none 0 0 (some ⟨W4.heap.size + 1, 0, none⟩) 1 [bO] _ (hc1 _) (hc2 _) (fun x hx => by rcases List.mem_cons.1 hx with rfl | hx; exact IH.out; rw [List.mem_singleton.1 hx]; exact IA.out) (fun x hx => by rw [List.mem_singleton.1 hx]; exact IB.out) (by decide)).mono ?_
  clear hc1 hc2
  rintro e_ w1 ⟨v, rfl, hR, hb⟩
  rw [aw_pairs] at hR
  obtain ⟨Al, cl, rfl⟩ := Kd.R_slice hR
  have HA1 := Aside0.mk ((HA.out.step (below_alloc (below_alloc (Below.refl _ _) _) _)).step hb)
  have HC := Aside0.mk (Kd.R_reads' hR).2.2
  clear hb hR HA
  obtain ⟨ad, e1, z0, z1⟩ := at_T45 HC.out 0 (Int.le_refl 0) (by decide)
  subst e1
  simp only [Int.toNat_zero, Nat.zero_mul, Addr.add_zero'] at z0 z1
  have HZ0 : Aside0 (w1.cell? ad = some (.int .i64 1)) := ⟨z0⟩
  have HZ1 : Aside0 (w1.cell? ⟨ad.block, ad.off + 1, none⟩ = some (.int .i64 0)) := ⟨z1⟩
  clear z0 z1 HC
  go_wp2_with (first | refine op_load 1 _ HA1.out.a rfl rfl rfl ?_ | refine op_load 2 _ HA1.out.b rfl rfl rfl ?_ | fail)
  refine (aw_ops ab3 IA.out IB.out HA1.out.oa HA1.out.ob).mono ?_
  rintro e_ w2 ⟨rfl, hb⟩
  have HA2 := Aside0.mk (HA1.out.step hb)
  have HY0 := Aside0.mk ((hb.cell (World.block_lt_of_cell? _ _ HZ0.out)).trans HZ0.out)
  have HY1 := Aside0.mk ((hb.cell (World.block_lt_of_cell? _ _ HZ1.out)).trans HZ1.out)
  clear hb HA1 HZ0 HZ1
  go_wp2_with (first | refine op_load 3 _ HA2.out.h rfl rfl rfl ?_ | fail)
  refine (aw_ops hh1 IH.out IH.out HA2.out.oh HA2.out.oh).mono ?_
  rintro e_ w3 ⟨rfl, hb⟩
  have HA3 := Aside0.mk (HA2.out.step hb)
  have HZ0 := Aside0.mk ((hb.cell (World.block_lt_of_cell? _ _ HY0.out)).trans HY0.out)
  have HZ1 := Aside0.mk ((hb.cell (World.block_lt_of_cell? _ _ HY1.out)).trans HY1.out)
  clear hb HA2 HY0 HY1
  go_wp2_with (first | refine op_load 3 _ HA3.out.h rfl rfl rfl ?_ | refine op_load 4 _ HA3.out.g rfl rfl rfl ?_ | fail)
  refine (aw_ops hg2 IH.out IG.out HA3.out.oh HA3.out.og).mono ?_
  rintro e_ w4 ⟨rfl, hb⟩
  have HA4 := Aside0.mk (HA3.out.step hb)
  have z0 := (hb.cell (World.block_lt_of_cell? _ _ HZ0.out)).trans HZ0.out
  have z1 := (hb.cell (World.block_lt_of_cell? _ _ HZ1.out)).trans HZ1.out
  clear hb HA3 HZ0 HZ1
  go_wp2_with (first | refine op_load 1 _ HA4.out.a rfl rfl rfl ?_ | fail)
  refine (clash_Places.calls k aO none 0 none 0 (plC aO) _ IA.out.pl).mono ?_
  rintro e_ w5 ⟨v, rfl, hR, hb⟩
  obtain ⟨Ap, cp, rfl⟩ := Kd.R_slice hR
  rw [aw_pl]
  have HB := Aside0.mk (HA4.out.step hb).bel
  clear hb hR HA4 z0 z1
  go_wp2_with (fail)
  go_ret
  exact ⟨rfl, HB.out⟩
end Go.Proofs.YtmimejckcknjfaaDoor.G
