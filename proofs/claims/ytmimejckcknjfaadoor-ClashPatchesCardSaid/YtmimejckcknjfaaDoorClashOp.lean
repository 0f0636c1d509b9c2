/- clash.Ops: the walk. -/
import Derived.Test.YtmimejckcknjfaaDoorRefMade
set_option linter.unusedVariables false
set_option linter.unusedSimpArgs false
namespace Go.Proofs.YtmimejckcknjfaaDoor.G
open Go.RowKit Go.Proofs.YtmimejckcknjfaaDoorW.PrintWords Go.Proofs.YtmimejckcknjfaaDoorW.PrintLast Go.Proofs.YtmimejckcknjfaaDoorW.PrintMore Go.Proofs.YtmimejckcknjfaaDoor.Plain

set_option maxHeartbeats 8000000 in
set_option maxRecDepth 100000 in
attribute [local go_sem high] eqA23 in
theorem clash_Ops.part0 (k : Nat) (x : S27) (A : Option Addr) (c : Nat) (B : Option Addr) (d : Nat) (y : S27) (A2 : Option Addr) (c2 : Nat) (B2 : Option Addr) (d2 : Nat) (l m : List S35) (tx ty : ByteArray) (w : World) (hx : OpAt w x A c B d) (hy : OpAt w y A2 c2 B2 d2) (ix : OpIs k x l tx) (iy : OpIs k y m ty) (b1 : (x.f1.f0.toList == y.f1.f0.toList && x.f1.f1 == y.f1.f1) = false) :
    Calls Tryd.prog 10 #[opV x A c B d, opV y A2 c2 B2 d2] w fun e w' => e = .returned (.int .i64 (opsC x y tx ty l m)) ∧ Below w.heap.size w w' := by
  obtain ⟨r, hr⟩ : ∃ r, r = opsC x y tx ty l m := ⟨_, rfl⟩
  rw [← hr]
  have HX0 := Aside0.mk hx
  have HY0 := Aside0.mk hy
  have hu := Tryd.underlying23
  have HU := Aside0.mk (fun W h1 h2 => clash_hunks.calls x A c B d y A2 c2 B2 d2 W h1 h2 ix.le iy.le)
  have HS := Aside0.mk (fun W => clash_shared.calls k x A c B d y A2 c2 B2 d2 l m W ix.pl iy.pl)
  have HM1 := Aside0.mk (fun W => clash_moves_x x A c B d W)
  have HM2 := Aside0.mk (fun W => clash_moves_x y A2 c2 B2 d2 W)
  have HI1 := Aside0.mk (fun W => clash_in.calls k x A c B d y A2 c2 B2 d2 tx m W ix.tx iy.pl)
  have HI2 := Aside0.mk (fun W => clash_in.calls k y A2 c2 B2 d2 x A c B d ty l W iy.tx ix.pl)
  clear hx hy ix iy
  unfold opsC sameI at hr
  generalize (x.f0 == 3 && inC tx m) = p1 at *
  generalize (y.f0 == 3 && inC ty l) = p2 at *
  have HH := Aside0.mk hr
  clear hr
  go_enter Tryd.func10, Tryd.ntmps10
  go_upto_region 1 with (fail)
  obtain ⟨W, hW⟩ : ∃ W, W = (w.alloc (.cells (opCs x A c B d) 27)).alloc (.cells (opCs y A2 c2 B2 d2) 27) := ⟨_, rfl⟩
  have HX : Aside0 (W.heap[w.heap.size]? = some (.cells (opCs x A c B d) 27 (0, 0))) := ⟨by rw [hW]; exact blk_alloc (heap_alloc_new w _) _⟩
  have HY : Aside0 (W.heap[w.heap.size + 1]? = some (.cells (opCs y A2 c2 B2 d2) 27 (0, 0))) := ⟨by rw [hW]; simpa using heap_alloc_new (w.alloc (.cells (opCs x A c B d) 27)) (.cells (opCs y A2 c2 B2 d2) 27)⟩
  have HB : Aside0 (Below w.heap.size w W) := ⟨by rw [hW]; exact below_alloc (below_alloc (Below.refl _ _) _) _⟩
  rw [← hW]
  clear hW
  obtain ⟨x0, x1, x2, -⟩ := op_cells HX.out
  obtain ⟨y0, y1, y2, -⟩ := op_cells HY.out
  go_upto_region 2 with (fail)
  go_quiet (fail)
  have HX1 := Aside0.mk (blk_drewN HX.out nq)
  have HY1 := Aside0.mk (blk_drewN HY.out nq)
  have HB1 := Aside0.mk (pw_below_drewN HB.out nq)
  generalize W.drewN nq = V at *
  clear HX HY HB x0 x1 x2 y0 y1 y2
  have HX := HX1
  have HY := HY1
  have HB := HB1
  clear HX1 HY1 HB1 HU HM1 HM2
  obtain ⟨x0, x1, x2, -⟩ := op_cells HX.out
  obtain ⟨y0, y1, y2, -⟩ := op_cells HY.out
  cases b5 : x.f0 == 5
  all_goals
    cases g5 : y.f0 == 5
    all_goals
      go_wp2_with (first | refine op_load 2 _ HX.out rfl rfl rfl ?_ | refine op_load 3 _ HY.out rfl rfl rfl ?_ | fail)
      refine (HS.out _).mono ?_
      rintro e_ w1 ⟨rfl, hb⟩
      have HX1 := Aside0.mk (blk_below HX.out hb)
      have HY1 := Aside0.mk (blk_below HY.out hb)
      have HB1 := Aside0.mk (below_then HB.out HB.out.size hb)
      clear hb HX HY HB x0 x1 x2 y0 y1 y2
      have HX := HX1
      have HY := HY1
      have HB := HB1
      clear HX1 HY1 HB1
      obtain ⟨x0, x1, x2, -⟩ := op_cells HX.out
      obtain ⟨y0, y1, y2, -⟩ := op_cells HY.out
      cases hS : sharedC l m
      case true =>
        go_wp2_with (fail)
        go_ret
        exact ⟨by rw [HH.out]; simp [*], HB.out⟩
      go_wp2_with (first | refine op_load 2 _ HX.out rfl rfl rfl ?_ | refine op_load 3 _ HY.out rfl rfl rfl ?_ | fail)
      refine (HI1.out _).mono ?_
      rintro e_ w1 ⟨rfl, hb⟩
      have HX1 := Aside0.mk (blk_below HX.out hb)
      have HY1 := Aside0.mk (blk_below HY.out hb)
      have HB1 := Aside0.mk (below_then HB.out HB.out.size hb)
      clear hb HX HY HB x0 x1 x2 y0 y1 y2
      have HX := HX1
      have HY := HY1
      have HB := HB1
      clear HX1 HY1 HB1
      obtain ⟨x0, x1, x2, -⟩ := op_cells HX.out
      obtain ⟨y0, y1, y2, -⟩ := op_cells HY.out
      cases hI1 : p1
      case true =>
        go_wp2_with (fail)
        go_ret
        exact ⟨by rw [HH.out]; simp [*], HB.out⟩
      go_wp2_with (first | refine op_load 2 _ HX.out rfl rfl rfl ?_ | refine op_load 3 _ HY.out rfl rfl rfl ?_ | fail)
      refine (HI2.out _).mono ?_
      rintro e_ w1 ⟨rfl, hb⟩
      have HX1 := Aside0.mk (blk_below HX.out hb)
      have HY1 := Aside0.mk (blk_below HY.out hb)
      have HB1 := Aside0.mk (below_then HB.out HB.out.size hb)
      clear hb HX HY HB x0 x1 x2 y0 y1 y2
      have HX := HX1
      have HY := HY1
      have HB := HB1
      clear HX1 HY1 HB1
      obtain ⟨x0, x1, x2, -⟩ := op_cells HX.out
      obtain ⟨y0, y1, y2, -⟩ := op_cells HY.out
      cases hI2 : p2
      case true =>
        go_wp2_with (fail)
        go_ret
        exact ⟨by rw [HH.out]; simp [*], HB.out⟩
      go_wp2_with (fail)
      go_ret
      exact ⟨by rw [HH.out]; simp [*], HB.out⟩
set_option maxHeartbeats 8000000 in
set_option maxRecDepth 100000 in
attribute [local go_sem high] eqA23 in
theorem clash_Ops.part1 (k : Nat) (x : S27) (A : Option Addr) (c : Nat) (B : Option Addr) (d : Nat) (y : S27) (A2 : Option Addr) (c2 : Nat) (B2 : Option Addr) (d2 : Nat) (l m : List S35) (tx ty : ByteArray) (w : World) (hx : OpAt w x A c B d) (hy : OpAt w y A2 c2 B2 d2) (ix : OpIs k x l tx) (iy : OpIs k y m ty) (b1 : (x.f1.f0.toList == y.f1.f0.toList && x.f1.f1 == y.f1.f1) = true) (b5 : (x.f0 == 5) = false) (g5 : (y.f0 == 5) = false) :
    Calls Tryd.prog 10 #[opV x A c B d, opV y A2 c2 B2 d2] w fun e w' => e = .returned (.int .i64 (opsC x y tx ty l m)) ∧ Below w.heap.size w w' := by
  obtain ⟨r, hr⟩ : ∃ r, r = opsC x y tx ty l m := ⟨_, rfl⟩
  rw [← hr]
  have HX0 := Aside0.mk hx
  have HY0 := Aside0.mk hy
  have hu := Tryd.underlying23
  have HU := Aside0.mk (fun W h1 h2 => clash_hunks.calls x A c B d y A2 c2 B2 d2 W h1 h2 ix.le iy.le)
  have HS := Aside0.mk (fun W => clash_shared.calls k x A c B d y A2 c2 B2 d2 l m W ix.pl iy.pl)
  have HM1 := Aside0.mk (fun W => clash_moves_x x A c B d W)
  have HM2 := Aside0.mk (fun W => clash_moves_x y A2 c2 B2 d2 W)
  have HI1 := Aside0.mk (fun W => clash_in.calls k x A c B d y A2 c2 B2 d2 tx m W ix.tx iy.pl)
  have HI2 := Aside0.mk (fun W => clash_in.calls k y A2 c2 B2 d2 x A c B d ty l W iy.tx ix.pl)
  clear hx hy ix iy
  unfold opsC sameI at hr
  generalize (x.f0 == 3 && inC tx m) = p1 at *
  generalize (y.f0 == 3 && inC ty l) = p2 at *
  have HH := Aside0.mk hr
  clear hr
  go_enter Tryd.func10, Tryd.ntmps10
  go_upto_region 1 with (fail)
  obtain ⟨W, hW⟩ : ∃ W, W = (w.alloc (.cells (opCs x A c B d) 27)).alloc (.cells (opCs y A2 c2 B2 d2) 27) := ⟨_, rfl⟩
  have HX : Aside0 (W.heap[w.heap.size]? = some (.cells (opCs x A c B d) 27 (0, 0))) := ⟨by rw [hW]; exact blk_alloc (heap_alloc_new w _) _⟩
  have HY : Aside0 (W.heap[w.heap.size + 1]? = some (.cells (opCs y A2 c2 B2 d2) 27 (0, 0))) := ⟨by rw [hW]; simpa using heap_alloc_new (w.alloc (.cells (opCs x A c B d) 27)) (.cells (opCs y A2 c2 B2 d2) 27)⟩
  have HB : Aside0 (Below w.heap.size w W) := ⟨by rw [hW]; exact below_alloc (below_alloc (Below.refl _ _) _) _⟩
  rw [← hW]
  clear hW
  obtain ⟨x0, x1, x2, -⟩ := op_cells HX.out
  obtain ⟨y0, y1, y2, -⟩ := op_cells HY.out
  go_upto_region 2 with (fail)
  go_quiet (fail)
  have HX1 := Aside0.mk (blk_drewN HX.out nq)
  have HY1 := Aside0.mk (blk_drewN HY.out nq)
  have HB1 := Aside0.mk (pw_below_drewN HB.out nq)
  generalize W.drewN nq = V at *
  clear HX HY HB x0 x1 x2 y0 y1 y2
  have HX := HX1
  have HY := HY1
  have HB := HB1
  clear HX1 HY1 HB1 HU
  obtain ⟨x0, x1, x2, -⟩ := op_cells HX.out
  obtain ⟨y0, y1, y2, -⟩ := op_cells HY.out
  go_wp2_with (first | refine op_load 2 _ HX.out rfl rfl rfl ?_ | refine op_load 3 _ HY.out rfl rfl rfl ?_ | fail)
  refine (HS.out _).mono ?_
  rintro e_ w1 ⟨rfl, hb⟩
  have HX1 := Aside0.mk (blk_below HX.out hb)
  have HY1 := Aside0.mk (blk_below HY.out hb)
  have HB1 := Aside0.mk (below_then HB.out HB.out.size hb)
  clear hb HX HY HB x0 x1 x2 y0 y1 y2
  have HX := HX1
  have HY := HY1
  have HB := HB1
  clear HX1 HY1 HB1
  obtain ⟨x0, x1, x2, -⟩ := op_cells HX.out
  obtain ⟨y0, y1, y2, -⟩ := op_cells HY.out
  cases hS : sharedC l m
  case true =>
    go_wp2_with (fail)
    go_ret
    exact ⟨by rw [HH.out]; simp [*], HB.out⟩
  go_wp2_with (first | refine op_load 2 _ HX.out rfl rfl rfl ?_ | refine op_load 3 _ HY.out rfl rfl rfl ?_ | fail)
  refine (HM1.out _).mono ?_
  rintro e_ w1 ⟨rfl, hb⟩
  have HX1 := Aside0.mk (blk_below HX.out hb)
  have HY1 := Aside0.mk (blk_below HY.out hb)
  have HB1 := Aside0.mk (below_then HB.out HB.out.size hb)
  clear hb HX HY HB x0 x1 x2 y0 y1 y2
  have HX := HX1
  have HY := HY1
  have HB := HB1
  clear HX1 HY1 HB1
  obtain ⟨x0, x1, x2, -⟩ := op_cells HX.out
  obtain ⟨y0, y1, y2, -⟩ := op_cells HY.out
  cases hM1 : movesC x
  case true =>
    go_wp2_with (first | refine op_load 2 _ HX.out rfl rfl rfl ?_ | refine op_load 3 _ HY.out rfl rfl rfl ?_ | fail)
    refine (HM2.out _).mono ?_
    rintro e_ w1 ⟨rfl, hb⟩
    have HX1 := Aside0.mk (blk_below HX.out hb)
    have HY1 := Aside0.mk (blk_below HY.out hb)
    have HB1 := Aside0.mk (below_then HB.out HB.out.size hb)
    clear hb HX HY HB x0 x1 x2 y0 y1 y2
    have HX := HX1
    have HY := HY1
    have HB := HB1
    clear HX1 HY1 HB1
    obtain ⟨x0, x1, x2, -⟩ := op_cells HX.out
    obtain ⟨y0, y1, y2, -⟩ := op_cells HY.out
    cases hM2 : movesC y
    case true =>
      go_wp2_with (fail)
      go_ret
      exact ⟨by rw [HH.out]; simp [*], HB.out⟩
    go_wp2_with (first | refine op_load 2 _ HX.out rfl rfl rfl ?_ | refine op_load 3 _ HY.out rfl rfl rfl ?_ | fail)
    refine (HI1.out _).mono ?_
    rintro e_ w1 ⟨rfl, hb⟩
    have HX1 := Aside0.mk (blk_below HX.out hb)
    have HY1 := Aside0.mk (blk_below HY.out hb)
    have HB1 := Aside0.mk (below_then HB.out HB.out.size hb)
    clear hb HX HY HB x0 x1 x2 y0 y1 y2
    have HX := HX1
    have HY := HY1
    have HB := HB1
    clear HX1 HY1 HB1
    obtain ⟨x0, x1, x2, -⟩ := op_cells HX.out
    obtain ⟨y0, y1, y2, -⟩ := op_cells HY.out
    cases hI1 : p1
    case true =>
      go_wp2_with (fail)
      go_ret
      exact ⟨by rw [HH.out]; simp [*], HB.out⟩
    go_wp2_with (first | refine op_load 2 _ HX.out rfl rfl rfl ?_ | refine op_load 3 _ HY.out rfl rfl rfl ?_ | fail)
    refine (HI2.out _).mono ?_
    rintro e_ w1 ⟨rfl, hb⟩
    have HX1 := Aside0.mk (blk_below HX.out hb)
    have HY1 := Aside0.mk (blk_below HY.out hb)
    have HB1 := Aside0.mk (below_then HB.out HB.out.size hb)
    clear hb HX HY HB x0 x1 x2 y0 y1 y2
    have HX := HX1
    have HY := HY1
    have HB := HB1
    clear HX1 HY1 HB1
    obtain ⟨x0, x1, x2, -⟩ := op_cells HX.out
    obtain ⟨y0, y1, y2, -⟩ := op_cells HY.out
    cases hI2 : p2
    case true =>
      go_wp2_with (fail)
      go_ret
      exact ⟨by rw [HH.out]; simp [*], HB.out⟩
    go_wp2_with (fail)
    go_ret
    exact ⟨by rw [HH.out]; simp [*], HB.out⟩
  go_wp2_with (first | refine op_load 2 _ HX.out rfl rfl rfl ?_ | refine op_load 3 _ HY.out rfl rfl rfl ?_ | fail)
  refine (HI1.out _).mono ?_
  rintro e_ w1 ⟨rfl, hb⟩
  have HX1 := Aside0.mk (blk_below HX.out hb)
  have HY1 := Aside0.mk (blk_below HY.out hb)
  have HB1 := Aside0.mk (below_then HB.out HB.out.size hb)
  clear hb HX HY HB x0 x1 x2 y0 y1 y2
  have HX := HX1
  have HY := HY1
  have HB := HB1
  clear HX1 HY1 HB1
  obtain ⟨x0, x1, x2, -⟩ := op_cells HX.out
  obtain ⟨y0, y1, y2, -⟩ := op_cells HY.out
  cases hI1 : p1
  case true =>
    go_wp2_with (fail)
    go_ret
    exact ⟨by rw [HH.out]; simp [*], HB.out⟩
  go_wp2_with (first | refine op_load 2 _ HX.out rfl rfl rfl ?_ | refine op_load 3 _ HY.out rfl rfl rfl ?_ | fail)
  refine (HI2.out _).mono ?_
  rintro e_ w1 ⟨rfl, hb⟩
  have HX1 := Aside0.mk (blk_below HX.out hb)
  have HY1 := Aside0.mk (blk_below HY.out hb)
  have HB1 := Aside0.mk (below_then HB.out HB.out.size hb)
  clear hb HX HY HB x0 x1 x2 y0 y1 y2
  have HX := HX1
  have HY := HY1
  have HB := HB1
  clear HX1 HY1 HB1
  obtain ⟨x0, x1, x2, -⟩ := op_cells HX.out
  obtain ⟨y0, y1, y2, -⟩ := op_cells HY.out
  cases hI2 : p2
  case true =>
    go_wp2_with (fail)
    go_ret
    exact ⟨by rw [HH.out]; simp [*], HB.out⟩
  go_wp2_with (fail)
  go_ret
  exact ⟨by rw [HH.out]; simp [*], HB.out⟩
set_option maxHeartbeats 8000000 in
set_option maxRecDepth 100000 in
attribute [local go_sem high] eqA23 in
theorem clash_Ops.part2 (k : Nat) (x : S27) (A : Option Addr) (c : Nat) (B : Option Addr) (d : Nat) (y : S27) (A2 : Option Addr) (c2 : Nat) (B2 : Option Addr) (d2 : Nat) (l m : List S35) (tx ty : ByteArray) (w : World) (hx : OpAt w x A c B d) (hy : OpAt w y A2 c2 B2 d2) (ix : OpIs k x l tx) (iy : OpIs k y m ty) (b1 : (x.f1.f0.toList == y.f1.f0.toList && x.f1.f1 == y.f1.f1) = true) (b5 : (x.f0 == 5) = false) (g5 : (y.f0 == 5) = true) :
    Calls Tryd.prog 10 #[opV x A c B d, opV y A2 c2 B2 d2] w fun e w' => e = .returned (.int .i64 (opsC x y tx ty l m)) ∧ Below w.heap.size w w' := by
  obtain ⟨r, hr⟩ : ∃ r, r = opsC x y tx ty l m := ⟨_, rfl⟩
  rw [← hr]
  have HX0 := Aside0.mk hx
  have HY0 := Aside0.mk hy
  have hu := Tryd.underlying23
  have HU := Aside0.mk (fun W h1 h2 => clash_hunks.calls x A c B d y A2 c2 B2 d2 W h1 h2 ix.le iy.le)
  have HS := Aside0.mk (fun W => clash_shared.calls k x A c B d y A2 c2 B2 d2 l m W ix.pl iy.pl)
  have HM1 := Aside0.mk (fun W => clash_moves_x x A c B d W)
  have HM2 := Aside0.mk (fun W => clash_moves_x y A2 c2 B2 d2 W)
  have HI1 := Aside0.mk (fun W => clash_in.calls k x A c B d y A2 c2 B2 d2 tx m W ix.tx iy.pl)
  have HI2 := Aside0.mk (fun W => clash_in.calls k y A2 c2 B2 d2 x A c B d ty l W iy.tx ix.pl)
  clear hx hy ix iy
  unfold opsC sameI at hr
  generalize (x.f0 == 3 && inC tx m) = p1 at *
  generalize (y.f0 == 3 && inC ty l) = p2 at *
  have HH := Aside0.mk hr
  clear hr
  go_enter Tryd.func10, Tryd.ntmps10
  go_upto_region 1 with (fail)
  obtain ⟨W, hW⟩ : ∃ W, W = (w.alloc (.cells (opCs x A c B d) 27)).alloc (.cells (opCs y A2 c2 B2 d2) 27) := ⟨_, rfl⟩
  have HX : Aside0 (W.heap[w.heap.size]? = some (.cells (opCs x A c B d) 27 (0, 0))) := ⟨by rw [hW]; exact blk_alloc (heap_alloc_new w _) _⟩
  have HY : Aside0 (W.heap[w.heap.size + 1]? = some (.cells (opCs y A2 c2 B2 d2) 27 (0, 0))) := ⟨by rw [hW]; simpa using heap_alloc_new (w.alloc (.cells (opCs x A c B d) 27)) (.cells (opCs y A2 c2 B2 d2) 27)⟩
  have HB : Aside0 (Below w.heap.size w W) := ⟨by rw [hW]; exact below_alloc (below_alloc (Below.refl _ _) _) _⟩
  rw [← hW]
  clear hW
  obtain ⟨x0, x1, x2, -⟩ := op_cells HX.out
  obtain ⟨y0, y1, y2, -⟩ := op_cells HY.out
  go_upto_region 2 with (fail)
  go_quiet (fail)
  have HX1 := Aside0.mk (blk_drewN HX.out nq)
  have HY1 := Aside0.mk (blk_drewN HY.out nq)
  have HB1 := Aside0.mk (pw_below_drewN HB.out nq)
  generalize W.drewN nq = V at *
  clear HX HY HB x0 x1 x2 y0 y1 y2
  have HX := HX1
  have HY := HY1
  have HB := HB1
  clear HX1 HY1 HB1 HU
  obtain ⟨x0, x1, x2, -⟩ := op_cells HX.out
  obtain ⟨y0, y1, y2, -⟩ := op_cells HY.out
  cases b3 : x.f0 == 3
  case true =>
    go_wp2_with (fail)
    go_ret
    exact ⟨by rw [HH.out]; simp [*], HB.out⟩
  go_wp2_with (first | refine op_load 2 _ HX.out rfl rfl rfl ?_ | refine op_load 3 _ HY.out rfl rfl rfl ?_ | fail)
  refine (HS.out _).mono ?_
  rintro e_ w1 ⟨rfl, hb⟩
  have HX1 := Aside0.mk (blk_below HX.out hb)
  have HY1 := Aside0.mk (blk_below HY.out hb)
  have HB1 := Aside0.mk (below_then HB.out HB.out.size hb)
  clear hb HX HY HB x0 x1 x2 y0 y1 y2
  have HX := HX1
  have HY := HY1
  have HB := HB1
  clear HX1 HY1 HB1
  obtain ⟨x0, x1, x2, -⟩ := op_cells HX.out
  obtain ⟨y0, y1, y2, -⟩ := op_cells HY.out
  cases hS : sharedC l m
  case true =>
    go_wp2_with (fail)
    go_ret
    exact ⟨by rw [HH.out]; simp [*], HB.out⟩
  go_wp2_with (first | refine op_load 2 _ HX.out rfl rfl rfl ?_ | refine op_load 3 _ HY.out rfl rfl rfl ?_ | fail)
  refine (HM1.out _).mono ?_
  rintro e_ w1 ⟨rfl, hb⟩
  have HX1 := Aside0.mk (blk_below HX.out hb)
  have HY1 := Aside0.mk (blk_below HY.out hb)
  have HB1 := Aside0.mk (below_then HB.out HB.out.size hb)
  clear hb HX HY HB x0 x1 x2 y0 y1 y2
  have HX := HX1
  have HY := HY1
  have HB := HB1
  clear HX1 HY1 HB1
  obtain ⟨x0, x1, x2, -⟩ := op_cells HX.out
  obtain ⟨y0, y1, y2, -⟩ := op_cells HY.out
  cases hM1 : movesC x
  case true =>
    go_wp2_with (first | refine op_load 2 _ HX.out rfl rfl rfl ?_ | refine op_load 3 _ HY.out rfl rfl rfl ?_ | fail)
    refine (HM2.out _).mono ?_
    rintro e_ w1 ⟨rfl, hb⟩
    have HX1 := Aside0.mk (blk_below HX.out hb)
    have HY1 := Aside0.mk (blk_below HY.out hb)
    have HB1 := Aside0.mk (below_then HB.out HB.out.size hb)
    clear hb HX HY HB x0 x1 x2 y0 y1 y2
    have HX := HX1
    have HY := HY1
    have HB := HB1
    clear HX1 HY1 HB1
    obtain ⟨x0, x1, x2, -⟩ := op_cells HX.out
    obtain ⟨y0, y1, y2, -⟩ := op_cells HY.out
    cases hM2 : movesC y
    case true =>
      go_wp2_with (fail)
      go_ret
      exact ⟨by rw [HH.out]; simp [*], HB.out⟩
    go_wp2_with (first | refine op_load 2 _ HX.out rfl rfl rfl ?_ | refine op_load 3 _ HY.out rfl rfl rfl ?_ | fail)
    refine (HI1.out _).mono ?_
    rintro e_ w1 ⟨rfl, hb⟩
    have HX1 := Aside0.mk (blk_below HX.out hb)
    have HY1 := Aside0.mk (blk_below HY.out hb)
    have HB1 := Aside0.mk (below_then HB.out HB.out.size hb)
    clear hb HX HY HB x0 x1 x2 y0 y1 y2
    have HX := HX1
    have HY := HY1
    have HB := HB1
    clear HX1 HY1 HB1
    obtain ⟨x0, x1, x2, -⟩ := op_cells HX.out
    obtain ⟨y0, y1, y2, -⟩ := op_cells HY.out
    cases hI1 : p1
    case true =>
      go_wp2_with (fail)
      go_ret
      exact ⟨by rw [HH.out]; simp [*], HB.out⟩
    go_wp2_with (first | refine op_load 2 _ HX.out rfl rfl rfl ?_ | refine op_load 3 _ HY.out rfl rfl rfl ?_ | fail)
    refine (HI2.out _).mono ?_
    rintro e_ w1 ⟨rfl, hb⟩
    have HX1 := Aside0.mk (blk_below HX.out hb)
    have HY1 := Aside0.mk (blk_below HY.out hb)
    have HB1 := Aside0.mk (below_then HB.out HB.out.size hb)
    clear hb HX HY HB x0 x1 x2 y0 y1 y2
    have HX := HX1
    have HY := HY1
    have HB := HB1
    clear HX1 HY1 HB1
    obtain ⟨x0, x1, x2, -⟩ := op_cells HX.out
    obtain ⟨y0, y1, y2, -⟩ := op_cells HY.out
    cases hI2 : p2
    case true =>
      go_wp2_with (fail)
      go_ret
      exact ⟨by rw [HH.out]; simp [*], HB.out⟩
    go_wp2_with (fail)
    go_ret
    exact ⟨by rw [HH.out]; simp [*], HB.out⟩
  go_wp2_with (first | refine op_load 2 _ HX.out rfl rfl rfl ?_ | refine op_load 3 _ HY.out rfl rfl rfl ?_ | fail)
  refine (HI1.out _).mono ?_
  rintro e_ w1 ⟨rfl, hb⟩
  have HX1 := Aside0.mk (blk_below HX.out hb)
  have HY1 := Aside0.mk (blk_below HY.out hb)
  have HB1 := Aside0.mk (below_then HB.out HB.out.size hb)
  clear hb HX HY HB x0 x1 x2 y0 y1 y2
  have HX := HX1
  have HY := HY1
  have HB := HB1
  clear HX1 HY1 HB1
  obtain ⟨x0, x1, x2, -⟩ := op_cells HX.out
  obtain ⟨y0, y1, y2, -⟩ := op_cells HY.out
  cases hI1 : p1
  case true =>
    go_wp2_with (fail)
    go_ret
    exact ⟨by rw [HH.out]; simp [*], HB.out⟩
  go_wp2_with (first | refine op_load 2 _ HX.out rfl rfl rfl ?_ | refine op_load 3 _ HY.out rfl rfl rfl ?_ | fail)
  refine (HI2.out _).mono ?_
  rintro e_ w1 ⟨rfl, hb⟩
  have HX1 := Aside0.mk (blk_below HX.out hb)
  have HY1 := Aside0.mk (blk_below HY.out hb)
  have HB1 := Aside0.mk (below_then HB.out HB.out.size hb)
  clear hb HX HY HB x0 x1 x2 y0 y1 y2
  have HX := HX1
  have HY := HY1
  have HB := HB1
  clear HX1 HY1 HB1
  obtain ⟨x0, x1, x2, -⟩ := op_cells HX.out
  obtain ⟨y0, y1, y2, -⟩ := op_cells HY.out
  cases hI2 : p2
  case true =>
    go_wp2_with (fail)
    go_ret
    exact ⟨by rw [HH.out]; simp [*], HB.out⟩
  go_wp2_with (fail)
  go_ret
  exact ⟨by rw [HH.out]; simp [*], HB.out⟩
set_option maxHeartbeats 8000000 in
set_option maxRecDepth 100000 in
attribute [local go_sem high] eqA23 in
theorem clash_Ops.part3 (k : Nat) (x : S27) (A : Option Addr) (c : Nat) (B : Option Addr) (d : Nat) (y : S27) (A2 : Option Addr) (c2 : Nat) (B2 : Option Addr) (d2 : Nat) (l m : List S35) (tx ty : ByteArray) (w : World) (hx : OpAt w x A c B d) (hy : OpAt w y A2 c2 B2 d2) (ix : OpIs k x l tx) (iy : OpIs k y m ty) (b1 : (x.f1.f0.toList == y.f1.f0.toList && x.f1.f1 == y.f1.f1) = true) (b5 : (x.f0 == 5) = true) (g5 : (y.f0 == 5) = false) :
    Calls Tryd.prog 10 #[opV x A c B d, opV y A2 c2 B2 d2] w fun e w' => e = .returned (.int .i64 (opsC x y tx ty l m)) ∧ Below w.heap.size w w' := by
  obtain ⟨r, hr⟩ : ∃ r, r = opsC x y tx ty l m := ⟨_, rfl⟩
  rw [← hr]
  have HX0 := Aside0.mk hx
  have HY0 := Aside0.mk hy
  have hu := Tryd.underlying23
  have HU := Aside0.mk (fun W h1 h2 => clash_hunks.calls x A c B d y A2 c2 B2 d2 W h1 h2 ix.le iy.le)
  have HS := Aside0.mk (fun W => clash_shared.calls k x A c B d y A2 c2 B2 d2 l m W ix.pl iy.pl)
  have HM1 := Aside0.mk (fun W => clash_moves_x x A c B d W)
  have HM2 := Aside0.mk (fun W => clash_moves_x y A2 c2 B2 d2 W)
  have HI1 := Aside0.mk (fun W => clash_in.calls k x A c B d y A2 c2 B2 d2 tx m W ix.tx iy.pl)
  have HI2 := Aside0.mk (fun W => clash_in.calls k y A2 c2 B2 d2 x A c B d ty l W iy.tx ix.pl)
  clear hx hy ix iy
  unfold opsC sameI at hr
  generalize (x.f0 == 3 && inC tx m) = p1 at *
  generalize (y.f0 == 3 && inC ty l) = p2 at *
  have HH := Aside0.mk hr
  clear hr
  go_enter Tryd.func10, Tryd.ntmps10
  go_upto_region 1 with (fail)
  obtain ⟨W, hW⟩ : ∃ W, W = (w.alloc (.cells (opCs x A c B d) 27)).alloc (.cells (opCs y A2 c2 B2 d2) 27) := ⟨_, rfl⟩
  have HX : Aside0 (W.heap[w.heap.size]? = some (.cells (opCs x A c B d) 27 (0, 0))) := ⟨by rw [hW]; exact blk_alloc (heap_alloc_new w _) _⟩
  have HY : Aside0 (W.heap[w.heap.size + 1]? = some (.cells (opCs y A2 c2 B2 d2) 27 (0, 0))) := ⟨by rw [hW]; simpa using heap_alloc_new (w.alloc (.cells (opCs x A c B d) 27)) (.cells (opCs y A2 c2 B2 d2) 27)⟩
  have HB : Aside0 (Below w.heap.size w W) := ⟨by rw [hW]; exact below_alloc (below_alloc (Below.refl _ _) _) _⟩
  rw [← hW]
  clear hW
  obtain ⟨x0, x1, x2, -⟩ := op_cells HX.out
  obtain ⟨y0, y1, y2, -⟩ := op_cells HY.out
  go_upto_region 2 with (fail)
  go_quiet (fail)
  have HX1 := Aside0.mk (blk_drewN HX.out nq)
  have HY1 := Aside0.mk (blk_drewN HY.out nq)
  have HB1 := Aside0.mk (pw_below_drewN HB.out nq)
  generalize W.drewN nq = V at *
  clear HX HY HB x0 x1 x2 y0 y1 y2
  have HX := HX1
  have HY := HY1
  have HB := HB1
  clear HX1 HY1 HB1 HU
  obtain ⟨x0, x1, x2, -⟩ := op_cells HX.out
  obtain ⟨y0, y1, y2, -⟩ := op_cells HY.out
  cases g3 : y.f0 == 3
  case true =>
    go_wp2_with (fail)
    go_ret
    exact ⟨by rw [HH.out]; simp [*], HB.out⟩
  go_wp2_with (first | refine op_load 2 _ HX.out rfl rfl rfl ?_ | refine op_load 3 _ HY.out rfl rfl rfl ?_ | fail)
  refine (HS.out _).mono ?_
  rintro e_ w1 ⟨rfl, hb⟩
  have HX1 := Aside0.mk (blk_below HX.out hb)
  have HY1 := Aside0.mk (blk_below HY.out hb)
  have HB1 := Aside0.mk (below_then HB.out HB.out.size hb)
  clear hb HX HY HB x0 x1 x2 y0 y1 y2
  have HX := HX1
  have HY := HY1
  have HB := HB1
  clear HX1 HY1 HB1
  obtain ⟨x0, x1, x2, -⟩ := op_cells HX.out
  obtain ⟨y0, y1, y2, -⟩ := op_cells HY.out
  cases hS : sharedC l m
  case true =>
    go_wp2_with (fail)
    go_ret
    exact ⟨by rw [HH.out]; simp [*], HB.out⟩
  go_wp2_with (first | refine op_load 2 _ HX.out rfl rfl rfl ?_ | refine op_load 3 _ HY.out rfl rfl rfl ?_ | fail)
  refine (HM1.out _).mono ?_
  rintro e_ w1 ⟨rfl, hb⟩
  have HX1 := Aside0.mk (blk_below HX.out hb)
  have HY1 := Aside0.mk (blk_below HY.out hb)
  have HB1 := Aside0.mk (below_then HB.out HB.out.size hb)
  clear hb HX HY HB x0 x1 x2 y0 y1 y2
  have HX := HX1
  have HY := HY1
  have HB := HB1
  clear HX1 HY1 HB1
  obtain ⟨x0, x1, x2, -⟩ := op_cells HX.out
  obtain ⟨y0, y1, y2, -⟩ := op_cells HY.out
  cases hM1 : movesC x
  case true =>
    go_wp2_with (first | refine op_load 2 _ HX.out rfl rfl rfl ?_ | refine op_load 3 _ HY.out rfl rfl rfl ?_ | fail)
    refine (HM2.out _).mono ?_
    rintro e_ w1 ⟨rfl, hb⟩
    have HX1 := Aside0.mk (blk_below HX.out hb)
    have HY1 := Aside0.mk (blk_below HY.out hb)
    have HB1 := Aside0.mk (below_then HB.out HB.out.size hb)
    clear hb HX HY HB x0 x1 x2 y0 y1 y2
    have HX := HX1
    have HY := HY1
    have HB := HB1
    clear HX1 HY1 HB1
    obtain ⟨x0, x1, x2, -⟩ := op_cells HX.out
    obtain ⟨y0, y1, y2, -⟩ := op_cells HY.out
    cases hM2 : movesC y
    case true =>
      go_wp2_with (fail)
      go_ret
      exact ⟨by rw [HH.out]; simp [*], HB.out⟩
    go_wp2_with (first | refine op_load 2 _ HX.out rfl rfl rfl ?_ | refine op_load 3 _ HY.out rfl rfl rfl ?_ | fail)
    refine (HI1.out _).mono ?_
    rintro e_ w1 ⟨rfl, hb⟩
    have HX1 := Aside0.mk (blk_below HX.out hb)
    have HY1 := Aside0.mk (blk_below HY.out hb)
    have HB1 := Aside0.mk (below_then HB.out HB.out.size hb)
    clear hb HX HY HB x0 x1 x2 y0 y1 y2
    have HX := HX1
    have HY := HY1
    have HB := HB1
    clear HX1 HY1 HB1
    obtain ⟨x0, x1, x2, -⟩ := op_cells HX.out
    obtain ⟨y0, y1, y2, -⟩ := op_cells HY.out
    cases hI1 : p1
    case true =>
      go_wp2_with (fail)
      go_ret
      exact ⟨by rw [HH.out]; simp [*], HB.out⟩
    go_wp2_with (first | refine op_load 2 _ HX.out rfl rfl rfl ?_ | refine op_load 3 _ HY.out rfl rfl rfl ?_ | fail)
    refine (HI2.out _).mono ?_
    rintro e_ w1 ⟨rfl, hb⟩
    have HX1 := Aside0.mk (blk_below HX.out hb)
    have HY1 := Aside0.mk (blk_below HY.out hb)
    have HB1 := Aside0.mk (below_then HB.out HB.out.size hb)
    clear hb HX HY HB x0 x1 x2 y0 y1 y2
    have HX := HX1
    have HY := HY1
    have HB := HB1
    clear HX1 HY1 HB1
    obtain ⟨x0, x1, x2, -⟩ := op_cells HX.out
    obtain ⟨y0, y1, y2, -⟩ := op_cells HY.out
    cases hI2 : p2
    case true =>
      go_wp2_with (fail)
      go_ret
      exact ⟨by rw [HH.out]; simp [*], HB.out⟩
    go_wp2_with (fail)
    go_ret
    exact ⟨by rw [HH.out]; simp [*], HB.out⟩
  go_wp2_with (first | refine op_load 2 _ HX.out rfl rfl rfl ?_ | refine op_load 3 _ HY.out rfl rfl rfl ?_ | fail)
  refine (HI1.out _).mono ?_
  rintro e_ w1 ⟨rfl, hb⟩
  have HX1 := Aside0.mk (blk_below HX.out hb)
  have HY1 := Aside0.mk (blk_below HY.out hb)
  have HB1 := Aside0.mk (below_then HB.out HB.out.size hb)
  clear hb HX HY HB x0 x1 x2 y0 y1 y2
  have HX := HX1
  have HY := HY1
  have HB := HB1
  clear HX1 HY1 HB1
  obtain ⟨x0, x1, x2, -⟩ := op_cells HX.out
  obtain ⟨y0, y1, y2, -⟩ := op_cells HY.out
  cases hI1 : p1
  case true =>
    go_wp2_with (fail)
    go_ret
    exact ⟨by rw [HH.out]; simp [*], HB.out⟩
  go_wp2_with (first | refine op_load 2 _ HX.out rfl rfl rfl ?_ | refine op_load 3 _ HY.out rfl rfl rfl ?_ | fail)
  refine (HI2.out _).mono ?_
  rintro e_ w1 ⟨rfl, hb⟩
  have HX1 := Aside0.mk (blk_below HX.out hb)
  have HY1 := Aside0.mk (blk_below HY.out hb)
  have HB1 := Aside0.mk (below_then HB.out HB.out.size hb)
  clear hb HX HY HB x0 x1 x2 y0 y1 y2
  have HX := HX1
  have HY := HY1
  have HB := HB1
  clear HX1 HY1 HB1
  obtain ⟨x0, x1, x2, -⟩ := op_cells HX.out
  obtain ⟨y0, y1, y2, -⟩ := op_cells HY.out
  cases hI2 : p2
  case true =>
    go_wp2_with (fail)
    go_ret
    exact ⟨by rw [HH.out]; simp [*], HB.out⟩
  go_wp2_with (fail)
  go_ret
  exact ⟨by rw [HH.out]; simp [*], HB.out⟩
set_option maxHeartbeats 8000000 in
set_option maxRecDepth 100000 in
attribute [local go_sem high] eqA23 in
theorem clash_Ops.part4 (k : Nat) (x : S27) (A : Option Addr) (c : Nat) (B : Option Addr) (d : Nat) (y : S27) (A2 : Option Addr) (c2 : Nat) (B2 : Option Addr) (d2 : Nat) (l m : List S35) (tx ty : ByteArray) (w : World) (hx : OpAt w x A c B d) (hy : OpAt w y A2 c2 B2 d2) (ix : OpIs k x l tx) (iy : OpIs k y m ty) (b1 : (x.f1.f0.toList == y.f1.f0.toList && x.f1.f1 == y.f1.f1) = true) (b5 : (x.f0 == 5) = true) (g5 : (y.f0 == 5) = true) (b3 : (x.f0 == 3) = false) (g3 : (y.f0 == 3) = false) :
    Calls Tryd.prog 10 #[opV x A c B d, opV y A2 c2 B2 d2] w fun e w' => e = .returned (.int .i64 (opsC x y tx ty l m)) ∧ Below w.heap.size w w' := by
  obtain ⟨r, hr⟩ : ∃ r, r = opsC x y tx ty l m := ⟨_, rfl⟩
  rw [← hr]
  have HX0 := Aside0.mk hx
  have HY0 := Aside0.mk hy
  have hu := Tryd.underlying23
  have HU := Aside0.mk (fun W h1 h2 => clash_hunks.calls x A c B d y A2 c2 B2 d2 W h1 h2 ix.le iy.le)
  have HS := Aside0.mk (fun W => clash_shared.calls k x A c B d y A2 c2 B2 d2 l m W ix.pl iy.pl)
  have HM1 := Aside0.mk (fun W => clash_moves_x x A c B d W)
  have HM2 := Aside0.mk (fun W => clash_moves_x y A2 c2 B2 d2 W)
  have HI1 := Aside0.mk (fun W => clash_in.calls k x A c B d y A2 c2 B2 d2 tx m W ix.tx iy.pl)
  have HI2 := Aside0.mk (fun W => clash_in.calls k y A2 c2 B2 d2 x A c B d ty l W iy.tx ix.pl)
  clear hx hy ix iy
  unfold opsC sameI at hr
  generalize (x.f0 == 3 && inC tx m) = p1 at *
  generalize (y.f0 == 3 && inC ty l) = p2 at *
  have HH := Aside0.mk hr
  clear hr
  go_enter Tryd.func10, Tryd.ntmps10
  go_upto_region 1 with (fail)
  obtain ⟨W, hW⟩ : ∃ W, W = (w.alloc (.cells (opCs x A c B d) 27)).alloc (.cells (opCs y A2 c2 B2 d2) 27) := ⟨_, rfl⟩
  have HX : Aside0 (W.heap[w.heap.size]? = some (.cells (opCs x A c B d) 27 (0, 0))) := ⟨by rw [hW]; exact blk_alloc (heap_alloc_new w _) _⟩
  have HY : Aside0 (W.heap[w.heap.size + 1]? = some (.cells (opCs y A2 c2 B2 d2) 27 (0, 0))) := ⟨by rw [hW]; simpa using heap_alloc_new (w.alloc (.cells (opCs x A c B d) 27)) (.cells (opCs y A2 c2 B2 d2) 27)⟩
  have HB : Aside0 (Below w.heap.size w W) := ⟨by rw [hW]; exact below_alloc (below_alloc (Below.refl _ _) _) _⟩
  rw [← hW]
  clear hW
  obtain ⟨x0, x1, x2, -⟩ := op_cells HX.out
  obtain ⟨y0, y1, y2, -⟩ := op_cells HY.out
  go_upto_region 2 with (fail)
  go_quiet (fail)
  have HX1 := Aside0.mk (blk_drewN HX.out nq)
  have HY1 := Aside0.mk (blk_drewN HY.out nq)
  have HB1 := Aside0.mk (pw_below_drewN HB.out nq)
  generalize W.drewN nq = V at *
  clear HX HY HB x0 x1 x2 y0 y1 y2
  have HX := HX1
  have HY := HY1
  have HB := HB1
  clear HX1 HY1 HB1
  obtain ⟨x0, x1, x2, -⟩ := op_cells HX.out
  obtain ⟨y0, y1, y2, -⟩ := op_cells HY.out
  go_wp2_with (first | refine op_load 2 _ HX.out rfl rfl rfl ?_ | refine op_load 3 _ HY.out rfl rfl rfl ?_ | fail)
  refine (HU.out _ (HX0.out.below HB.out) (HY0.out.below HB.out)).mono ?_
  rintro e_ w1 ⟨rfl, hb⟩
  have HX1 := Aside0.mk (blk_below HX.out hb)
  have HY1 := Aside0.mk (blk_below HY.out hb)
  have HB1 := Aside0.mk (below_then HB.out HB.out.size hb)
  clear hb HX HY HB x0 x1 x2 y0 y1 y2
  have HX := HX1
  have HY := HY1
  have HB := HB1
  clear HX1 HY1 HB1
  obtain ⟨x0, x1, x2, -⟩ := op_cells HX.out
  obtain ⟨y0, y1, y2, -⟩ := op_cells HY.out
  cases hU : hunksC x y
  case true =>
    go_wp2_with (fail)
    go_ret
    exact ⟨by rw [HH.out]; simp [*], HB.out⟩
  go_wp2_with (first | refine op_load 2 _ HX.out rfl rfl rfl ?_ | refine op_load 3 _ HY.out rfl rfl rfl ?_ | fail)
  refine (HS.out _).mono ?_
  rintro e_ w1 ⟨rfl, hb⟩
  have HX1 := Aside0.mk (blk_below HX.out hb)
  have HY1 := Aside0.mk (blk_below HY.out hb)
  have HB1 := Aside0.mk (below_then HB.out HB.out.size hb)
  clear hb HX HY HB x0 x1 x2 y0 y1 y2
  have HX := HX1
  have HY := HY1
  have HB := HB1
  clear HX1 HY1 HB1
  obtain ⟨x0, x1, x2, -⟩ := op_cells HX.out
  obtain ⟨y0, y1, y2, -⟩ := op_cells HY.out
  cases hS : sharedC l m
  case true =>
    go_wp2_with (fail)
    go_ret
    exact ⟨by rw [HH.out]; simp [*], HB.out⟩
  go_wp2_with (first | refine op_load 2 _ HX.out rfl rfl rfl ?_ | refine op_load 3 _ HY.out rfl rfl rfl ?_ | fail)
  refine (HM1.out _).mono ?_
  rintro e_ w1 ⟨rfl, hb⟩
  have HX1 := Aside0.mk (blk_below HX.out hb)
  have HY1 := Aside0.mk (blk_below HY.out hb)
  have HB1 := Aside0.mk (below_then HB.out HB.out.size hb)
  clear hb HX HY HB x0 x1 x2 y0 y1 y2
  have HX := HX1
  have HY := HY1
  have HB := HB1
  clear HX1 HY1 HB1
  obtain ⟨x0, x1, x2, -⟩ := op_cells HX.out
  obtain ⟨y0, y1, y2, -⟩ := op_cells HY.out
  cases hM1 : movesC x
  case true =>
    go_wp2_with (first | refine op_load 2 _ HX.out rfl rfl rfl ?_ | refine op_load 3 _ HY.out rfl rfl rfl ?_ | fail)
    refine (HM2.out _).mono ?_
    rintro e_ w1 ⟨rfl, hb⟩
    have HX1 := Aside0.mk (blk_below HX.out hb)
    have HY1 := Aside0.mk (blk_below HY.out hb)
    have HB1 := Aside0.mk (below_then HB.out HB.out.size hb)
    clear hb HX HY HB x0 x1 x2 y0 y1 y2
    have HX := HX1
    have HY := HY1
    have HB := HB1
    clear HX1 HY1 HB1
    obtain ⟨x0, x1, x2, -⟩ := op_cells HX.out
    obtain ⟨y0, y1, y2, -⟩ := op_cells HY.out
    cases hM2 : movesC y
    case true =>
      go_wp2_with (fail)
      go_ret
      exact ⟨by rw [HH.out]; simp [*], HB.out⟩
    go_wp2_with (first | refine op_load 2 _ HX.out rfl rfl rfl ?_ | refine op_load 3 _ HY.out rfl rfl rfl ?_ | fail)
    refine (HI1.out _).mono ?_
    rintro e_ w1 ⟨rfl, hb⟩
    have HX1 := Aside0.mk (blk_below HX.out hb)
    have HY1 := Aside0.mk (blk_below HY.out hb)
    have HB1 := Aside0.mk (below_then HB.out HB.out.size hb)
    clear hb HX HY HB x0 x1 x2 y0 y1 y2
    have HX := HX1
    have HY := HY1
    have HB := HB1
    clear HX1 HY1 HB1
    obtain ⟨x0, x1, x2, -⟩ := op_cells HX.out
    obtain ⟨y0, y1, y2, -⟩ := op_cells HY.out
    cases hI1 : p1
    case true =>
      go_wp2_with (fail)
      go_ret
      exact ⟨by rw [HH.out]; simp [*], HB.out⟩
    go_wp2_with (first | refine op_load 2 _ HX.out rfl rfl rfl ?_ | refine op_load 3 _ HY.out rfl rfl rfl ?_ | fail)
    refine (HI2.out _).mono ?_
    rintro e_ w1 ⟨rfl, hb⟩
    have HX1 := Aside0.mk (blk_below HX.out hb)
    have HY1 := Aside0.mk (blk_below HY.out hb)
    have HB1 := Aside0.mk (below_then HB.out HB.out.size hb)
    clear hb HX HY HB x0 x1 x2 y0 y1 y2
    have HX := HX1
    have HY := HY1
    have HB := HB1
    clear HX1 HY1 HB1
    obtain ⟨x0, x1, x2, -⟩ := op_cells HX.out
    obtain ⟨y0, y1, y2, -⟩ := op_cells HY.out
    cases hI2 : p2
    case true =>
      go_wp2_with (fail)
      go_ret
      exact ⟨by rw [HH.out]; simp [*], HB.out⟩
    go_wp2_with (fail)
    go_ret
    exact ⟨by rw [HH.out]; simp [*], HB.out⟩
  go_wp2_with (first | refine op_load 2 _ HX.out rfl rfl rfl ?_ | refine op_load 3 _ HY.out rfl rfl rfl ?_ | fail)
  refine (HI1.out _).mono ?_
  rintro e_ w1 ⟨rfl, hb⟩
  have HX1 := Aside0.mk (blk_below HX.out hb)
  have HY1 := Aside0.mk (blk_below HY.out hb)
  have HB1 := Aside0.mk (below_then HB.out HB.out.size hb)
  clear hb HX HY HB x0 x1 x2 y0 y1 y2
  have HX := HX1
  have HY := HY1
  have HB := HB1
  clear HX1 HY1 HB1
  obtain ⟨x0, x1, x2, -⟩ := op_cells HX.out
  obtain ⟨y0, y1, y2, -⟩ := op_cells HY.out
  cases hI1 : p1
  case true =>
    go_wp2_with (fail)
    go_ret
    exact ⟨by rw [HH.out]; simp [*], HB.out⟩
  go_wp2_with (first | refine op_load 2 _ HX.out rfl rfl rfl ?_ | refine op_load 3 _ HY.out rfl rfl rfl ?_ | fail)
  refine (HI2.out _).mono ?_
  rintro e_ w1 ⟨rfl, hb⟩
  have HX1 := Aside0.mk (blk_below HX.out hb)
  have HY1 := Aside0.mk (blk_below HY.out hb)
  have HB1 := Aside0.mk (below_then HB.out HB.out.size hb)
  clear hb HX HY HB x0 x1 x2 y0 y1 y2
  have HX := HX1
  have HY := HY1
  have HB := HB1
  clear HX1 HY1 HB1
  obtain ⟨x0, x1, x2, -⟩ := op_cells HX.out
  obtain ⟨y0, y1, y2, -⟩ := op_cells HY.out
  cases hI2 : p2
  case true =>
    go_wp2_with (fail)
    go_ret
    exact ⟨by rw [HH.out]; simp [*], HB.out⟩
  go_wp2_with (fail)
  go_ret
  exact ⟨by rw [HH.out]; simp [*], HB.out⟩
theorem clash_Ops.calls (k : Nat) (x : S27) (A : Option Addr) (c : Nat) (B : Option Addr) (d : Nat) (y : S27) (A2 : Option Addr) (c2 : Nat) (B2 : Option Addr) (d2 : Nat) (l m : List S35) (tx ty : ByteArray) (w : World) (hx : OpAt w x A c B d) (hy : OpAt w y A2 c2 B2 d2) (ix : OpIs k x l tx) (iy : OpIs k y m ty) :
    Calls Tryd.prog 10 #[opV x A c B d, opV y A2 c2 B2 d2] w fun e w' => e = .returned (.int .i64 (opsC x y tx ty l m)) ∧ Below w.heap.size w w' := by
  have H53 : ∀ z : Int, (z == 5) = true → (z == 3) = false := fun z h => by rw [eq_of_beq h]; rfl
  cases b1 : (x.f1.f0.toList == y.f1.f0.toList && x.f1.f1 == y.f1.f1)
  case false => exact clash_Ops.part0 k x A c B d y A2 c2 B2 d2 l m tx ty w hx hy ix iy b1
  cases b5 : x.f0 == 5
  case false =>
    cases g5 : y.f0 == 5
    case false => exact clash_Ops.part1 k x A c B d y A2 c2 B2 d2 l m tx ty w hx hy ix iy b1 b5 g5
    exact clash_Ops.part2 k x A c B d y A2 c2 B2 d2 l m tx ty w hx hy ix iy b1 b5 g5
  cases g5 : y.f0 == 5
  case false => exact clash_Ops.part3 k x A c B d y A2 c2 B2 d2 l m tx ty w hx hy ix iy b1 b5 g5
  exact clash_Ops.part4 k x A c B d y A2 c2 B2 d2 l m tx ty w hx hy ix iy b1 b5 g5 (H53 _ b5) (H53 _ g5)
end Go.Proofs.YtmimejckcknjfaaDoor.G
