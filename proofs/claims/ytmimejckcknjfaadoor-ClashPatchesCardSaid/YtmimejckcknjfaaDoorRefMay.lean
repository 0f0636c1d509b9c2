/- R12.May: it answers, and true of operations of which what the law needs is so: the walk. Printed by wip/tools/gen_may.py. -/
import Derived.Test.YtmimejckcknjfaaDoorRefHunk
set_option linter.unusedVariables false
set_option linter.unusedSimpArgs false
namespace Go.Proofs.YtmimejckcknjfaaDoor.G
open Go.RowKit Go.Proofs.YtmimejckcknjfaaDoorW.PrintWords Go.Proofs.YtmimejckcknjfaaDoorW.PrintLast Go.Proofs.YtmimejckcknjfaaDoorW.PrintMore Go.Proofs.YtmimejckcknjfaaDoor.Plain

/-- What is asked of operations that may be. -/
structure MayOp (x : TOp) : Prop where
  self : madeI x.f1 = true
  k1 : 1 ≤ x.f0
  k5 : x.f0 ≤ 5
  par : x.f0 ≠ 5 → orI x.f2 0 = true
  dest : x.f0 = 4 → orI x.f3 0 = true
theorem none_calls (x : TId) (W : World) : Calls Tryd.prog 27 #[.agg #[.string x.f0, .int .i64 x.f1]] W fun e w' => e = .returned (.bool (x.f0.toList == ([] : List UInt8) && (x.f1 == 0))) ∧ Below W.heap.size W w' := rafterref12_none.calls x.f0 x.f1 _ W rfl
theorem name_calls (s : ByteArray) (hs : s.size ≤ 9000000000000000000) (W : World) : Calls Tryd.prog 30 #[.string s] W fun e w' => e = .returned (.bool (nameOk s.toList)) ∧ Below W.heap.size W w' := by
  obtain ⟨k, hk⟩ := right_ev s hs
  refine (rafterref02_Right.calls k s _ W (hk k (Nat.le_refl k))).mono ?_
  rintro e w' ⟨rfl, ⟨⟨n, rfl⟩⟩⟩
  exact ⟨rfl, pw_below_drewN (Below.refl _ _) _⟩
set_option maxHeartbeats 8000000 in
set_option maxRecDepth 100000 in
attribute [local go_sem high] eqA23 in
theorem r12_May.calls (x : TOp) (A : Option Addr) (c : Nat) (B : Option Addr) (d : Nat) (w : World) (hx : OpAt w x A c B d) (hs : OpSized x) (hG : Gl w) :
    Calls Tryd.prog 15 #[opV x A c B d] w fun e w' => (∃ r : Bool, e = .returned (.bool r) ∧ (r = true → MayOp x)) ∧ Below w.heap.size w w' := by
  have hu := Tryd.underlying23
  have HX0 := Aside0.mk hx
  have HG := Aside0.mk hG
  have HM := Aside0.mk (fun W => r12_made.calls x.f1 W hs.s1)
  have HP := Aside0.mk (fun W => r12_or.calls x.f2 0 W hs.s2)
  have HT := Aside0.mk (fun W => r12_or.calls x.f3 0 W hs.s3)
  have HN4 := Aside0.mk (fun W => name_calls x.f4 hs.s4 W)
  have HN5 := Aside0.mk (fun W => name_calls x.f5 hs.s5 W)
  have HH := Aside0.mk (fun W q g => r12_hunk.calls x A c B d W q hs g)
  clear hx hs hG
  go_enter Tryd.func15, Tryd.ntmps15
  go_upto_region 1 with (fail)
  obtain ⟨W, hW⟩ : ∃ W, W = w.alloc (.cells (opCs x A c B d) 27) := ⟨_, rfl⟩
  have HX : Aside0 (W.heap[w.heap.size]? = some (.cells (opCs x A c B d) 27 (0, 0))) := ⟨by rw [hW]; exact heap_alloc_new w _⟩
  have HB : Aside0 (Below w.heap.size w W) := ⟨by rw [hW]; exact below_alloc (Below.refl _ _) _⟩
  rw [← hW]
  clear hW
  have x1 := (blk_cell HX.out 1).trans rfl
  have x2 := (blk_cell HX.out 2).trans rfl
  go_wp2_with (fail)
  refine (HM.out _).mono ?_
  rintro e_ w1 ⟨rfl, hb⟩
  have HB1 := Aside0.mk (below_then HB.out HB.out.size hb)
  have HX1 := Aside0.mk (blk_below HX.out hb)
  clear hb HB HX x1 x2
  have HB := HB1
  have HX := HX1
  clear HB1 HX1
  cases hm : madeI x.f1
  case false =>
    go_wp2_with (fail)
    go_ret
    exact ⟨⟨false, rfl, fun h => by cases h⟩, HB.out⟩
  have x0 := (blk_cell HX.out 0).trans rfl
  by_cases k1 : x.f0 < 1
  case pos =>
    have k1x0 : (x.f0 < 1) = True := eq_true (by omega)
    clear k1
    go_wp2_with (fail)
    go_ret
    exact ⟨⟨false, rfl, fun h => by cases h⟩, HB.out⟩
  have k1x0 : (x.f0 < 1) = False := eq_false (by omega)
  by_cases k2 : x.f0 > 5
  case pos =>
    have k2x0 : (x.f0 > 5) = True := eq_true (by omega)
    have k2x1 : (5 < x.f0) = True := eq_true (by omega)
    clear k2
    go_wp2_with (fail)
    go_ret
    exact ⟨⟨false, rfl, fun h => by cases h⟩, HB.out⟩
  have k2x0 : (x.f0 > 5) = False := eq_false (by omega)
  have k2x1 : (5 < x.f0) = False := eq_false (by omega)
  have HK : Aside0 (madeI x.f1 = true ∧ 1 ≤ x.f0 ∧ x.f0 ≤ 5) := ⟨hm, by omega, by omega⟩
  clear k1 k2 hm
  go_upto_region 3 with (fail)
  cases k5 : x.f0 == 5
  case true =>
    have H5 := Aside0.mk (eq_of_beq k5)
    clear x0
    have x0 := (blk_cell HX.out 0).trans rfl
    have x3 := (blk_cell HX.out 3).trans rfl
    have x4 := (blk_cell HX.out 4).trans rfl
    go_wp2_with (fail)
    refine (none_calls x.f2 _).mono ?_
    rintro e_ w1 ⟨rfl, hb⟩
    have HB1 := Aside0.mk (below_then HB.out HB.out.size hb)
    have HX1 := Aside0.mk (blk_below HX.out hb)
    clear hb HB HX x0 x3 x4
    have HB := HB1
    have HX := HX1
    clear HB1 HX1
    cases n1 : (x.f2.f0.toList == ([] : List UInt8) && (x.f2.f1 == 0))
    case false =>
      go_wp2_with (fail)
      go_ret
      exact ⟨⟨false, rfl, fun h => by cases h⟩, HB.out⟩
    have x5 := (blk_cell HX.out 5).trans rfl
    have x6 := (blk_cell HX.out 6).trans rfl
    go_wp2_with (fail)
    refine (none_calls x.f3 _).mono ?_
    rintro e_ w1 ⟨rfl, hb⟩
    have HB1 := Aside0.mk (below_then HB.out HB.out.size hb)
    have HX1 := Aside0.mk (blk_below HX.out hb)
    clear hb HB HX x5 x6
    have HB := HB1
    have HX := HX1
    clear HB1 HX1
    cases n2 : (x.f3.f0.toList == ([] : List UInt8) && (x.f3.f1 == 0))
    case false =>
      go_wp2_with (fail)
      go_ret
      exact ⟨⟨false, rfl, fun h => by cases h⟩, HB.out⟩
    clear n1 n2
    have x7 := (blk_cell HX.out 7).trans rfl
    have x8 := (blk_cell HX.out 8).trans rfl
    obtain ⟨b, hb0, hb1, hb2⟩ : ∃ b, x.f4.toList.isEmpty = b ∧ (x.f4.toList == []) = b ∧ (x.f4.toList != []) = !b := ⟨_, rfl, by cases x.f4.toList <;> rfl, by cases x.f4.toList <;> rfl⟩
    cases b
    case false =>
      go_wp2_with (fail)
      go_ret
      exact ⟨⟨false, rfl, fun h => by cases h⟩, HB.out⟩
    obtain ⟨b, hb0, hb1, hb2⟩ : ∃ b, x.f5.toList.isEmpty = b ∧ (x.f5.toList == []) = b ∧ (x.f5.toList != []) = !b := ⟨_, rfl, by cases x.f5.toList <;> rfl, by cases x.f5.toList <;> rfl⟩
    cases b
    case false =>
      go_wp2_with (fail)
      go_ret
      exact ⟨⟨false, rfl, fun h => by cases h⟩, HB.out⟩
    go_wp2_with (first | refine op_load 1 _ HX.out rfl rfl rfl ?_ | fail)
    refine (HH.out _ (HX0.out.below HB.out) (HG.out.below HB.out)).mono ?_
    rintro e_ w1 ⟨⟨r, rfl⟩, hb⟩
    have HB1 := Aside0.mk (below_then HB.out HB.out.size hb)
    have HX1 := Aside0.mk (blk_below HX.out hb)
    clear hb HB HX x7 x8
    have HB := HB1
    have HX := HX1
    clear HB1 HX1
    clear hb0 hb1 hb2
    go_wp2_with (fail)
    go_ret
    exact ⟨⟨r, rfl, fun _ => ⟨HK.out.1, HK.out.2.1, HK.out.2.2, fun h => absurd H5.out h, fun h => by have := H5.out; omega⟩⟩, HB.out⟩
  clear x0
  have x0 := (blk_cell HX.out 0).trans rfl
  have x9 := (blk_cell HX.out 9).trans rfl
  have x10 := (blk_cell HX.out 10).trans rfl
  go_wp2_with (fail)
  refine (none_calls x.f6 _).mono ?_
  rintro e_ w1 ⟨rfl, hb⟩
  have HB1 := Aside0.mk (below_then HB.out HB.out.size hb)
  have HX1 := Aside0.mk (blk_below HX.out hb)
  clear hb HB HX x0 x9 x10
  have HB := HB1
  have HX := HX1
  clear HB1 HX1
  cases n1 : (x.f6.f0.toList == ([] : List UInt8) && (x.f6.f1 == 0))
  case false =>
    go_wp2_with (fail)
    go_ret
    exact ⟨⟨false, rfl, fun h => by cases h⟩, HB.out⟩
  have x11 := (blk_cell HX.out 11).trans rfl
  have x12 := (blk_cell HX.out 12).trans rfl
  go_wp2_with (fail)
  refine (none_calls x.f7 _).mono ?_
  rintro e_ w1 ⟨rfl, hb⟩
  have HB1 := Aside0.mk (below_then HB.out HB.out.size hb)
  have HX1 := Aside0.mk (blk_below HX.out hb)
  clear hb HB HX x11 x12
  have HB := HB1
  have HX := HX1
  clear HB1 HX1
  cases n2 : (x.f7.f0.toList == ([] : List UInt8) && (x.f7.f1 == 0))
  case false =>
    go_wp2_with (fail)
    go_ret
    exact ⟨⟨false, rfl, fun h => by cases h⟩, HB.out⟩
  clear n1 n2
  have x3 := (blk_cell HX.out 3).trans rfl
  have x4 := (blk_cell HX.out 4).trans rfl
  have x13 := (blk_cell HX.out 13).trans rfl
  have x14 := (blk_cell HX.out 14).trans rfl
  have x15 := (blk_cell HX.out 15).trans rfl
  by_cases g1 : x.f8.length > 0
  case pos =>
    have g1x0 : (x.f8.length > 0) = True := eq_true (by omega)
    have g1x1 : (0 < x.f8.length) = True := eq_true (by omega)
    have g1x2 : ((x.f8.length : Int) > 0) = True := eq_true (by omega)
    have g1x3 : ((0 : Int) < (x.f8.length : Int)) = True := eq_true (by omega)
    clear g1
    go_wp2_with (fail)
    go_ret
    exact ⟨⟨false, rfl, fun h => by cases h⟩, HB.out⟩
  have g1x0 : (x.f8.length > 0) = False := eq_false (by omega)
  have g1x1 : (0 < x.f8.length) = False := eq_false (by omega)
  have g1x2 : ((x.f8.length : Int) > 0) = False := eq_false (by omega)
  have g1x3 : ((0 : Int) < (x.f8.length : Int)) = False := eq_false (by omega)
  obtain ⟨b, hb0, hb1⟩ : ∃ b, (x.f9 == 0) = b ∧ (x.f9 != 0) = !b := ⟨_, rfl, rfl⟩
  cases b
  case false =>
    go_wp2_with (fail)
    go_ret
    exact ⟨⟨false, rfl, fun h => by cases h⟩, HB.out⟩
  by_cases g2 : x.f10.length > 0
  case pos =>
    have g2x0 : (x.f10.length > 0) = True := eq_true (by omega)
    have g2x1 : (0 < x.f10.length) = True := eq_true (by omega)
    have g2x2 : ((x.f10.length : Int) > 0) = True := eq_true (by omega)
    have g2x3 : ((0 : Int) < (x.f10.length : Int)) = True := eq_true (by omega)
    clear g2
    go_wp2_with (fail)
    go_ret
    exact ⟨⟨false, rfl, fun h => by cases h⟩, HB.out⟩
  have g2x0 : (x.f10.length > 0) = False := eq_false (by omega)
  have g2x1 : (0 < x.f10.length) = False := eq_false (by omega)
  have g2x2 : ((x.f10.length : Int) > 0) = False := eq_false (by omega)
  have g2x3 : ((0 : Int) < (x.f10.length : Int)) = False := eq_false (by omega)
  go_wp2_with (fail)
  refine (HP.out _).mono ?_
  rintro e_ w1 ⟨rfl, hb⟩
  have HB1 := Aside0.mk (below_then HB.out HB.out.size hb)
  have HX1 := Aside0.mk (blk_below HX.out hb)
  clear hb HB HX x3 x4 x13 x14 x15
  have HB := HB1
  have HX := HX1
  clear HB1 HX1
  clear g1 g2 g1x0 g1x1 g1x2 g1x3 g2x0 g2x1 g2x2 g2x3 hb0 hb1
  cases hp : orI x.f2 0
  case false =>
    go_wp2_with (fail)
    go_ret
    exact ⟨⟨false, rfl, fun h => by cases h⟩, HB.out⟩
  have HPa := Aside0.mk hp
  clear hp
  have x7 := (blk_cell HX.out 7).trans rfl
  go_wp2_with (fail)
  refine (HN4.out _).mono ?_
  rintro e_ w1 ⟨rfl, hb⟩
  have HB1 := Aside0.mk (below_then HB.out HB.out.size hb)
  have HX1 := Aside0.mk (blk_below HX.out hb)
  clear hb HB HX x7
  have HB := HB1
  have HX := HX1
  clear HB1 HX1
  cases h4 : nameOk x.f4.toList
  case false =>
    go_wp2_with (fail)
    go_ret
    exact ⟨⟨false, rfl, fun h => by cases h⟩, HB.out⟩
  clear h4
  have x0 := (blk_cell HX.out 0).trans rfl
  cases k4 : x.f0 == 4
  case true =>
    clear x0
    have x0 := (blk_cell HX.out 0).trans rfl
    have x5 := (blk_cell HX.out 5).trans rfl
    have x6 := (blk_cell HX.out 6).trans rfl
    go_wp2_with (fail)
    refine (HT.out _).mono ?_
    rintro e_ w1 ⟨rfl, hb⟩
    have HB1 := Aside0.mk (below_then HB.out HB.out.size hb)
    have HX1 := Aside0.mk (blk_below HX.out hb)
    clear hb HB HX x0 x5 x6
    have HB := HB1
    have HX := HX1
    clear HB1 HX1
    cases ht : orI x.f3 0
    case false =>
      go_wp2_with (fail)
      go_ret
      exact ⟨⟨false, rfl, fun h => by cases h⟩, HB.out⟩
    have HTo := Aside0.mk ht
    clear ht
    have x8 := (blk_cell HX.out 8).trans rfl
    go_wp2_with (fail)
    refine (HN5.out _).mono ?_
    rintro e_ w1 ⟨rfl, hb⟩
    have HB1 := Aside0.mk (below_then HB.out HB.out.size hb)
    have HX1 := Aside0.mk (blk_below HX.out hb)
    clear hb HB HX x8
    have HB := HB1
    have HX := HX1
    clear HB1 HX1
    cases h5 : nameOk x.f5.toList
    case false =>
      go_wp2_with (fail)
      go_ret
      exact ⟨⟨false, rfl, fun h => by cases h⟩, HB.out⟩
    clear h5
    have x3 := (blk_cell HX.out 3).trans rfl
    have x4 := (blk_cell HX.out 4).trans rfl
    have x5 := (blk_cell HX.out 5).trans rfl
    have x6 := (blk_cell HX.out 6).trans rfl
    have x7 := (blk_cell HX.out 7).trans rfl
    have x8 := (blk_cell HX.out 8).trans rfl
    cases hq : (x.f3.f0.toList == x.f2.f0.toList && x.f3.f1 == x.f2.f1)
    all_goals
      go_wp2_with (fail)
      go_ret
      exact ⟨⟨_, rfl, fun _ => ⟨HK.out.1, HK.out.2.1, HK.out.2.2, fun _ => HPa.out, fun _ => HTo.out⟩⟩, HB.out⟩
  clear x0
  have x0 := (blk_cell HX.out 0).trans rfl
  have x5 := (blk_cell HX.out 5).trans rfl
  have x6 := (blk_cell HX.out 6).trans rfl
  go_wp2_with (fail)
  refine (none_calls x.f3 _).mono ?_
  rintro e_ w1 ⟨rfl, hb⟩
  have HB1 := Aside0.mk (below_then HB.out HB.out.size hb)
  have HX1 := Aside0.mk (blk_below HX.out hb)
  clear hb HB HX x0 x5 x6
  have HB := HB1
  have HX := HX1
  clear HB1 HX1
  cases n1 : (x.f3.f0.toList == ([] : List UInt8) && (x.f3.f1 == 0))
  case false =>
    go_wp2_with (fail)
    go_ret
    exact ⟨⟨false, rfl, fun h => by cases h⟩, HB.out⟩
  clear n1
  have x8 := (blk_cell HX.out 8).trans rfl
  have HK4 := Aside0.mk k4
  go_wp2_with (fail)
  go_ret
  exact ⟨⟨_, rfl, fun _ => ⟨HK.out.1, HK.out.2.1, HK.out.2.2, fun _ => HPa.out, fun h => by have := HK4.out; rw [h] at this; cases this⟩⟩, HB.out⟩
end Go.Proofs.YtmimejckcknjfaaDoor.G
