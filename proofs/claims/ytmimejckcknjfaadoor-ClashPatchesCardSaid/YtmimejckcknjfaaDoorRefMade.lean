/- R12.made, R12.or: the walks. -/
import Derived.Test.YtmimejckcknjfaaDoorClashOps
import Derived.Test.YtmimejckcknjfaaDoorClashIds
set_option linter.unusedVariables false
namespace Go.Proofs.YtmimejckcknjfaaDoor.G
open Go.RowKit Go.Proofs.YtmimejckcknjfaaDoorW.PrintWords Go.Proofs.YtmimejckcknjfaaDoorW.PrintLast Go.Proofs.YtmimejckcknjfaaDoorW.PrintMore Go.Proofs.YtmimejckcknjfaaDoor.Plain

/-- Why two operations clash: the answer of clash.Ops, of the texts of their own ids and of the places that they touch. -/
def opsC (x y : S27) (tx ty : ByteArray) (l m : List S35) : Int :=
  bif (sameI x.f1 y.f1 && (x.f0 == 5 && (y.f0 == 5 && hunksC x y))) then 1
  else bif (sameI x.f1 y.f1 && (x.f0 == 5 && y.f0 == 3 || y.f0 == 5 && x.f0 == 3)) then 2
  else bif sharedC l m then 3
  else bif (sameI x.f1 y.f1 && (movesC x && movesC y)) then 4
  else bif (x.f0 == 3 && inC tx m || y.f0 == 3 && inC ty l) then 5 else 0
/-- What an operation's walk needs. -/
structure OpIs (k : Nat) (x : S27) (l : List S35) (t : ByteArray) : Prop where
  pl : clash_Places.f k x = some l
  tx : ident_Text.f k x.f1.f0 x.f1.f1 = some t
  le : x.f8.length ≤ 1000000
set_option linter.unusedSimpArgs false
set_option maxHeartbeats 2000000 in
theorem r12_made.calls (x : TId) (w : World) (hs : x.f0.size ≤ 9000000000000000000) :
    Calls Tryd.prog 26 #[.agg #[.string x.f0, .int .i64 x.f1]] w fun e w' => e = .returned (.bool (madeI x)) ∧ Below w.heap.size w w' := by
  obtain ⟨k, hk⟩ := rightI_ev x hs
  have H := Aside0.mk (fun W => rafterref11_Right.calls k x.f0 x.f1 _ W (hk k (Nat.le_refl k)))
  have HB0 := Aside0.mk (below_alloc (Below.refl w.heap.size w) (.cells #[.string x.f0, .int .i64 x.f1] 23))
  have HK0 := Aside0.mk (show (w.alloc (.cells #[.string x.f0, .int .i64 x.f1] 23)).heap[w.heap.size]? = some (.cells #[.string x.f0, .int .i64 x.f1] 23 (0, 0)) by simpa using heap_alloc_new w _)
  clear hk hs
  unfold madeI
  generalize rightI x = b at *
  go_enter Tryd.func26, Tryd.ntmps26
  go_wp2_with (fail)
  refine (H.out _).mono ?_
  rintro e_ w1 ⟨rfl, hb⟩
  have HB1 := Aside0.mk (below_then HB0.out HB0.out.size hb)
  obtain ⟨x0, x1, -⟩ := cells2 (blk_below HK0.out hb)
  clear hb HK0 HB0 H
  cases b
  all_goals
    go_wp2
    go_ret
    exact ⟨by rw [show (x.f0.toList != []) = !x.f0.toList.isEmpty by cases x.f0.toList <;> rfl]; rfl, HB1.out⟩
set_option maxHeartbeats 2000000 in
attribute [local go_sem high] eqA23 in
theorem r12_or.calls (x : TId) (n : Int) (w : World) (hs : x.f0.size ≤ 9000000000000000000) :
    Calls Tryd.prog 29 #[.agg #[.string x.f0, .int .i64 x.f1], .int .i64 n] w fun e w' => e = .returned (.bool (orI x n)) ∧ Below w.heap.size w w' := by
  have H := Aside0.mk (fun W => r12_made.calls x W hs)
  have hu := Tryd.underlying23
  have HB0 := Aside0.mk (below_alloc (Below.refl w.heap.size w) (.cells #[.string x.f0, .int .i64 x.f1] 23))
  have HK0 := Aside0.mk (show (w.alloc (.cells #[.string x.f0, .int .i64 x.f1] 23)).heap[w.heap.size]? = some (.cells #[.string x.f0, .int .i64 x.f1] 23 (0, 0)) by simpa using heap_alloc_new w _)
  clear hs
  unfold orI
  generalize madeI x = b at *
  go_enter Tryd.func29, Tryd.ntmps29
  obtain ⟨x0, x1, -⟩ := cells2 HK0.out
  go_wp2_with (fail)
  refine (H.out _).mono ?_
  rintro e_ w1 ⟨rfl, hb⟩
  have HB1 := Aside0.mk (below_then HB0.out HB0.out.size hb)
  clear x0 x1
  obtain ⟨x0, x1, -⟩ := cells2 (blk_below HK0.out hb)
  clear hb HK0 HB0 H
  cases b
  all_goals
    go_wp2
    go_ret
    exact ⟨by rw [show (x.f0.toList == []) = x.f0.toList.isEmpty by cases x.f0.toList <;> rfl]; rfl, HB1.out⟩
end Go.Proofs.YtmimejckcknjfaaDoor.G
