/- ReplyNumbers in plain words. -/
import Derived.Test.YtloibeefopdhpaaDoorReplyNum
import Derived.Test.YtloibeefopdhpaaDoorReplyAwake
import Derived.Test.YtloibeefopdhpaaDoorG18
set_option linter.unusedVariables false
namespace Go.Proofs.YtloibeefopdhpaaDoor.Plain
open Go.RowKit Go.Proofs.YtloibeefopdhpaaDoor.G Go.Proofs.YtloibeefopdhpaaDoorW.PrintWords Go.Proofs.YtloibeefopdhpaaDoorW.PrintLast Go.Proofs.YtloibeefopdhpaaDoorW.PrintMore
theorem awake36 : Ev (fun k => rafterlaw36_awake.f k) true := Ev.of (fun k => rafterlaw36_awake.mono k) (k := 100) (by kernel_rfl)
theorem numL_length (n : Int) (h0 : -9223372036854775808 ≤ n) (h1 : n ≤ 9223372036854775807) : (numL n).length ≤ 20 := by
  have := decN_length 18 n.natAbs (by omega)
  unfold numL
  split
  · rw [List.length_cons]; omega
  · omega
end Go.Proofs.YtloibeefopdhpaaDoor.Plain
namespace Go.Proofs.YtloibeefopdhpaaDoor.Pure
open Go.RowKit Go.Proofs.YtloibeefopdhpaaDoor.G Go.Proofs.YtloibeefopdhpaaDoor.Plain Go.Proofs.YtloibeefopdhpaaDoorW.PrintWords Go.Proofs.YtloibeefopdhpaaDoorW.PrintLast Go.Proofs.YtloibeefopdhpaaDoorW.PrintMore

theorem ReplyNumbers : rafterlaw36_ReplyNumbers.Pure := by
  intro n w hn hw
  suffices h : Ev (fun k => rafterlaw36_ReplyNumbers.f k n w) true by
    obtain ⟨N, hN⟩ := h
    exact ⟨N, hN N (Nat.le_refl _)⟩
  have hr : -9223372036854775808 ≤ n ∧ n ≤ 9223372036854775807 := by
    have e1 : IntKind.i64.min = -9223372036854775808 := by decide
    have e2 : IntKind.i64.max = 9223372036854775807 := by decide
    simp [Lit.wf, e1, e2] at hn
    exact hn
  obtain ⟨h0, h1⟩ := hr
  unfold rafterlaw36_ReplyNumbers.f
  by_cases hs : (w.size : Int) > 100
  · exact Ev.pos hs (Ev.bind awake36 (Ev.now _))
  have hu := unnumber_ev (B (numL n)) (by rw [size_B]; have := numL_length n h0 h1; omega)
  rw [toList_B, unnum_num n h0 h1] at hu
  refine Ev.neg hs (Ev.bind (number_ev n h0 h1) (Ev.bind hu (Ev.bind (unnumber_ev w (by omega)) (Ev.bind awake36 (Ev.pos rfl (Ev.bind (refNumber_ev n h0 h1) (Ev.pos rfl (Ev.pos rfl (Ev.pos rfl ?_)))))))))
  rcases unnum_out w.toList with ⟨m, m0, m1, e, hm⟩ | e
  · rw [e]
    exact Ev.pos rfl (Ev.bind (refNumber_ev m m0 m1) (Ev.pos (by rw [toList_B, hm]) (Ev.now _)))
  · rw [e]
    exact Ev.neg (by decide) (Ev.pos rfl (Ev.now _))
end Go.Proofs.YtloibeefopdhpaaDoor.Pure
