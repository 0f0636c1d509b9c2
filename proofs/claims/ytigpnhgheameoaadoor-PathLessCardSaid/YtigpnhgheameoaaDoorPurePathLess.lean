/- PathLess in plain words. -/
import Derived.Test.YtigpnhgheameoaaDoorPathRef
import Derived.Test.YtigpnhgheameoaaDoorG13
set_option linter.unusedVariables false
namespace Go.Proofs.YtigpnhgheameoaaDoor.Pure
open Go.RowKit Go.Proofs.YtigpnhgheameoaaDoor.G Go.Proofs.YtigpnhgheameoaaDoor.Plain Go.Proofs.YtigpnhgheameoaaDoorW.PrintWords Go.Proofs.YtigpnhgheameoaaDoorW.PrintLast Go.Proofs.YtigpnhgheameoaaDoorW.PrintMore

theorem awake05 : Ev (fun k => rafterlaw05_awake.f k) true := Ev.of (fun k => rafterlaw05_awake.mono k) (k := 40) (by kernel_rfl)

theorem PathLess : rafterlaw05_PathLess.Pure := by
  intro a b c ha hb hc
  suffices h : Ev (fun k => rafterlaw05_PathLess.f k a b c) true by
    obtain ⟨N, hN⟩ := h
    exact ⟨N, hN N (Nat.le_refl _)⟩
  have hT : Ev (fun k => rafterlaw05_PathLess.j0 k a b c true) true := by
    refine Ev.step (fun k => ?_) (Ev.bind awake05 (Ev.now _))
    simp only [rafterlaw05_PathLess.j0]
    rw [if_pos trivial]
  unfold rafterlaw05_PathLess.f
  by_cases h1 : (a.size : Int) > 400
  · exact Ev.pos h1 hT
  refine Ev.neg h1 ?_
  by_cases h2 : (b.size : Int) > 400
  · exact Ev.pos h2 hT
  refine Ev.neg h2 ?_
  by_cases h3 : (c.size : Int) > 400
  · rw [decide_eq_true h3]; exact hT
  rw [decide_eq_false h3]
  refine Ev.step (fun k => by simp only [rafterlaw05_PathLess.j0]; rw [if_neg (by decide)]) ?_
  refine Ev.bind (pathLess_ev a b (by omega) (by omega)) (Ev.bind (pathLess_ev b a (by omega) (by omega)) (Ev.bind (pathLess_ev b c (by omega) (by omega)) (Ev.bind awake05 (Ev.pos rfl (Ev.bind (refLess_ev a b (by omega) (by omega)) (Ev.pos (by simp) ?_))))))
  by_cases e1 : pathLess a.toList b.toList = true
  · refine Ev.pos e1 (Ev.neg (by rw [pathLess_asymm _ _ e1]; decide) ?_)
    by_cases e2 : pathLess b.toList c.toList = true
    · have e3 := pathLess_trans _ _ _ e1 e2
      have := pathLess_ev a c (by omega) (by omega)
      rw [e3] at this
      exact Ev.pos e2 (Ev.bind this (Ev.now _))
    · exact Ev.neg e2 (Ev.now _)
  · refine Ev.neg e1 ?_
    by_cases e2 : pathLess b.toList a.toList = true
    · exact Ev.pos e2 (Ev.now _)
    · refine Ev.neg e2 (Ev.pos (pathLess_total _ _ (by simpa using e1) (by simpa using e2)) (Ev.now _))

end Go.Proofs.YtigpnhgheameoaaDoor.Pure
