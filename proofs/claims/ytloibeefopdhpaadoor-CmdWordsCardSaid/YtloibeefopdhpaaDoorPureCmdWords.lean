/- CmdWords in plain words. -/
import Derived.Test.YtloibeefopdhpaaDoorCmdWord
import Derived.Test.YtloibeefopdhpaaDoorG15
set_option linter.unusedVariables false
namespace Go.Proofs.YtloibeefopdhpaaDoor.Plain
open Go.RowKit Go.Proofs.YtloibeefopdhpaaDoor.G Go.Proofs.YtloibeefopdhpaaDoorW.PrintWords Go.Proofs.YtloibeefopdhpaaDoorW.PrintLast Go.Proofs.YtloibeefopdhpaaDoorW.PrintMore
theorem awake35 : Ev (fun k => rafterlaw35_awake.f k) true := Ev.of (fun k => rafterlaw35_awake.mono k) (k := 60) (by kernel_rfl)
theorem unword_word (l : List UInt8) : unwordL (wordL l) = (l, 0) := by rw [unwordL, read_word, if_pos rfl]
end Go.Proofs.YtloibeefopdhpaaDoor.Plain
namespace Go.Proofs.YtloibeefopdhpaaDoor.Pure
open Go.RowKit Go.Proofs.YtloibeefopdhpaaDoor.G Go.Proofs.YtloibeefopdhpaaDoor.Plain Go.Proofs.YtloibeefopdhpaaDoorW.PrintWords Go.Proofs.YtloibeefopdhpaaDoorW.PrintLast Go.Proofs.YtloibeefopdhpaaDoorW.PrintMore

theorem CmdWords : rafterlaw35_CmdWords.Pure := by
  intro s w hs0 hw0
  suffices h : Ev (fun k => rafterlaw35_CmdWords.f k s w) true by
    obtain ⟨N, hN⟩ := h
    exact ⟨N, hN N (Nat.le_refl _)⟩
  have hT : Ev (fun k => rafterlaw35_CmdWords.j0 k s w true) true := by
    refine Ev.step (fun k => by rw [rafterlaw35_CmdWords.j0, if_pos rfl]) (Ev.bind awake35 (Ev.now _))
  unfold rafterlaw35_CmdWords.f
  by_cases hs : (s.size : Int) > 500
  · exact Ev.pos hs hT
  refine Ev.neg hs ?_
  by_cases hw : (w.size : Int) > 500
  · rw [decide_eq_true hw]; exact hT
  rw [decide_eq_false hw]
  have hl := word_length s.toList
  have hr := read_length w.toList
  rw [toList_length] at hl hr
  have hu := unword_ev (B (wordL s.toList)) (by rw [size_B]; omega)
  rw [toList_B, unword_word] at hu
  replace hu : Ev (fun k => cmd_Unword.f k (B (wordL s.toList))) (B s.toList, (0 : Int)) := hu
  have hv := unword_ev w (by omega)
  refine Ev.step (fun k => by rw [rafterlaw35_CmdWords.j0, if_neg (by decide)]) ?_
  refine Ev.bind (word_ev s (by omega)) (Ev.bind hu (Ev.bind hv (Ev.bind awake35 (Ev.pos rfl (Ev.bind (refWord_ev s (by omega)) (Ev.pos rfl (Ev.pos (toList_B _) (Ev.pos rfl ?_))))))))
  unfold unwordL
  by_cases h : wordL (readL w.toList) = w.toList
  · rw [if_pos h]
    have hq := refWord_ev (B (readL w.toList)) (by rw [size_B]; omega)
    rw [toList_B] at hq
    refine Ev.pos rfl (Ev.bind hq (Ev.pos (by rw [toList_B]; exact h) (Ev.now _)))
  · rw [if_neg h]
    refine Ev.neg (fun h => by cases h) (Ev.pos rfl ?_)
    rw [show (B ([], (17 : Int)).1).toList = [] from toList_B []]
    exact Ev.now _

end Go.Proofs.YtloibeefopdhpaaDoor.Pure
