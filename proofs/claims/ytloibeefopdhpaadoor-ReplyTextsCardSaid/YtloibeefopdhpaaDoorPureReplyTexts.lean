/- ReplyTexts in plain words. -/
import Derived.Test.YtloibeefopdhpaaDoorReplySame
import Derived.Test.YtloibeefopdhpaaDoorReplyTextsLaw
set_option linter.unusedVariables false
namespace Go.Proofs.YtloibeefopdhpaaDoor.Plain
open Go.RowKit Go.Proofs.YtloibeefopdhpaaDoor.G Go.Proofs.YtloibeefopdhpaaDoorW.PrintWords Go.Proofs.YtloibeefopdhpaaDoorW.PrintLast Go.Proofs.YtloibeefopdhpaaDoorW.PrintMore
theorem awake36 : Ev (fun k => rafterlaw36_awake.f k) true := Ev.of (fun k => rafterlaw36_awake.mono k) (k := 100) (by kernel_rfl)
def OkTs (l : List ByteArray) : Prop := (∀ y ∈ l, y.size ≤ 140737488351232) ∧ l.length * 16 ≤ 140737488351232 ∧ l.length ≤ 9223372036854775807
def OkQs (q : TPrim) : Prop := (Lit.int .i64 q.f0).wf = true ∧ q.f1.size ≤ 140737488351232 ∧ q.f2.size ≤ 140737488351232 ∧ (Lit.int .i64 q.f3).wf = true ∧ OkTs q.f4 ∧ OkTs q.f5
def OkFs (f : TFile) : Prop := f.f0.size ≤ 140737488351232 ∧ True ∧ OkTs f.f2
def OkReply (x : TReply) : Prop := (Lit.int .i64 x.f0).wf = true ∧ OkTs x.f1 ∧ ((∀ p ∈ x.f2, p.f0.size ≤ 140737488351232 ∧ p.f1.size ≤ 140737488351232) ∧ x.f2.length * 32 ≤ 140737488351232 ∧ x.f2.length ≤ 9223372036854775807) ∧ ((∀ q ∈ x.f3, OkQs q) ∧ x.f3.length * 96 ≤ 140737488351232 ∧ x.f3.length ≤ 9223372036854775807) ∧ ((∀ f ∈ x.f4, OkFs f) ∧ x.f4.length * 48 ≤ 140737488351232 ∧ x.f4.length ≤ 9223372036854775807)
theorem i64_wf {n : Int} (h : (Lit.int .i64 n).wf = true) : OkI n := by
  have e1 : IntKind.i64.min = -9223372036854775808 := by decide
  have e2 : IntKind.i64.max = 9223372036854775807 := by decide
  simp [Lit.wf, e1, e2] at h
  exact h
theorem okV_of {x : TReply} (h : OkReply x) : OkV x := by
  obtain ⟨h0, ⟨_, h1, _⟩, ⟨p1, p2, _⟩, ⟨q1, q2, _⟩, f1, f2, _⟩ := h
  refine ⟨i64_wf h0, ⟨by omega, by omega, fun q hq => ?_, by omega, fun f hf => ?_, by omega⟩, p1, fun q hq => ?_⟩
  · obtain ⟨_, _, _, _, ⟨_, a, _⟩, ⟨_, b, _⟩⟩ := q1 q hq
    exact ⟨by omega, by omega⟩
  · obtain ⟨_, _, _, a, _⟩ := f1 f hf
    unfold LenF
    omega
  · obtain ⟨a, b, c, d, _⟩ := q1 q hq
    exact ⟨b, c, i64_wf a, i64_wf d⟩
theorem len_nil : LenR [] [] [] [] := ⟨by decide, by decide, List.forall_mem_nil _, by decide, List.forall_mem_nil _, by decide⟩
theorem texts36 (x y : TReply) (s : ByteArray) (h0 : OkV x) (h1 : OkV y) : Ev (fun k => rafterlaw36_ReplyTexts.f k x.f0 x.f1 x.f2 x.f3 x.f4 y.f0 y.f1 y.f2 y.f3 y.f4 s) true := by
  obtain ⟨b, hb, hp⟩ := light36_ev [x, y] (fun z hz => by
    simp only [List.mem_cons, List.not_mem_nil, or_false] at hz
    rcases hz with rfl | rfl
    · exact h0
    · exact h1)
  unfold rafterlaw36_ReplyTexts.f
  refine Ev.bind hb ?_
  by_cases hc : b = true ∧ s.size ≤ 1000
  case neg => exact Ev.neg hc awake36
  refine Ev.pos hc ?_
  have hl := hp.1 hc.1
  have o0 := okR_of h0 (hl.1 x (by simp))
  have o1 := okR_of h1 (hl.1 y (by simp))
  obtain ⟨e, ns, ps, qs, fs, er, hy, hcase⟩ := parse_any s hc.2
  obtain ⟨r1, hr1, e1⟩ := refSame_ev x.f0 x.f0 x.f1 x.f1 x.f2 x.f2 x.f3 x.f3 x.f4 x.f4 h0.len
  obtain ⟨r2, hr2, e2⟩ := same_ev36 x.f0 y.f0 x.f1 y.f1 x.f2 y.f2 x.f3 y.f3 x.f4 y.f4 h1.len
  obtain ⟨r3, hr3, e3⟩ := refSame_ev x.f0 y.f0 x.f1 y.f1 x.f2 y.f2 x.f3 y.f3 x.f4 y.f4 h1.len
  have q1 := e1.2 ⟨rfl, rfl, rfl, rfl, rfl⟩
  subst q1
  have q3 : r3 = r2 := by rw [Bool.eq_iff_iff, e3, e2]
  subst q3
  refine Ev.bind (text_ev o0) (Ev.bind (parse_back o0) (Ev.bind hy (Ev.bind (refText_ev o0) (Ev.bind hr1 (Ev.bind hr2 (Ev.bind hr3 (Ev.bind awake36 (Ev.pos ⟨rfl, rfl, rfl, rfl, rfl⟩ ?_))))))))
  rcases hcase with ⟨rfl, ok, hs⟩ | ⟨rfl, rfl, rfl, rfl, rfl, rfl⟩
  · exact Ev.pos rfl (Ev.bind (refText_ev ok) (Ev.pos hs (Ev.now _)))
  · obtain ⟨r4, hr4, e4⟩ := refSame_ev 0 0 [] [] [] [] [] [] [] [] len_nil
    have q4 := e4.2 ⟨rfl, rfl, rfl, rfl, rfl⟩
    subst q4
    exact Ev.neg (by decide) (Ev.pos rfl (Ev.bind hr4 (Ev.pos rfl (Ev.now _))))
end Go.Proofs.YtloibeefopdhpaaDoor.Plain
namespace Go.Proofs.YtloibeefopdhpaaDoor.Pure
open Go.RowKit Go.Proofs.YtloibeefopdhpaaDoor.G Go.Proofs.YtloibeefopdhpaaDoor.Plain Go.Proofs.YtloibeefopdhpaaDoorW.PrintWords Go.Proofs.YtloibeefopdhpaaDoorW.PrintLast Go.Proofs.YtloibeefopdhpaaDoorW.PrintMore
theorem ReplyTexts (x0 x1 : S54) (x2 : ByteArray) (ok0 : OkReply x0) (ok1 : OkReply x1) (ok2 : x2.size ≤ 140737488351232) : ∃ k, rafterlaw36_ReplyTexts.f k x0.f0 x0.f1 x0.f2 x0.f3 x0.f4 x1.f0 x1.f1 x1.f2 x1.f3 x1.f4 x2 = some true := by
  obtain ⟨N, hN⟩ := texts36 x0 x1 x2 (okV_of ok0) (okV_of ok1)
  exact ⟨N, hN N (Nat.le_refl _)⟩
end Go.Proofs.YtloibeefopdhpaaDoor.Pure
