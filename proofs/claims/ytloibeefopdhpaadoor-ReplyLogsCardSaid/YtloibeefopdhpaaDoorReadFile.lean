/- reply's reader: a file. -/
import Derived.Test.YtloibeefopdhpaaDoorReadList
import Derived.Outline
set_option linter.unusedVariables false
namespace Go.Proofs.YtloibeefopdhpaaDoor.G
open Go.RowKit Go.Proofs.YtloibeefopdhpaaDoorW.PrintWords Go.Proofs.YtloibeefopdhpaaDoorW.PrintLast Go.Proofs.YtloibeefopdhpaaDoorW.PrintMore Go.Proofs.YtloibeefopdhpaaDoor.Plain

def reply_reader_file.f (k : Nat) (ws : List ByteArray) (b : Bool) : Option (ByteArray × Bool × List ByteArray × List ByteArray × Bool) :=
  (reply_reader_text.f k ws b).bind fun t => (reply_reader_word.f t.2.1 t.2.2).bind fun q => (reply_reader_list.f k q.2.1 (q.2.2 || (q.1.toList != [100] && q.1.toList != [102]))).bind fun l => some (t.1, q.1.toList == [100], l.1, l.2.1, l.2.2)
theorem reply_reader_file.mono : ∀ a0 a1 k, LeO (reply_reader_file.f k a0 a1) (reply_reader_file.f (k + 1) a0 a1) := by
  intro a0 a1 k
  unfold reply_reader_file.f
  exact LeO.bind (reply_reader_text.mono _ _ _) fun t => LeO.bind (LeO.refl _) fun q => LeO.bind (reply_reader_list.mono _ _ _) fun l => LeO.refl _
theorem put3 {W : World} {g t : Nat} {a b c c0 c1 c2 : Value} (h : W.heap[g]? = some (.cells #[c0, c1, c2] t (0, 0))) :
    (((W.setCell ⟨g, 0, none⟩ a).setCell ⟨g, 1, none⟩ b).setCell ⟨g, 2, none⟩ c).heap[g]? = some (.cells #[a, b, c] t (0, 0)) := by
  refine blk_put (cs := #[a, b, c2]) ?_ 2 _ rfl
  refine blk_put (cs := #[a, c1, c2]) ?_ 1 _ rfl
  exact blk_put h 0 _ rfl
/-- What holds while a file is read: the reader's state, the result's cell, the file's own. -/
structure FileAt (w0 w : World) (g go : Nat) (ws : List ByteArray) (b : Bool) (a : ByteArray) (d : Bool) (W : World) : Prop where mk ::
  st : IsS115 w0 W g ws b
  bel : Below w0.heap.size w0 W
  keep : KeepBut w W g none
  lt : w.heap.size < go
  res : W.heap[w.heap.size]? = some (.cells #[.string ⟨#[]⟩, .bool false, .slice none 0 0] 102 (0, 0))
  out : W.heap[go]? = some (.cells #[.string a, .bool d, .slice none 0 0] 102 (0, 0))
section
variable {w0 w W W' : World} {g go : Nat} {ws ws' : List ByteArray} {b b' : Bool} {a : ByteArray} {d : Bool}
theorem FileAt.step (h : FileAt w0 w g go ws b a d W) (hg : g < w.heap.size) (hs : IsS115 w0 W' g ws' b') (hb : Below w0.heap.size w0 W') (hk : KeepBut W W' g none) : FileAt w0 w g go ws' b' a d W' :=
  ⟨hs, hb, h.keep.trans hk (.inl rfl), h.lt, hk.blk h.res (by omega) (by simp), hk.blk h.out (by have := h.lt; omega) (by simp)⟩
theorem IsS115.cells (h : IsS115 w0 W g ws b) : W.cell? ⟨g, 1, none⟩ = some (.bool b) ∧ W.frozen? ⟨g, 1, none⟩ = false := by
  obtain ⟨A, c, hb, _⟩ := h
  exact ⟨(blk_cell hb 1).trans rfl, blk_frozen hb 1⟩
theorem FileAt.dir (h : FileAt w0 w g go ws b a d W) (hg : g < w.heap.size) (hw : w0.heap.size ≤ w.heap.size) (d' : Bool) : FileAt w0 w g go ws b a d' (W.setCell ⟨go, 1, none⟩ (.bool d')) :=
  ⟨h.st.far (by have := h.lt; simp only; omega) _, below_set h.bel (by have := h.lt; omega), keep_new h.keep (Nat.le_of_lt h.lt), h.lt, blk_far h.res (by have := h.lt; simp only; omega) _, by simpa using blk_set h.out 1 (.bool d')⟩
theorem FileAt.bad (h : FileAt w0 w g go ws b a d W) (hg : g < w.heap.size) (b' : Bool) : FileAt w0 w g go ws b' a d (W.setCell ⟨g, 1, none⟩ (.bool b')) :=
  ⟨h.st.set_1 b', below_set h.bel h.st.ge, h.keep.set_ 1 _, h.lt, blk_far h.res (by simp only; omega) _, blk_far h.out (by have := h.lt; simp only; omega) _⟩
end

set_option maxHeartbeats 4000000 in
set_option maxRecDepth 100000 in
theorem reply_reader_file.calls (k : Nat) (g : Nat) (s0_0 : List ByteArray) (s0_1 : Bool) (r1 : ByteArray) (r2 : Bool) (r3 : List ByteArray) (r4 : List ByteArray) (r5 : Bool) (w0 w : World) (hI : IsS115 w0 w g s0_0 s0_1) (hB : Below w0.heap.size w0 w) (h : reply_reader_file.f k s0_0 s0_1 = some (r1, r2, r3, r4, r5)) :
    Calls Tryd.prog 85 #[.pointer (some ⟨g, 0, none⟩)] w fun e w' => ∃ v2_ : Value, e = .returned (.agg #[.string r1, .bool r2, v2_]) ∧ Kd.R Kd.string 9 w' w.heap.size (fun _ => True) v2_ r3 ∧ IsS115 w0 w' g r4 r5 ∧ Below w0.heap.size w0 w' ∧ KeepBut w w' g none := by
  obtain ⟨⟨s, ws1, b1⟩, h1, h⟩ := Option.bind_eq_some_iff.mp h
  obtain ⟨⟨q, ws2, b2⟩, h2, h⟩ := Option.bind_eq_some_iff.mp h
  obtain ⟨⟨l, ws3, b3⟩, h3, h⟩ := Option.bind_eq_some_iff.mp h
  dsimp only at h1 h2 h3 h
  injection h with h
  simp only [Prod.mk.injEq] at h
  obtain ⟨rfl, rfl, rfl, rfl, rfl⟩ := h
  have hg := hI.lt
  have HT := Aside0.mk (reply_reader_text.calls k g s0_0 s0_1 s ws1 b1 w0 (w.alloc (.cells #[.string ⟨#[]⟩, .bool false, .slice none 0 0] 102)) (hI.alloc _) (below_alloc hB _) h1)
  have HW := Aside0.mk (fun (W : World) (h1 : IsS115 w0 W g ws1 b1) (h2_ : Below w0.heap.size w0 W) => reply_reader_word.calls g ws1 b1 q ws2 b2 w0 W h1 h2_ h2)
  have HR0 := Aside0.mk (show (w.alloc (.cells #[.string ⟨#[]⟩, .bool false, .slice none 0 0] 102)).heap[w.heap.size]? = some (.cells #[.string ⟨#[]⟩, .bool false, .slice none 0 0] 102 (0, 0)) from by simpa using heap_alloc_new w (.cells #[.string ⟨#[]⟩, .bool false, .slice none 0 0] 102))
  have HK0 := Aside0.mk (keep_alloc (KeepBut.refl w g none) (.cells #[.string ⟨#[]⟩, .bool false, .slice none 0 0] 102))
  have HN := Aside0.mk (show g < w.heap.size ∧ w0.heap.size ≤ w.heap.size from ⟨hg, hB.size⟩)
  obtain ⟨c1, hc1⟩ : ∃ c, (q.toList == [100]) = c := ⟨_, rfl⟩
  obtain ⟨c2, hc2⟩ : ∃ c, (q.toList != [102]) = c := ⟨_, rfl⟩
  have hc3 : (q.toList != [100]) = !c1 := by rw [← hc1]; rfl
  have hc4 : (q.toList == [102]) = !c2 := by rw [← hc2]; simp [bne]
  rw [hc2, hc3] at h3
  rw [hc1]
  have HL := Aside0.mk (fun (W : World) (h1 : IsS115 w0 W g ws2 (b2 || (!c1 && c2))) (h2_ : Below w0.heap.size w0 W) => reply_reader_list.calls k g ws2 (b2 || (!c1 && c2)) l ws3 b3 w0 W h1 h2_ h3)
  clear h1 h2 h3 hI hB hg
  cases b2
  all_goals
    cases c1
    all_goals
      cases c2
      all_goals
        simp only [Bool.not_true, Bool.not_false] at hc3 hc4
        go_enter Tryd.func85, Tryd.ntmps85
        go_wp2_with (first | (go_at_call 81; refine HT.out.mono ?_; rintro e_ w1 ⟨rfl, hs1, hb1, hk1⟩; have HA1 := Aside0.mk (show FileAt w0 w g w1.heap.size ws1 b1 s false (w1.alloc (.cells #[.string s, .bool false, .slice none 0 0] 102)) from ⟨hs1.alloc _, below_alloc hb1 _, keep_alloc (HK0.out.trans hk1 (.inl rfl)) _, by have := hk1.1; simp at this; omega, blk_alloc (hk1.blk HR0.out (by have := HN.out.1; omega) (by simp)) _, by simpa using heap_alloc_new w1 (.cells #[.string s, .bool false, .slice none 0 0] 102)⟩); clear hs1 hb1 hk1) | (go_at_call 118; refine (HW.out _ HA1.out.st HA1.out.bel).mono ?_; rintro e_ w2 ⟨rfl, hs2, hb2, hk2⟩; have HA2 := Aside0.mk (HA1.out.step HN.out.1 hs2 hb2 hk2); clear hs2 hb2 hk2; have hd2 := (blk_cell HA2.out.out 1).trans rfl; have hf2 := blk_frozen HA2.out.out 1; have hd2g := (HA2.out.st.cells).1; have hf2g := (HA2.out.st.cells).2; have hne1 : g ≠ w1.heap.size := (by have h_ := HA2.out.lt; have h2_ := HN.out.1; omega); have hne2 : w1.heap.size ≠ g := Ne.symm hne1) | (go_at_call 78; (refine (HL.out _ ((HA2.out.dir HN.out.1 HN.out.2 _).bad HN.out.1 _).st ((HA2.out.dir HN.out.1 HN.out.2 _).bad HN.out.1 _).bel).mono ?_; rintro e_ w3 ⟨v3, rfl, hR, hs3, hb3, hk3⟩; have HA3 := Aside0.mk (((HA2.out.dir HN.out.1 HN.out.2 _).bad HN.out.1 _).step HN.out.1 hs3 hb3 hk3); have HR3 := Aside0.mk (Kd.R_lower hR ((HA2.out.dir HN.out.1 HN.out.2 _).bad HN.out.1 _).keep.1); obtain ⟨A3, c3, rfl⟩ := Kd.R_slice hR; clear hR hs3 hb3 hk3; obtain ⟨hx0, hx1, hx2, hy0, hy1, hy2⟩ := cells3 HA3.out.out; obtain ⟨hz0, hz1, hz2, hu0, hu1, hu2⟩ := cells3 HA3.out.res; have hne3 : w.heap.size ≠ w1.heap.size := Nat.ne_of_lt HA3.out.lt; have hne4 : w1.heap.size ≠ w.heap.size := Ne.symm hne3)))
        refine bodyPost_ret (results_cell_row rfl _ _ w.heap.size 102 #[.string s, .bool _, .slice A3 l.length c3] (0, 0) _ rfl (put3 (blk_far HA3.out.res (p := ⟨w1.heap.size, 2, none⟩) hne3 (.slice A3 l.length c3))) Tryd.underlying102 rfl (by kernel_rfl)) rfl ?_
        have hgo := HA3.out.lt
        have hgw := HN.out.1
        have hww := HN.out.2
        refine ⟨_, rfl, ?_, ?_, ?_, ?_⟩
        · exact Kd.R_set (Kd.R_set (Kd.R_set (Kd.R_set HR3.out HA3.out.out (by decide) 2 _) (blk_far HA3.out.res (p := ⟨w1.heap.size, 2, none⟩) hne3 _) (by decide) 0 _) (blk_set (blk_far HA3.out.res (p := ⟨w1.heap.size, 2, none⟩) hne3 _) 0 _) (by decide) 1 _) (blk_set (blk_set (blk_far HA3.out.res (p := ⟨w1.heap.size, 2, none⟩) hne3 _) 0 _) 1 _) (by decide) 2 _
        · exact (((HA3.out.st.far (p := ⟨w1.heap.size, 2, none⟩) (by simp only; omega) _).far (p := ⟨w.heap.size, 0, none⟩) (by simp only; omega) _).far (p := ⟨w.heap.size, 1, none⟩) (by simp only; omega) _).far (p := ⟨w.heap.size, 2, none⟩) (by simp only; omega) _
        · exact below_set (below_set (below_set (below_set HA3.out.bel (by omega)) HN.out.2) HN.out.2) HN.out.2
        · exact keep_new (keep_new (keep_new (keep_new HA3.out.keep (Nat.le_of_lt hgo)) (Nat.le_refl _)) (Nat.le_refl _)) (Nat.le_refl _)

end Go.Proofs.YtloibeefopdhpaaDoor.G
