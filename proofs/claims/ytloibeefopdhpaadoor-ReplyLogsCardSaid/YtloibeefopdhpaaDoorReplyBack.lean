-- Words of the kit's print (as it laid them for this seat); what this claim does not use is left out.
import Derived.Test.YtloibeefopdhpaaDoorReplyPlain
set_option linter.unusedVariables false
set_option linter.unusedSimpArgs false
namespace Go.Proofs.YtloibeefopdhpaaDoor.Plain
open Go.RowKit Go.Proofs.YtloibeefopdhpaaDoor.G Go.Proofs.YtloibeefopdhpaaDoorW.PrintWords Go.Proofs.YtloibeefopdhpaaDoorW.PrintLast Go.Proofs.YtloibeefopdhpaaDoorW.PrintMore
theorem num_any (ws : List ByteArray) (b : Bool) (h : ∀ w ∈ ws, w.size ≤ 1000) : ∃ n ws' b', Ev (fun k => reply_reader_num.f k ws b) (n, ws', b') ∧ (∀ w ∈ ws', w ∈ ws) ∧ ws'.length ≤ ws.length ∧ OkI n ∧ (b' = false → b = false ∧ ws = wN n :: ws') := by
  have hok : ∀ l, OkI (unnumL l).1 := fun l => by
    rcases unnum_out l with ⟨n, h0, h1, e, _⟩ | e
    · rw [e]; exact ⟨h0, h1⟩
    · rw [e]; exact ⟨by decide, by decide⟩
  cases ws with
  | nil =>
    refine ⟨(unnumL []).1, [], true, ?_, fun w hw => hw, Nat.le_refl _, hok _, fun e => by cases e⟩
    unfold reply_reader_num.f
    have hu := unnumber_ev (⟨#[]⟩ : ByteArray) (by decide)
    rw [show (⟨#[]⟩ : ByteArray).toList = [] from toList_B []] at hu
    exact Ev.bind (Ev.now ((⟨#[]⟩ : ByteArray), ([] : List ByteArray), true)) (Ev.bind hu (Ev.pos rfl (Ev.now _)))
  | cons w ws =>
    have hw := h w (by simp)
    have hu := unnumber_ev w (by omega)
    cases b with
    | true =>
      refine ⟨(unnumL w.toList).1, ws, true, ?_, fun x hx => by simp [hx], by simp, hok _, fun e => by cases e⟩
      unfold reply_reader_num.f
      exact Ev.bind (Ev.now (w, ws, true)) (Ev.bind hu (Ev.pos rfl (Ev.now _)))
    | false =>
      refine ⟨(unnumL w.toList).1, ws, ((unnumL w.toList).2 != 0), ?_, fun x hx => by simp [hx], by simp, hok _, fun e => ⟨rfl, ?_⟩⟩
      · unfold reply_reader_num.f
        exact Ev.bind (Ev.now (w, ws, false)) (Ev.bind hu (Ev.neg Bool.false_ne_true (Ev.now _)))
      · rcases unnum_out w.toList with ⟨n, h0, h1, e2, hn⟩ | e2
        · rw [e2, wN, hn, B_toList]
        · rw [e2] at e
          cases e
theorem unword_out (l : List UInt8) : (unwordL l).1.length ≤ l.length ∧ ((unwordL l).2 = 0 ∧ wordL (unwordL l).1 = l ∨ (unwordL l).2 = 17) := by
  unfold unwordL
  by_cases h : wordL (readL l) = l
  · rw [if_pos h]
    exact ⟨read_length l, .inl ⟨rfl, h⟩⟩
  · rw [if_neg h]
    exact ⟨Nat.zero_le _, .inr rfl⟩
theorem text_any (ws : List ByteArray) (b : Bool) (h : ∀ w ∈ ws, w.size ≤ 1000) : ∃ s ws' b', Ev (fun k => reply_reader_text.f k ws b) (s, ws', b') ∧ (∀ w ∈ ws', w ∈ ws) ∧ ws'.length ≤ ws.length ∧ s.size ≤ 1000 ∧ (b' = false → b = false ∧ ws = wW s :: ws') := by
  cases ws with
  | nil =>
    refine ⟨B (unwordL []).1, [], true, ?_, fun w hw => hw, Nat.le_refl _, ?_, fun e => by cases e⟩
    · unfold reply_reader_text.f
      have hu := unword_ev (⟨#[]⟩ : ByteArray) (by decide)
      rw [show (⟨#[]⟩ : ByteArray).toList = [] from toList_B []] at hu
      exact Ev.bind (Ev.now ((⟨#[]⟩ : ByteArray), ([] : List ByteArray), true)) (Ev.bind hu (Ev.pos rfl (Ev.now _)))
    · have := (unword_out []).1
      rw [size_B]
      simp only [List.length_nil] at this
      omega
  | cons w ws =>
    have hw := h w (by simp)
    have hu := unword_ev w (by omega)
    have ho := unword_out w.toList
    have hs : (B (unwordL w.toList).1).size ≤ 1000 := by rw [size_B]; have := ho.1; rw [toList_length] at this; omega
    cases b with
    | true =>
      refine ⟨B (unwordL w.toList).1, ws, true, ?_, fun x hx => by simp [hx], by simp, hs, fun e => by cases e⟩
      unfold reply_reader_text.f
      exact Ev.bind (Ev.now (w, ws, true)) (Ev.bind hu (Ev.pos rfl (Ev.now _)))
    | false =>
      refine ⟨B (unwordL w.toList).1, ws, ((unwordL w.toList).2 != 0), ?_, fun x hx => by simp [hx], by simp, hs, fun e => ⟨rfl, ?_⟩⟩
      · unfold reply_reader_text.f
        exact Ev.bind (Ev.now (w, ws, false)) (Ev.bind hu (Ev.neg Bool.false_ne_true (Ev.now _)))
      · rcases ho.2 with ⟨_, e2⟩ | e2
        · rw [wW, toList_B, e2, B_toList]
        · rw [e2] at e
          cases e
theorem eachL_true {α : Type} (one : Nat → α → List ByteArray → Bool → Option (α × List ByteArray × Bool)) (n : Nat) (x : α) (ws : List ByteArray) : Ev (fun k => eachL (one k) n x ws true) (x, ws, true) := by
  cases n with
  | zero => exact Ev.now _
  | succ n => exact Ev.pos rfl (Ev.now _)
def OneAny {α ε : Type} (one : Nat → α → List ByteArray → Bool → Option (α × List ByteArray × Bool)) (add : α → ε → α) (W : ε → List ByteArray) (Ok : ε → Prop) (sz : α → Nat) : Prop :=
  ∀ x ws b, sz x ≤ 2000 → (∀ w ∈ ws, w.size ≤ 1000) → ws.length ≤ 1001 → ∃ e ws' b', Ev (fun k => one k x ws b) (add x e, ws', b') ∧ (∀ w ∈ ws', w ∈ ws) ∧ ws'.length ≤ ws.length ∧ Ok e ∧ (b' = false → b = false ∧ ws = W e ++ ws')
theorem each_any {α ε : Type} {one : Nat → α → List ByteArray → Bool → Option (α × List ByteArray × Bool)} {add : α → ε → α} {W : ε → List ByteArray} {Ok : ε → Prop} {sz : α → Nat} (ho : OneAny one add W Ok sz) (hadd : ∀ x e, sz (add x e) = sz x + 1) :
    ∀ n x ws b, sz x + n ≤ 2000 → (∀ w ∈ ws, w.size ≤ 1000) → ws.length ≤ 1001 → ∃ (es : List ε) (ws' : List ByteArray) (b' : Bool), Ev (fun k => eachL (one k) n x ws b) (es.foldl add x, ws', b') ∧ (∀ w ∈ ws', w ∈ ws) ∧ ws'.length ≤ ws.length ∧ (∀ e ∈ es, Ok e) ∧ es.length ≤ n ∧ (b' = false → b = false ∧ es.length = n ∧ ws = es.flatMap W ++ ws')
  | 0, x, ws, b, _, _, _ => ⟨[], ws, b, Ev.now _, fun w hw => hw, Nat.le_refl _, List.forall_mem_nil _, Nat.le_refl _, fun e => ⟨e, rfl, rfl⟩⟩
  | n + 1, x, ws, true, _, _, _ => ⟨[], ws, true, eachL_true one (n + 1) x ws, fun w hw => hw, Nat.le_refl _, List.forall_mem_nil _, Nat.zero_le _, fun e => by cases e⟩
  | n + 1, x, ws, false, hn, hw, hl => by
    obtain ⟨e, ws1, b1, h1, s1, l1, o1, p1⟩ := ho x ws false (by omega) hw hl
    obtain ⟨es, ws2, b2, h2, s2, l2, o2, c2, p2⟩ := each_any ho hadd n (add x e) ws1 b1 (by rw [hadd]; omega) (fun w h => hw w (s1 w h)) (by omega)
    refine ⟨e :: es, ws2, b2, Ev.neg (by decide) (Ev.bind h1 h2), fun w h => s1 w (s2 w h), Nat.le_trans l2 l1, fun y hy => ?_, by rw [List.length_cons]; omega, fun hb => ?_⟩
    · rcases List.mem_cons.1 hy with rfl | hy
      · exact o1
      · exact o2 y hy
    · obtain ⟨q1, q2, q3⟩ := p2 hb
      obtain ⟨_, q4⟩ := p1 q1
      exact ⟨rfl, by rw [List.length_cons, q2], by rw [q4, q3, List.flatMap_cons, List.append_assoc]⟩
theorem eachF_any {α ε : Type} {one : Nat → α → List ByteArray → Bool → Option (α × List ByteArray × Bool)} {add : α → ε → α} {W : ε → List ByteArray} {Ok : ε → Prop} {sz : α → Nat} (ho : OneAny one add W Ok sz) (hadd : ∀ x e, sz (add x e) = sz x + 1)
    (x : α) (ws : List ByteArray) (b : Bool) (hx : sz x ≤ 900) (hw : ∀ w ∈ ws, w.size ≤ 1000) (hl : ws.length ≤ 1001) :
    ∃ (es : List ε) (ws' : List ByteArray) (b' : Bool), Ev (fun k => eachF k (one k) x ws b) (es.foldl add x, ws', b') ∧ (∀ w ∈ ws', w ∈ ws) ∧ ws'.length ≤ ws.length ∧ (∀ e ∈ es, Ok e) ∧ es.length ≤ 1001 ∧ (b' = false → b = false ∧ ws = wN es.length :: (es.flatMap W ++ ws')) := by
  obtain ⟨n, ws1, b1, h1, s1, l1, o1, p1⟩ := num_any ws b hw
  unfold eachF
  by_cases hf : (b1 || decide (n < 0) || decide ((ws1.length : Int) < n)) = true
  · refine ⟨[], ws1, true, Ev.bind h1 ?_, s1, l1, List.forall_mem_nil _, Nat.zero_le _, fun e => by cases e⟩
    dsimp only
    rw [hf]
    exact eachL_true one _ x ws1
  · have hf' : (b1 || decide (n < 0) || decide ((ws1.length : Int) < n)) = false := by simpa using hf
    have hf2 := hf'
    simp only [Bool.or_eq_false_iff, decide_eq_false_iff_not] at hf2
    obtain ⟨⟨e1, e2⟩, e3⟩ := hf2
    obtain ⟨es, ws2, b2, h2, s2, l2, o2, c2, p2⟩ := each_any ho hadd n.toNat x ws1 false (by omega) (fun w h => hw w (s1 w h)) (by omega)
    refine ⟨es, ws2, b2, Ev.bind h1 ?_, fun w h => s1 w (s2 w h), Nat.le_trans l2 l1, o2, by omega, fun hb => ?_⟩
    · dsimp only
      rw [hf']
      exact h2
    · obtain ⟨_, q2, q3⟩ := p2 hb
      obtain ⟨q4, q5⟩ := p1 e1
      refine ⟨q4, ?_⟩
      have : ((es.length : Nat) : Int) = n := by omega
      rw [this, q5, q3]
theorem foldl_add : ∀ (es xs : List ByteArray), es.foldl (fun l e => l ++ [e]) xs = xs ++ es
  | [], xs => by simp
  | e :: es, xs => by rw [List.foldl_cons, foldl_add es]; simp
theorem flat_one : ∀ es : List ByteArray, es.flatMap (fun e => [wW e]) = es.map wW
  | [] => rfl
  | e :: es => by rw [List.flatMap_cons, flat_one es]; rfl
theorem listOne_any : OneAny (fun k xs ws b => listOne k xs ws b) (fun l e => l ++ [e]) (fun e => [wW e]) (fun e => e.size ≤ 1000) List.length := by
  intro x ws b hx hw hl
  obtain ⟨s, ws1, b1, h1, s1, l1, o1, p1⟩ := text_any ws b hw
  refine ⟨s, ws1, b1, ?_, s1, l1, o1, fun e => p1 e⟩
  unfold listOne
  exact Ev.bind h1 (Ev.pos (by omega) (Ev.now _))
theorem list_any (ws : List ByteArray) (b : Bool) (h : ∀ w ∈ ws, w.size ≤ 1000) (hl : ws.length ≤ 1001) : ∃ l ws' b', Ev (fun k => reply_reader_list.f k ws b) (l, ws', b') ∧ (∀ w ∈ ws', w ∈ ws) ∧ ws'.length ≤ ws.length ∧ OkL l ∧ (b' = false → b = false ∧ ws = listW l ++ ws') := by
  obtain ⟨es, ws1, b1, h1, s1, l1, o1, c1, p1⟩ := eachF_any listOne_any (fun x e => by simp) [] ws b (Nat.zero_le _) h hl
  rw [foldl_add, List.nil_append] at h1
  refine ⟨es, ws1, b1, h1, s1, l1, ⟨c1, o1⟩, fun e => ?_⟩
  obtain ⟨q1, q2⟩ := p1 e
  refine ⟨q1, ?_⟩
  rw [flat_one] at q2
  exact q2
theorem prim_any (ws : List ByteArray) (b : Bool) (h : ∀ w ∈ ws, w.size ≤ 1000) (hl : ws.length ≤ 1001) : ∃ (p : TPrim) (ws' : List ByteArray) (b' : Bool), Ev (fun k => reply_reader_prim.f k ws b) (p.f0, p.f1, p.f2, p.f3, p.f4, p.f5, ws', b') ∧ (∀ w ∈ ws', w ∈ ws) ∧ ws'.length ≤ ws.length ∧ OkQ p ∧ (b' = false → b = false ∧ ws = primW p ++ ws') := by
  obtain ⟨n, ws1, b1, h1, s1, l1, o1, p1⟩ := num_any ws b h
  obtain ⟨s, ws2, b2, h2, s2, l2, o2, p2⟩ := text_any ws1 b1 (fun w hw => h w (s1 w hw))
  obtain ⟨t, ws3, b3, h3, s3, l3, o3, p3⟩ := text_any ws2 b2 (fun w hw => h w (s1 w (s2 w hw)))
  obtain ⟨m, ws4, b4, h4, s4, l4, o4, p4⟩ := num_any ws3 b3 (fun w hw => h w (s1 w (s2 w (s3 w hw))))
  obtain ⟨x, ws5, b5, h5, s5, l5, o5, p5⟩ := list_any ws4 b4 (fun w hw => h w (s1 w (s2 w (s3 w (s4 w hw))))) (by omega)
  obtain ⟨y, ws6, b6, h6, s6, l6, o6, p6⟩ := list_any ws5 b5 (fun w hw => h w (s1 w (s2 w (s3 w (s4 w (s5 w hw)))))) (by omega)
  refine ⟨⟨n, s, t, m, x, y⟩, ws6, b6, ?_, fun w hw => s1 w (s2 w (s3 w (s4 w (s5 w (s6 w hw))))), by omega, ⟨o1, o2, o3, o4, o5, o6⟩, fun e => ?_⟩
  · unfold reply_reader_prim.f
    exact Ev.bind h1 (Ev.bind h2 (Ev.bind h3 (Ev.bind h4 (Ev.bind h5 (Ev.bind h6 (Ev.now _))))))
  · obtain ⟨e5, q6⟩ := p6 e
    obtain ⟨e4, q5⟩ := p5 e5
    obtain ⟨e3, q4⟩ := p4 e4
    obtain ⟨e2, q3⟩ := p3 e3
    obtain ⟨e1, q2⟩ := p2 e2
    obtain ⟨e0, q1⟩ := p1 e1
    refine ⟨e0, ?_⟩
    rw [q1, q2, q3, q4, q5, q6]
    simp only [primW, List.append_assoc, List.cons_append, List.nil_append]
theorem kd_out (w : ByteArray) (h : (w.toList != [100] && w.toList != [102]) = false) : w = kdW (w.toList == [100]) := by
  by_cases h1 : w.toList = [100]
  · rw [h1]
    exact ext_toList (by rw [h1]; exact (toList_B [100]).symm)
  · have h2 : w.toList = [102] := by
      by_cases h2 : w.toList = [102]
      · exact h2
      · rw [bne_iff_ne.2 h1, bne_iff_ne.2 h2] at h
        cases h
    rw [h2]
    exact ext_toList (by rw [h2]; exact (toList_B [102]).symm)
theorem file_any (ws : List ByteArray) (b : Bool) (h : ∀ w ∈ ws, w.size ≤ 1000) (hl : ws.length ≤ 1001) : ∃ (f : TFile) (ws' : List ByteArray) (b' : Bool), Ev (fun k => reply_reader_file.f k ws b) (f.f0, f.f1, f.f2, ws', b') ∧ (∀ w ∈ ws', w ∈ ws) ∧ ws'.length ≤ ws.length ∧ OkF f ∧ (b' = false → b = false ∧ ws = fileW f ++ ws') := by
  obtain ⟨s, ws1, b1, h1, s1, l1, o1, p1⟩ := text_any ws b h
  obtain ⟨q, ws2, b2, h2, s2, l2, p2⟩ : ∃ q ws2 b2, reply_reader_word.f ws1 b1 = some (q, ws2, b2) ∧ (∀ w ∈ ws2, w ∈ ws1) ∧ ws2.length ≤ ws1.length ∧ (b2 = false → b1 = false ∧ ws1 = q :: ws2) := by
    cases ws1 with
    | nil => exact ⟨_, _, _, rfl, fun w hw => hw, Nat.le_refl _, fun e => by cases e⟩
    | cons w ws1 => exact ⟨_, _, _, rfl, fun x hx => by simp [hx], by simp, fun e => ⟨e, rfl⟩⟩
  obtain ⟨l, ws3, b3, h3, s3, l3, o3, p3⟩ := list_any ws2 (b2 || (q.toList != [100] && q.toList != [102])) (fun w hw => h w (s1 w (s2 w hw))) (by omega)
  refine ⟨⟨s, q.toList == [100], l⟩, ws3, b3, ?_, fun w hw => s1 w (s2 w (s3 w hw)), by omega, ⟨o1, o3⟩, fun e => ?_⟩
  · unfold reply_reader_file.f
    refine Ev.bind h1 (Ev.bind (a := (q, ws2, b2)) ?_ (Ev.bind h3 (Ev.now _)))
    rw [h2]
    exact Ev.now _
  · obtain ⟨e2, q3⟩ := p3 e
    rw [Bool.or_eq_false_iff] at e2
    obtain ⟨e1, q2⟩ := p2 e2.1
    obtain ⟨e0, q1⟩ := p1 e1
    refine ⟨e0, ?_⟩
    have hk := kd_out q e2.2
    rw [q1, q2, q3]
    simp only [fileW, List.append_assoc, List.cons_append, List.nil_append]
    rw [← hk]
abbrev Acc := List TPair × List TPrim × List TFile
def addP (x : Acc) (p : TPair) : Acc := (x.1 ++ [p], x.2.1, x.2.2)
def addQ (x : Acc) (p : TPrim) : Acc := (x.1, x.2.1 ++ [p], x.2.2)
def addF (x : Acc) (p : TFile) : Acc := (x.1, x.2.1, x.2.2 ++ [p])
theorem foldP : ∀ (es : List TPair) (x : Acc), es.foldl addP x = (x.1 ++ es, x.2.1, x.2.2)
  | [], x => by simp
  | e :: es, x => by rw [List.foldl_cons, foldP es]; simp [addP]
theorem foldQ : ∀ (es : List TPrim) (x : Acc), es.foldl addQ x = (x.1, x.2.1 ++ es, x.2.2)
  | [], x => by simp
  | e :: es, x => by rw [List.foldl_cons, foldQ es]; simp [addQ]
theorem foldF : ∀ (es : List TFile) (x : Acc), es.foldl addF x = (x.1, x.2.1, x.2.2 ++ es)
  | [], x => by simp
  | e :: es, x => by rw [List.foldl_cons, foldF es]; simp [addF]
theorem pairs_any : OneAny (fun k x ws b => pairsOne k x ws b) addP pairW OkP (fun x => x.1.length) := by
  intro x ws b hx hw hl
  obtain ⟨s, ws1, b1, h1, s1, l1, o1, p1⟩ := text_any ws b hw
  obtain ⟨t, ws2, b2, h2, s2, l2, o2, p2⟩ := text_any ws1 b1 (fun w h => hw w (s1 w h))
  refine ⟨⟨s, t⟩, ws2, b2, ?_, fun w h => s1 w (s2 w h), by omega, ⟨o1, o2⟩, fun e => ?_⟩
  · unfold pairsOne
    exact Ev.bind h1 (Ev.bind h2 (Ev.pos (by dsimp only at hx; omega) (Ev.now _)))
  · obtain ⟨e1, q2⟩ := p2 e
    obtain ⟨e0, q1⟩ := p1 e1
    exact ⟨e0, by rw [q1, q2]; rfl⟩
theorem prims_any : OneAny (fun k x ws b => primsOne k x ws b) addQ primW OkQ (fun x => x.2.1.length) := by
  intro x ws b hx hw hl
  obtain ⟨p, ws1, b1, h1, s1, l1, o1, p1⟩ := prim_any ws b hw hl
  refine ⟨p, ws1, b1, ?_, s1, l1, o1, p1⟩
  unfold primsOne
  exact Ev.bind h1 (Ev.pos (by dsimp only at hx; omega) (Ev.now _))
theorem files_any : OneAny (fun k x ws b => filesOne k x ws b) addF fileW OkF (fun x => x.2.2.length) := by
  intro x ws b hx hw hl
  obtain ⟨p, ws1, b1, h1, s1, l1, o1, p1⟩ := file_any ws b hw hl
  refine ⟨p, ws1, b1, ?_, s1, l1, o1, p1⟩
  unfold filesOne
  exact Ev.bind h1 (Ev.pos (by dsimp only at hx; omega) (Ev.now _))
theorem split_words (s : ByteArray) (hs : s.size ≤ 1000) : (∀ w ∈ (splitL 32 s.toList).map B, w.size ≤ 1000) ∧ ((splitL 32 s.toList).map B).length ≤ 1001 ∧ lineW ((splitL 32 s.toList).map B) = s := by
  have hlen := splitL_length 32 s.toList
  have hc : s.toList.count 32 ≤ s.toList.length := List.count_le_length
  rw [toList_length] at hc
  have hm : ∀ l : List (List UInt8), (l.map B).map ByteArray.toList = l := fun l => by
    rw [List.map_map]
    conv => rhs; rw [← List.map_id l]
    exact List.map_congr_left fun x _ => toList_B x
  refine ⟨fun w hw => ?_, by rw [List.length_map]; omega, ?_⟩
  · obtain ⟨x, hx, rfl⟩ := List.mem_map.1 hw
    rw [size_B]
    have h1 : ∀ (l : List (List UInt8)), ∀ y ∈ l, y.length ≤ (joinL 32 l).length := by
      intro l
      induction l with
      | nil => intro y hy; cases hy
      | cons z l ih =>
        intro y hy
        rw [joinL_flat32, List.length_append]
        rcases List.mem_cons.1 hy with rfl | hy
        · omega
        · cases l with
          | nil => cases hy
          | cons u l =>
            have := ih y hy
            rw [joinL_flat32, List.length_append] at this
            simp only [List.map_cons, List.flatten_cons, List.length_append, List.length_cons]
            omega
    have := h1 _ x hx
    rw [joinL_splitL, toList_length] at this
    omega
  · rw [lineW, hm, joinL_splitL, B_toList]
theorem parse_any (s : ByteArray) (hs : s.size ≤ 1000) : ∃ e ns ps qs fs er, Ev (fun k => reply_Parse.f k s) (e, ns, ps, qs, fs, er) ∧ ((er = 0 ∧ OkR e ns ps qs fs ∧ lineW (replyW e ns ps qs fs) = s) ∨ (er = 17 ∧ e = 0 ∧ ns = [] ∧ ps = [] ∧ qs = [] ∧ fs = [])) := by
  obtain ⟨w1, w2, w3⟩ := split_words s hs
  have hsp := split_ev 32 s (by omega)
  generalize (splitL 32 s.toList).map B = ws at w1 w2 w3 hsp
  obtain ⟨e, ws1, b1, h1, s1, l1, o1, p1⟩ := num_any ws false w1
  obtain ⟨ns, ws2, b2, h2, s2, l2, o2, p2⟩ := list_any ws1 b1 (fun w h => w1 w (s1 w h)) (by omega)
  obtain ⟨ps, ws3, b3, h3, s3, l3, o3, c3, p3⟩ := eachF_any pairs_any (fun x e => by simp [addP]) ([], [], []) ws2 b2 (Nat.zero_le _) (fun w h => w1 w (s1 w (s2 w h))) (by omega)
  rw [foldP] at h3
  obtain ⟨qs, ws4, b4, h4, s4, l4, o4, c4, p4⟩ := eachF_any prims_any (fun x e => by simp [addQ]) ([] ++ ps, [], []) ws3 b3 (Nat.zero_le _) (fun w h => w1 w (s1 w (s2 w (s3 w h)))) (by omega)
  rw [foldQ] at h4
  obtain ⟨fs, ws5, b5, h5, s5, l5, o5, c5, p5⟩ := eachF_any files_any (fun x e => by simp [addF]) ([] ++ ps, [] ++ qs, []) ws4 b4 (Nat.zero_le _) (fun w h => w1 w (s1 w (s2 w (s3 w (s4 w h))))) (by omega)
  rw [foldF] at h5
  simp only [List.nil_append] at h3 h4 h5
  by_cases hb : b5 = true ∨ ws5 ≠ []
  · refine ⟨0, [], [], [], [], 17, ?_, .inr ⟨rfl, rfl, rfl, rfl, rfl, rfl⟩⟩
    unfold reply_Parse.f
    exact Ev.bind hsp (Ev.bind h1 (Ev.bind h2 (Ev.bind h3 (Ev.bind h4 (Ev.bind h5 (Ev.pos hb (Ev.now _)))))))
  · have hb1 : b5 = false := by simpa using fun h => hb (.inl h)
    have hb2 : ws5 = [] := Classical.byContradiction fun h => hb (.inr h)
    refine ⟨e, ns, ps, qs, fs, 0, ?_, .inl ⟨rfl, ⟨o1, o2, ⟨c3, o3⟩, ⟨c4, o4⟩, ⟨c5, o5⟩⟩, ?_⟩⟩
    · unfold reply_Parse.f
      exact Ev.bind hsp (Ev.bind h1 (Ev.bind h2 (Ev.bind h3 (Ev.bind h4 (Ev.bind h5 (Ev.neg hb (Ev.now _)))))))
    · obtain ⟨e4, q5⟩ := p5 hb1
      obtain ⟨e3, q4⟩ := p4 e4
      obtain ⟨e2, q3⟩ := p3 e3
      obtain ⟨e1, q2⟩ := p2 e2
      obtain ⟨_, q1⟩ := p1 e1
      rw [← w3, q1, q2, q3, q4, q5, hb2, List.append_nil]
      rfl
theorem num_back {n : Int} (h : OkI n) (ws : List ByteArray) : Ev (fun k => reply_reader_num.f k (wN n :: ws) false) (n, ws, false) := by
  have hu := unnumber_ev (wN n) (by have := (okW_num h).1; omega)
  rw [wN, toList_B, unnum_num n h.1 h.2] at hu
  unfold reply_reader_num.f
  exact Ev.bind (Ev.now (wN n, ws, false)) (Ev.bind hu (Ev.neg Bool.false_ne_true (Ev.now _)))
theorem text_back {s : ByteArray} (h : s.size ≤ 1000) (ws : List ByteArray) : Ev (fun k => reply_reader_text.f k (wW s :: ws) false) (s, ws, false) := by
  have hu := unword_ev (wW s) (by have := (okW_word h).1; omega)
  rw [wW, toList_B, unword_word, B_toList] at hu
  unfold reply_reader_text.f
  exact Ev.bind (Ev.now (wW s, ws, false)) (Ev.bind hu (Ev.neg Bool.false_ne_true (Ev.now _)))
theorem each_back {α ε : Type} {one : Nat → α → List ByteArray → Bool → Option (α × List ByteArray × Bool)} {add : α → ε → α} {W : ε → List ByteArray} {Ok : ε → Prop} {sz : α → Nat} (hadd : ∀ x e, sz (add x e) = sz x + 1)
    (ho : ∀ x e ws, sz x ≤ 2000 → Ok e → Ev (fun k => one k x (W e ++ ws) false) (add x e, ws, false)) : ∀ (es : List ε) (x : α) (ws : List ByteArray), sz x + es.length ≤ 2000 → (∀ e ∈ es, Ok e) → Ev (fun k => eachL (one k) es.length x (es.flatMap W ++ ws) false) (es.foldl add x, ws, false)
  | [], x, ws, _, _ => Ev.now _
  | e :: es, x, ws, hs, hx => by
    rw [List.length_cons] at hs
    rw [List.flatMap_cons, List.append_assoc]
    exact Ev.neg (by decide) (Ev.bind (ho x e _ (by omega) (hx e (by simp))) (each_back hadd ho es (add x e) ws (by rw [hadd]; omega) (fun y h => hx y (by simp [h]))))
theorem flat_ge {ε : Type} {W : ε → List ByteArray} (hW : ∀ e, 1 ≤ (W e).length) : ∀ es : List ε, es.length ≤ (es.flatMap W).length
  | [] => Nat.zero_le _
  | e :: es => by
    have h1 := hW e
    have h2 := flat_ge hW es
    rw [List.flatMap_cons, List.length_append, List.length_cons]
    omega
theorem eachF_back {α ε : Type} {one : Nat → α → List ByteArray → Bool → Option (α × List ByteArray × Bool)} {add : α → ε → α} {W : ε → List ByteArray} {Ok : ε → Prop} {sz : α → Nat} (hadd : ∀ x e, sz (add x e) = sz x + 1) (hW : ∀ e, 1 ≤ (W e).length)
    (ho : ∀ x e ws, sz x ≤ 2000 → Ok e → Ev (fun k => one k x (W e ++ ws) false) (add x e, ws, false)) (es : List ε) (x : α) (ws : List ByteArray) (hs : sz x ≤ 900) (hl : es.length ≤ 1001) (hx : ∀ e ∈ es, Ok e) :
    Ev (fun k => eachF k (one k) x (wN es.length :: (es.flatMap W ++ ws)) false) (es.foldl add x, ws, false) := by
  have hg := flat_ge hW es
  unfold eachF
  refine Ev.bind (num_back (len_i hl) _) ?_
  dsimp only
  rw [decide_eq_false (by omega), decide_eq_false (by rw [List.length_append]; omega), Int.toNat_natCast]
  exact each_back hadd ho es x ws (by omega) hx
theorem list_back {l : List ByteArray} (h : OkL l) (ws : List ByteArray) : Ev (fun k => reply_reader_list.f k (listW l ++ ws) false) (l, ws, false) := by
  have h1 := eachF_back (one := fun k xs ws b => listOne k xs ws b) (add := fun l e => l ++ [e]) (W := fun e => [wW e]) (Ok := fun e => e.size ≤ 1000) (sz := List.length) (fun x e => by simp) (fun e => by simp) (fun x e ws hx he => by
    unfold listOne
    exact Ev.bind (text_back he ws) (Ev.pos (by omega) (Ev.now _))) l [] ws (Nat.zero_le _) h.1 h.2
  rw [foldl_add, List.nil_append, flat_one] at h1
  exact h1
theorem prim_back {p : TPrim} (h : OkQ p) (ws : List ByteArray) : Ev (fun k => reply_reader_prim.f k (primW p ++ ws) false) (p.f0, p.f1, p.f2, p.f3, p.f4, p.f5, ws, false) := by
  obtain ⟨h0, h1, h2, h3, h4, h5⟩ := h
  have e : primW p ++ ws = wN p.f0 :: wW p.f1 :: wW p.f2 :: wN p.f3 :: (listW p.f4 ++ (listW p.f5 ++ ws)) := by simp only [primW, List.append_assoc, List.cons_append, List.nil_append]
  rw [e]
  unfold reply_reader_prim.f
  exact Ev.bind (num_back h0 _) (Ev.bind (text_back h1 _) (Ev.bind (text_back h2 _) (Ev.bind (num_back h3 _) (Ev.bind (list_back h4 _) (Ev.bind (list_back h5 _) (Ev.now _))))))
theorem kd_back (b : Bool) : ((kdW b).toList == [100]) = b ∧ ((kdW b).toList != [100] && (kdW b).toList != [102]) = false := by
  cases b
  · rw [show kdW false = B [102] from rfl, toList_B]; exact ⟨by decide, by decide⟩
  · rw [show kdW true = B [100] from rfl, toList_B]; exact ⟨by decide, by decide⟩
theorem file_back {f : TFile} (h : OkF f) (ws : List ByteArray) : Ev (fun k => reply_reader_file.f k (fileW f ++ ws) false) (f.f0, f.f1, f.f2, ws, false) := by
  obtain ⟨h0, h1⟩ := h
  have e : fileW f ++ ws = wW f.f0 :: kdW f.f1 :: (listW f.f2 ++ ws) := by simp only [fileW, List.append_assoc, List.cons_append, List.nil_append]
  obtain ⟨k1, k2⟩ := kd_back f.f1
  rw [e]
  unfold reply_reader_file.f
  refine Ev.bind (text_back h0 _) (Ev.bind (Ev.now (kdW f.f1, listW f.f2 ++ ws, false)) ?_)
  dsimp only
  rw [k1, k2]
  exact Ev.bind (list_back h1 ws) (Ev.now _)
theorem parse_back {e ns ps qs fs} (h : OkR e ns ps qs fs) : Ev (fun k => reply_Parse.f k (lineW (replyW e ns ps qs fs))) (e, ns, ps, qs, fs, 0) := by
  obtain ⟨hl, hw⟩ := replyW_ok h
  have hsp : Ev (fun k => strings_Split.f k (lineW (replyW e ns ps qs fs)) (⟨#[32]⟩ : ByteArray)) (replyW e ns ps qs fs) := by
    have h1 := split_ev 32 (lineW (replyW e ns ps qs fs)) (by
      obtain ⟨x, t, hx⟩ : ∃ x t, replyW e ns ps qs fs = x :: t := ⟨_, _, rfl⟩
      rw [hx] at hl hw ⊢
      rw [lineW, size_B, join_blank, List.length_append, toList_length]
      have h1 := (hw x (by simp)).1
      have h2 := blank_len t (fun w h => hw w (by simp [h]))
      rw [List.length_cons] at hl
      have h3 : t.length * 3002 ≤ 5000000 * 3002 := Nat.mul_le_mul_right _ (by omega)
      omega)
    rw [lineW, toList_B, splitL_joinL 32 _ (by simp [replyW]) (fun x hx => by
      obtain ⟨w, hw', rfl⟩ := List.mem_map.1 hx
      exact (hw w hw').2), List.map_map] at h1
    rw [show (replyW e ns ps qs fs).map (B ∘ ByteArray.toList) = replyW e ns ps qs fs from by
      conv => rhs; rw [← List.map_id (replyW e ns ps qs fs)]
      exact List.map_congr_left fun x _ => B_toList x] at h1
    exact h1
  obtain ⟨he, hn, hp, hq, hf⟩ := h
  have h3 := eachF_back (one := fun k x ws b => pairsOne k x ws b) (add := addP) (W := pairW) (Ok := OkP) (sz := fun x : Acc => x.1.length) (fun x e => by simp [addP]) (fun e => by simp [pairW]) (fun x e ws hx he => by
    unfold pairsOne
    exact Ev.bind (text_back he.1 _) (Ev.bind (text_back he.2 _) (Ev.pos (by omega) (Ev.now _)))) ps ([], [], []) (wN qs.length :: (qs.flatMap primW ++ (wN fs.length :: fs.flatMap fileW))) (Nat.zero_le _) hp.1 hp.2
  rw [foldP] at h3
  have h4 := eachF_back (one := fun k x ws b => primsOne k x ws b) (add := addQ) (W := primW) (Ok := OkQ) (sz := fun x : Acc => x.2.1.length) (fun x e => by simp [addQ]) (fun e => by simp [primW]) (fun x e ws hx he => by
    unfold primsOne
    exact Ev.bind (prim_back he _) (Ev.pos (by omega) (Ev.now _))) qs ([] ++ ps, [], []) (wN fs.length :: fs.flatMap fileW) (Nat.zero_le _) hq.1 hq.2
  rw [foldQ] at h4
  have h5 := eachF_back (one := fun k x ws b => filesOne k x ws b) (add := addF) (W := fileW) (Ok := OkF) (sz := fun x : Acc => x.2.2.length) (fun x e => by simp [addF]) (fun e => by simp [fileW]) (fun x e ws hx he => by
    unfold filesOne
    exact Ev.bind (file_back he _) (Ev.pos (by omega) (Ev.now _))) fs ([] ++ ps, [] ++ qs, []) [] (Nat.zero_le _) hf.1 hf.2
  rw [foldF, List.append_nil] at h5
  simp only [List.nil_append] at h3 h4 h5
  unfold reply_Parse.f
  exact Ev.bind hsp (Ev.bind (num_back he _) (Ev.bind (list_back hn _) (Ev.bind h3 (Ev.bind h4 (Ev.bind h5 (Ev.neg (by simp) (Ev.now _)))))))
end Go.Proofs.YtloibeefopdhpaaDoor.Plain
