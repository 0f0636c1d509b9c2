/- ReplyLogs in plain words. -/
import Derived.Test.YtloibeefopdhpaaDoorReplySame
import Derived.Test.YtloibeefopdhpaaDoorReplyLogsLaw
set_option linter.unusedVariables false
set_option linter.unusedSimpArgs false
namespace Go.Proofs.YtloibeefopdhpaaDoor.Plain
open Go.RowKit Go.Proofs.YtloibeefopdhpaaDoor.G Go.Proofs.YtloibeefopdhpaaDoorW.PrintWords Go.Proofs.YtloibeefopdhpaaDoorW.PrintLast Go.Proofs.YtloibeefopdhpaaDoorW.PrintMore
theorem awake36 : Ev (fun k => rafterlaw36_awake.f k) true := Ev.of (fun k => rafterlaw36_awake.mono k) (k := 100) (by kernel_rfl)
/-! ### no line's end in a line -/
theorem hexd_no10 (n : Nat) (h : n < 16) : hexd n ≠ 10 := by
  have : ∀ n, n < 16 → hexd n ≠ 10 := by decide
  exact this n h
theorem sign_no10 (c : UInt8) : (10 : UInt8) ∉ signL c := by
  unfold signL
  by_cases h : 32 < c.toNat ∧ c.toNat < 127 ∧ c.toNat ≠ 37
  · rw [if_pos h]
    intro e
    rw [List.mem_singleton] at e
    rw [← e] at h
    exact absurd h.1 (by decide)
  · rw [if_neg h]
    have hc : c.toNat < 256 := c.toNat_lt
    intro e
    simp only [List.mem_cons, List.not_mem_nil, or_false] at e
    rcases e with e | e | e
    · revert e; decide
    · exact hexd_no10 (c.toNat / 16) (by omega) e.symm
    · exact hexd_no10 (c.toNat % 16) (by omega) e.symm
theorem word_no10 (s : List UInt8) : (10 : UInt8) ∉ wordL s := by
  unfold wordL
  by_cases h : bareL s = true
  · rw [if_pos h]
    intro e
    unfold bareL at h
    simp only [Bool.and_eq_true, List.all_eq_true] at h
    exact absurd (h.2 10 e) (by decide)
  · rw [if_neg h]
    intro e
    rcases List.mem_cons.1 e with e | e
    · revert e; decide
    · obtain ⟨c, _, hc⟩ := List.mem_flatMap.1 e
      exact sign_no10 c hc
theorem num_no10 (n : Int) : (10 : UInt8) ∉ numL n := by
  have hg := decN_ge48 _ n.natAbs (Nat.le_refl _)
  intro hc
  unfold numL at hc
  split at hc
  · rcases List.mem_cons.1 hc with h | h
    · exact absurd h (by decide)
    · exact absurd (hg _ h) (by decide)
  · exact absurd (hg _ hc) (by decide)
def NoTen (w : ByteArray) : Prop := (10 : UInt8) ∉ w.toList
theorem wN_no10 (n : Int) : NoTen (wN n) := by unfold NoTen wN; rw [toList_B]; exact num_no10 n
theorem wW_no10 (s : ByteArray) : NoTen (wW s) := by unfold NoTen wW; rw [toList_B]; exact word_no10 _
theorem kd_no10 (b : Bool) : NoTen (kdW b) := by
  unfold NoTen
  cases b
  · rw [show kdW false = B [102] from rfl, toList_B]; decide
  · rw [show kdW true = B [100] from rfl, toList_B]; decide
theorem list_no10 (l : List ByteArray) : ∀ w ∈ listW l, NoTen w := by
  intro w hw
  rcases List.mem_cons.1 hw with rfl | hw
  · exact wN_no10 _
  · obtain ⟨s, _, rfl⟩ := List.mem_map.1 hw
    exact wW_no10 _
theorem words_no10 (e ns ps qs fs) : ∀ w ∈ replyW e ns ps qs fs, NoTen w := by
  intro w hw
  simp only [replyW, List.mem_append, List.mem_cons, List.mem_flatMap] at hw
  rcases hw with rfl | hw | rfl | ⟨p, _, hw⟩ | rfl | ⟨p, _, hw⟩ | rfl | ⟨p, _, hw⟩
  · exact wN_no10 _
  · exact list_no10 _ w hw
  · exact wN_no10 _
  · simp only [pairW, List.mem_cons, List.not_mem_nil, or_false] at hw
    rcases hw with rfl | rfl <;> exact wW_no10 _
  · exact wN_no10 _
  · simp only [primW, List.mem_append, List.mem_cons, List.not_mem_nil, or_false] at hw
    rcases hw with ((rfl | rfl | rfl | rfl) | hw) | hw
    · exact wN_no10 _
    · exact wW_no10 _
    · exact wW_no10 _
    · exact wN_no10 _
    · exact list_no10 _ w hw
    · exact list_no10 _ w hw
  · exact wN_no10 _
  · simp only [fileW, List.mem_append, List.mem_cons, List.not_mem_nil, or_false] at hw
    rcases hw with (rfl | rfl) | hw
    · exact wW_no10 _
    · exact kd_no10 _
    · exact list_no10 _ w hw
abbrev OkX (x : TReply) : Prop := OkR x.f0 x.f1 x.f2 x.f3 x.f4
def lineX (x : TReply) : List UInt8 := (lineW (replyW x.f0 x.f1 x.f2 x.f3 x.f4)).toList
theorem lineX_no10 (x : TReply) : (10 : UInt8) ∉ lineX x := by
  have hb : ∀ t : List ByteArray, (∀ w ∈ t, NoTen w) → (10 : UInt8) ∉ blankL t := by
    intro t ht e
    obtain ⟨w, hw, e⟩ := List.mem_flatMap.1 e
    rcases List.mem_cons.1 e with e | e
    · revert e; decide
    · exact ht w hw e
  have hn := words_no10 x.f0 x.f1 x.f2 x.f3 x.f4
  unfold lineX
  obtain ⟨y, t, hx⟩ : ∃ y t, replyW x.f0 x.f1 x.f2 x.f3 x.f4 = y :: t := ⟨_, _, rfl⟩
  rw [hx] at hn ⊢
  rw [lineW, toList_B, join_blank]
  intro e
  rcases List.mem_append.1 e with e | e
  · exact hn y (by simp) e
  · exact hb t (fun w hw => hn w (by simp [hw])) e
theorem lineX_len {x : TReply} (h : OkX x) : (lineX x).length ≤ 16000000000 := by
  obtain ⟨hl, hw⟩ := replyW_ok h
  unfold lineX
  obtain ⟨y, t, hx⟩ : ∃ y t, replyW x.f0 x.f1 x.f2 x.f3 x.f4 = y :: t := ⟨_, _, rfl⟩
  rw [hx] at hl hw ⊢
  rw [lineW, toList_B, join_blank, List.length_append, toList_length]
  have h1 := (hw y (by simp)).1
  have h2 := blank_len t (fun w h => hw w (by simp [h]))
  rw [List.length_cons] at hl
  have h3 : t.length * 3002 ≤ 5000000 * 3002 := Nat.mul_le_mul_right _ (by omega)
  omega
def logL (l : List TReply) : List UInt8 := l.flatMap fun x => lineX x ++ [10]
theorem logL_cons (x : TReply) (l : List TReply) : logL (x :: l) = (lineX x ++ [10]) ++ logL l := by simp [logL]
theorem logL_len : ∀ l : List TReply, (∀ x ∈ l, OkX x) → (logL l).length ≤ l.length * 16000000001
  | [], _ => by simp [logL]
  | x :: l, h => by
    have h1 := lineX_len (h x (by simp))
    have h2 := logL_len l (fun y hy => h y (by simp [hy]))
    rw [logL_cons, List.length_append, List.length_append, List.length_cons, List.length_cons, List.length_nil, Nat.succ_mul]
    omega
theorem logL_join : ∀ (x : TReply) (l : List TReply), logL (x :: l) = joinL 10 ((x :: l).map lineX) ++ [10]
  | x, [] => by simp [logL, joinL]
  | x, y :: l => by
    show logL (x :: (y :: l)) = joinL 10 (lineX x :: (y :: l).map lineX) ++ [10]
    rw [logL_cons, logL_join y l, joinL_cons 10 (lineX x) (show (y :: l).map lineX ≠ [] by simp)]
    simp only [List.append_assoc, List.cons_append, List.nil_append]
theorem rd_cons54 {l : List TReply} {i : Nat} {x : TReply} {t : List TReply} (h : l.drop i = x :: t) : rd_T54 l (i : Int) = x := by
  have : l[i]? = some x := by
    have := congrArg (fun l => l[0]?) h
    simpa using this
  rw [rd_T54, Int.toNat_natCast, List.getD_eq_getElem?_getD, this]
  rfl
theorem log_loop (l : List TReply) (hl : l.length ≤ 2000) : ∀ (t : List TReply) (i : Nat) (o : List UInt8), l.drop i = t → (∀ x ∈ t, OkX x) → o.length + t.length * 16000000001 ≤ 1000000000000000 →
    Ev (fun k => reply_Log.l0 k (B o) l (l.length : Int) (i : Int)) (B (o ++ logL t))
  | [], i, o, ht, hx, ho => by
    have hge := List.drop_eq_nil_iff.1 ht
    refine Ev.step (f := fun k => some _) (fun k => ?_) (Ev.now _)
    simp only [reply_Log.l0]
    rw [if_neg (by omega), show logL [] = [] from rfl, List.append_nil]
  | x :: t, i, o, ht, hx, ho => by
    have hlt := drop_cons_lt ht
    have h := hx x (by simp)
    have hlen := lineX_len h
    have hw : wrap64 ((i : Int) + 1) = ((i + 1 : Nat) : Int) := by rw [wrap64_in (by omega) (by omega)]; omega
    simp only [List.length_cons, Nat.succ_mul] at ho
    have ih := log_loop l hl t (i + 1) (o ++ (lineX x ++ [10])) (drop_cons_succ ht) (fun y hy => hx y (by simp [hy])) (by simp only [List.length_append, List.length_cons, List.length_nil]; omega)
    have es : (lineW (replyW x.f0 x.f1 x.f2 x.f3 x.f4)).size = (lineX x).length := (toList_length _).symm
    have eB : B o ++ (lineW (replyW x.f0 x.f1 x.f2 x.f3 x.f4) ++ (⟨#[10]⟩ : ByteArray)) = B (o ++ (lineX x ++ [10])) := ext_toList (by
      rw [toList_append, toList_append, toList_B, toList_B, show (⟨#[10]⟩ : ByteArray).toList = [10] from toList_B [10]]
      rfl)
    have e2 : (lineW (replyW x.f0 x.f1 x.f2 x.f3 x.f4) ++ (⟨#[10]⟩ : ByteArray)).size = (lineX x).length + 1 := by
      rw [← toList_length, toList_append, List.length_append, show (⟨#[10]⟩ : ByteArray).toList = [10] from toList_B [10]]
      rfl
    rw [logL_cons, ← List.append_assoc]
    refine Ev.step (f := fun k => (reply_Text.f k x.f0 x.f1 x.f2 x.f3 x.f4).bind fun s => if s.size + 1 ≤ 9223372036854775807 then (if (B o).size + (s ++ (⟨#[10]⟩ : ByteArray)).size ≤ 9223372036854775807 then reply_Log.l0 k (B o ++ (s ++ (⟨#[10]⟩ : ByteArray))) l (l.length : Int) ((i + 1 : Nat) : Int) else none) else none) (fun k => ?_)
      (Ev.bind (text_ev h) (Ev.pos (by rw [es]; omega) (Ev.pos (by rw [e2, size_B]; omega) (by rw [eB]; exact ih))))
    simp only [reply_Log.l0]
    rw [if_pos (by omega), if_pos (by omega), if_pos (by omega), rd_cons54 ht, hw]
theorem refLog_loop (l : List TReply) (hl : l.length ≤ 2000) : ∀ (t : List TReply) (i : Nat) (o : List UInt8), l.drop i = t → (∀ x ∈ t, OkX x) → o.length + t.length * 16000000001 ≤ 1000000000000000 →
    Ev (fun k => rafterref36_Log.l0 k l (B o) (i : Int)) (B (o ++ logL t))
  | [], i, o, ht, hx, ho => by
    have hge := List.drop_eq_nil_iff.1 ht
    refine Ev.step (f := fun k => some _) (fun k => ?_) (Ev.now _)
    simp only [rafterref36_Log.l0]
    rw [if_neg (by omega), show logL [] = [] from rfl, List.append_nil]
  | x :: t, i, o, ht, hx, ho => by
    have hlt := drop_cons_lt ht
    have h := hx x (by simp)
    have hlen := lineX_len h
    have hw : wrap64 ((i : Int) + 1) = ((i + 1 : Nat) : Int) := by rw [wrap64_in (by omega) (by omega)]; omega
    simp only [List.length_cons, Nat.succ_mul] at ho
    have ih := refLog_loop l hl t (i + 1) (o ++ (lineX x ++ [10])) (drop_cons_succ ht) (fun y hy => hx y (by simp [hy])) (by simp only [List.length_append, List.length_cons, List.length_nil]; omega)
    have es : (lineW (replyW x.f0 x.f1 x.f2 x.f3 x.f4)).size = (lineX x).length := (toList_length _).symm
    have eB : B o ++ lineW (replyW x.f0 x.f1 x.f2 x.f3 x.f4) ++ (⟨#[10]⟩ : ByteArray) = B (o ++ (lineX x ++ [10])) := ext_toList (by
      rw [toList_append, toList_append, toList_B, toList_B, show (⟨#[10]⟩ : ByteArray).toList = [10] from toList_B [10], List.append_assoc]
      rfl)
    have e2 : (B o ++ lineW (replyW x.f0 x.f1 x.f2 x.f3 x.f4)).size = o.length + (lineX x).length := by
      rw [← toList_length, toList_append, List.length_append, toList_B]
      rfl
    rw [logL_cons, ← List.append_assoc]
    refine Ev.step (f := fun k => (rafterref36_Text.f k x.f0 x.f1 x.f2 x.f3 x.f4).bind fun s => if (B o).size + s.size ≤ 9223372036854775807 then (if (B o ++ s).size + 1 ≤ 9223372036854775807 then rafterref36_Log.l0 k l (B o ++ s ++ (⟨#[10]⟩ : ByteArray)) ((i + 1 : Nat) : Int) else none) else none) (fun k => ?_)
      (Ev.bind (refText_ev h) (Ev.pos (by rw [es, size_B]; omega) (Ev.pos (by rw [e2]; omega) (by rw [eB]; exact ih))))
    simp only [rafterref36_Log.l0]
    rw [if_pos (by omega), if_pos (by omega), rd_cons54 ht, hw]
theorem log_ev (l : List TReply) (hl : l.length ≤ 2000) (hx : ∀ x ∈ l, OkX x) : Ev (fun k => reply_Log.f k l) (B (logL l)) := by
  have := log_loop l hl l 0 [] rfl hx (by have : l.length * 16000000001 ≤ 2000 * 16000000001 := Nat.mul_le_mul_right _ hl; simp only [List.length_nil]; omega)
  rw [List.nil_append] at this
  exact this
theorem refLog_ev (l : List TReply) (hl : l.length ≤ 2000) (hx : ∀ x ∈ l, OkX x) : Ev (fun k => rafterref36_Log.f k l) (B (logL l)) := by
  have := refLog_loop l hl l 0 [] rfl hx (by have : l.length * 16000000001 ≤ 2000 * 16000000001 := Nat.mul_le_mul_right _ hl; simp only [List.length_nil]; omega)
  rw [List.nil_append] at this
  exact this
/-! ### a log read -/
theorem cut_hit (a : List UInt8) (h : a.length ≤ 1000000000000000) : strings_CutSuffix.f (B (a ++ [10])) (⟨#[10]⟩ : ByteArray) = some (B a, true) := by
  have h1 : (⟨#[10]⟩ : ByteArray).size = 1 := rfl
  have h2 : (B (a ++ [10])).size = a.length + 1 := by rw [size_B, List.length_append]; rfl
  have hw : wrap64 (((a.length + 1 : Nat) : Int) - ((1 : Nat) : Int)) = (a.length : Int) := by rw [wrap64_in (by omega) (by omega)]; omega
  unfold strings_CutSuffix.f stringslite_CutSuffix.f stringslite_HasSuffix.f
  rw [h1, h2, hw, if_pos (by omega), if_pos (by omega), if_pos (by omega), Int.toNat_natCast]
  have e1 : ((B (a ++ [10])).extract a.length (a.length + 1)).toList = [10] := by
    rw [toList_extract, toList_B, List.take_of_length_le (by simp), List.drop_left]
  have e2 : (B (a ++ [10])).extract 0 a.length = B a := by rw [extract_take, toList_B, List.take_left]
  simp only [Option.bind_some]
  rw [e1, if_pos (by rw [show (⟨#[10]⟩ : ByteArray).toList = [10] from toList_B [10]]; rfl), if_pos (by omega), if_pos (by omega), e2]
  rfl
theorem cut_miss (s : ByteArray) (hs : s.size ≤ 1000000) (h : ∀ a, s.toList ≠ a ++ [10]) : strings_CutSuffix.f s (⟨#[10]⟩ : ByteArray) = some (s, false) := by
  have h1 : (⟨#[10]⟩ : ByteArray).size = 1 := rfl
  unfold strings_CutSuffix.f stringslite_CutSuffix.f stringslite_HasSuffix.f
  rw [h1]
  by_cases h2 : 1 ≤ s.size
  · have hw : wrap64 ((s.size : Int) - ((1 : Nat) : Int)) = ((s.size - 1 : Nat) : Int) := by rw [wrap64_in (by omega) (by omega)]; omega
    rw [hw, if_pos (by omega), if_pos (by omega), if_pos (by omega), Int.toNat_natCast]
    have e1 : ((s.extract (s.size - 1) s.size).toList == (⟨#[10]⟩ : ByteArray).toList) = false := by
      rw [beq_eq_false_iff_ne]
      intro e
      rw [extract_drop, toList_B, show (⟨#[10]⟩ : ByteArray).toList = [10] from toList_B [10]] at e
      exact h (s.toList.take (s.size - 1)) (by rw [← e, List.take_append_drop])
    simp only [Option.bind_some]
    rw [e1, if_neg (by decide)]
    rfl
  · rw [if_neg (by omega)]
    rfl
theorem ends_hit (s : ByteArray) (c : List UInt8) (h : s.toList = c ++ [10]) : endsB s = true := by
  unfold endsB
  have hl : s.size = c.length + 1 := by rw [← toList_length, h, List.length_append]; rfl
  rw [if_neg (by rw [h]; simp), show ((s.size : Int) - 1) = (c.length : Int) by omega, bt_cons (s := s) (i := c.length) (c := 10) (t := []) (by rw [h, List.drop_left])]
  rfl
theorem ends_miss (s : ByteArray) (h : ∀ c, s.toList ≠ c ++ [10]) : endsB s = false := by
  unfold endsB
  by_cases hn : s.toList = []
  · rw [if_pos hn]
  · rw [if_neg hn]
    have hl := toList_length s
    have hz : 0 < s.toList.length := List.length_pos_iff.2 hn
    obtain ⟨c, x, hx⟩ : ∃ c x, s.toList = c ++ [x] := ⟨s.toList.dropLast, s.toList.getLast hn, (List.dropLast_concat_getLast hn).symm⟩
    have hs : s.size = c.length + 1 := by rw [← hl, hx, List.length_append]; rfl
    rw [show ((s.size : Int) - 1) = (c.length : Int) by omega, bt_cons (s := s) (i := c.length) (c := x) (t := []) (by rw [hx, List.drop_left])]
    refine beq_eq_false_iff_ne.2 fun e => h c ?_
    have hx10 : x = 10 := by
      have : x.toNat = 10 := by exact_mod_cast e
      exact UInt8.toNat_inj.1 this
    rw [hx, hx10]
theorem read_loop36 (X : List ByteArray) (hX : X.length ≤ 2000) : ∀ (t : List ByteArray) (i : Nat) (o : List TReply), X.drop i = t → (∀ w ∈ t, w.size ≤ 1000) → o.length + t.length ≤ 5000 →
    ∃ r e, Ev (fun k => reply_Read.l0 k o X (X.length : Int) (i : Int)) (r, e) ∧ ((e = 0 ∧ ∃ xs, r = o ++ xs ∧ (∀ x ∈ xs, OkX x) ∧ xs.map lineX = t.map ByteArray.toList) ∨ (e = 17 ∧ r = []))
  | [], i, o, ht, hx, ho => by
    have hge := List.drop_eq_nil_iff.1 ht
    refine ⟨o, 0, Ev.step (f := fun k => some _) (fun k => ?_) (Ev.now _), .inl ⟨rfl, [], by simp, List.forall_mem_nil _, rfl⟩⟩
    simp only [reply_Read.l0]
    rw [if_neg (by omega)]
  | w :: t, i, o, ht, hx, ho => by
    have hlt := drop_cons_lt ht
    have hw : wrap64 ((i : Int) + 1) = ((i + 1 : Nat) : Int) := by rw [wrap64_in (by omega) (by omega)]; omega
    simp only [List.length_cons] at ho
    obtain ⟨e, ns, ps, qs, fs, er, hp, hcase⟩ := parse_any w (hx w (by simp))
    have step : ∀ k, reply_Read.l0 (k + 1) o X (X.length : Int) (i : Int) = (reply_Parse.f k w).bind fun b => if b.2.2.2.2.2 = 0 then (if o.length < 1353245080339 then reply_Read.l0 k (o ++ [(⟨b.1, b.2.1, b.2.2.1, b.2.2.2.1, b.2.2.2.2.1⟩ : TReply)]) X (X.length : Int) ((i + 1 : Nat) : Int) else none) else some (([] : List TReply), b.2.2.2.2.2) := by
      intro k
      simp only [reply_Read.l0]
      rw [if_pos (by omega), if_pos (by omega), if_pos (by omega), rdOf_cons ht, hw]
    rcases hcase with ⟨rfl, ok, hs⟩ | ⟨rfl, rfl, rfl, rfl, rfl, rfl⟩
    · obtain ⟨r, e2, hr, hc2⟩ := read_loop36 X hX t (i + 1) (o ++ [(⟨e, ns, ps, qs, fs⟩ : TReply)]) (drop_cons_succ ht) (fun y hy => hx y (by simp [hy])) (by simp only [List.length_append, List.length_cons, List.length_nil]; omega)
      refine ⟨r, e2, Ev.step step (Ev.bind hp (Ev.pos rfl (Ev.pos (by omega) hr))), ?_⟩
      rcases hc2 with ⟨he, xs, h1, h2, h3⟩ | h
      · refine .inl ⟨he, (⟨e, ns, ps, qs, fs⟩ : TReply) :: xs, by rw [h1, List.append_assoc]; rfl, fun x hm => ?_, ?_⟩
        · rcases List.mem_cons.1 hm with rfl | hm
          · exact ok
          · exact h2 x hm
        · rw [List.map_cons, List.map_cons, h3]
          congr 1
          show (lineW (replyW e ns ps qs fs)).toList = w.toList
          rw [hs]
      · exact .inr h
    · exact ⟨[], 17, Ev.step step (Ev.bind hp (Ev.neg (by decide) (Ev.now _))), .inr ⟨rfl, rfl⟩⟩
theorem read_any (s : ByteArray) (hs : s.size ≤ 1000) : ∃ r e, Ev (fun k => reply_Read.f k s) (r, e) ∧ ((e = 0 ∧ r.length ≤ 2000 ∧ (∀ x ∈ r, OkX x) ∧ B (logL r) = s) ∨ (e = 6 ∧ r = [] ∧ endsB s = false ∧ s.toList ≠ []) ∨ (e = 17 ∧ r = [] ∧ endsB s = true)) := by
  unfold reply_Read.f
  by_cases h0 : s.toList = []
  · have hcut : ∃ z, strings_CutSuffix.f s (⟨#[10]⟩ : ByteArray) = some z := ⟨_, cut_miss s (by omega) (fun a e => by rw [h0] at e; simp at e)⟩
    obtain ⟨z, hz⟩ := hcut
    refine ⟨[], 0, Ev.bind (a := z) (by rw [hz]; exact Ev.now _) (Ev.pos h0 (Ev.now _)), .inl ⟨rfl, by simp, List.forall_mem_nil _, ?_⟩⟩
    exact ext_toList (by rw [toList_B, h0]; rfl)
  · by_cases h1 : ∃ a, s.toList = a ++ [10]
    · obtain ⟨a, ha⟩ := h1
      have hl : a.length ≤ 1000 := by have := congrArg List.length ha; rw [toList_length, List.length_append, List.length_cons, List.length_nil] at this; omega
      have hB : s = B (a ++ [10]) := by rw [← ha, B_toList]
      have hsp := split_ev 10 (B a) (by rw [size_B]; omega)
      rw [toList_B] at hsp
      have hlen := splitL_length 10 a
      have hcn : a.count 10 ≤ a.length := List.count_le_length
      have hsz : ∀ w ∈ (splitL 10 a).map B, w.size ≤ 1000 := by
        intro w hw
        obtain ⟨x, hx, rfl⟩ := List.mem_map.1 hw
        rw [size_B]
        have h1 : ∀ (l : List (List UInt8)), ∀ y ∈ l, y.length ≤ (joinL 10 l).length := by
          intro l
          induction l with
          | nil => intro y hy; cases hy
          | cons z l ih =>
            intro y hy
            cases l with
            | nil =>
              rw [List.mem_singleton] at hy
              subst hy
              simp [joinL]
            | cons u l =>
              rw [joinL_cons 10 z (by simp), List.length_append, List.length_cons]
              rcases List.mem_cons.1 hy with rfl | hy
              · omega
              · have := ih y hy
                omega
        have := h1 _ x hx
        rw [joinL_splitL] at this
        omega
      obtain ⟨r, e, hr, hc⟩ := read_loop36 ((splitL 10 a).map B) (by rw [List.length_map]; omega) ((splitL 10 a).map B) 0 [] rfl hsz (by rw [List.length_map, List.length_nil]; omega)
      refine ⟨r, e, Ev.bind (a := (B a, true)) (by rw [hB, cut_hit a (by omega)]; exact Ev.now _) (Ev.neg h0 (Ev.pos rfl (Ev.bind hsp hr))), ?_⟩
      have hm : ((splitL 10 a).map B).map ByteArray.toList = splitL 10 a := by
        rw [List.map_map]
        conv => rhs; rw [← List.map_id (splitL 10 a)]
        exact List.map_congr_left fun x _ => toList_B x
      rcases hc with ⟨he, xs, h2, h3, h4⟩ | ⟨he, h2⟩
      · rw [List.nil_append] at h2
        subst h2
        rw [hm] at h4
        refine .inl ⟨he, ?_, h3, ?_⟩
        · have := congrArg List.length h4
          rw [List.length_map] at this
          omega
        · cases r with
          | nil => exact absurd h4.symm (splitL_ne 10 a)
          | cons x r => rw [logL_join, h4, joinL_splitL, hB]
      · exact .inr (.inr ⟨he, h2, ends_hit s a ha⟩)
    · have h2 : ∀ a, s.toList ≠ a ++ [10] := fun a e => h1 ⟨a, e⟩
      exact ⟨[], 6, Ev.bind (a := (s, false)) (by rw [cut_miss s (by omega) h2]; exact Ev.now _) (Ev.neg h0 (Ev.neg Bool.false_ne_true (Ev.now _))), .inr (.inl ⟨rfl, rfl, ends_miss s h2, h0⟩)⟩
theorem read_loop_back (l : List TReply) (hl : l.length ≤ 2000) : ∀ (t : List TReply) (i : Nat) (o : List TReply), l.drop i = t → (∀ x ∈ t, OkX x) → o.length + t.length ≤ 5000 →
    Ev (fun k => reply_Read.l0 k o (l.map fun x => B (lineX x)) ((l.map fun x => B (lineX x)).length : Int) (i : Int)) (o ++ t, 0)
  | [], i, o, ht, hx, ho => by
    have hge := List.drop_eq_nil_iff.1 ht
    refine Ev.step (f := fun k => some _) (fun k => ?_) (Ev.now _)
    simp only [reply_Read.l0]
    rw [if_neg (by rw [List.length_map]; omega), List.append_nil]
  | x :: t, i, o, ht, hx, ho => by
    have hlt := drop_cons_lt ht
    have hw : wrap64 ((i : Int) + 1) = ((i + 1 : Nat) : Int) := by rw [wrap64_in (by omega) (by omega)]; omega
    simp only [List.length_cons] at ho
    have ih := read_loop_back l hl t (i + 1) (o ++ [x]) (drop_cons_succ ht) (fun y hy => hx y (by simp [hy])) (by simp only [List.length_append, List.length_cons, List.length_nil]; omega)
    rw [List.append_assoc, List.singleton_append] at ih
    have hd : (l.map fun x => B (lineX x)).drop i = B (lineX x) :: t.map fun x => B (lineX x) := by rw [← List.map_drop, ht]; rfl
    have hp := parse_back (hx x (by simp))
    rw [show lineW (replyW x.f0 x.f1 x.f2 x.f3 x.f4) = B (lineX x) from by rw [lineX, B_toList]] at hp
    refine Ev.step (f := fun k => (reply_Parse.f k (B (lineX x))).bind fun b => if b.2.2.2.2.2 = 0 then (if o.length < 1353245080339 then reply_Read.l0 k (o ++ [(⟨b.1, b.2.1, b.2.2.1, b.2.2.2.1, b.2.2.2.2.1⟩ : TReply)]) (l.map fun x => B (lineX x)) ((l.map fun x => B (lineX x)).length : Int) ((i + 1 : Nat) : Int) else none) else some (([] : List TReply), b.2.2.2.2.2)) (fun k => ?_)
      (Ev.bind hp (Ev.pos rfl (Ev.pos (by omega) ih)))
    simp only [reply_Read.l0]
    rw [if_pos (by rw [List.length_map]; omega), if_pos (by omega), if_pos (by rw [List.length_map]; omega), rdOf_cons hd, hw]
theorem read_back (l : List TReply) (hl : l.length ≤ 20) (hx : ∀ x ∈ l, OkX x) : Ev (fun k => reply_Read.f k (B (logL l))) (l, 0) := by
  unfold reply_Read.f
  have hlen := logL_len l hx
  have hmul : l.length * 16000000001 ≤ 20 * 16000000001 := Nat.mul_le_mul_right _ hl
  cases l with
  | nil => exact Ev.bind (a := (B [], false)) (by rw [show logL [] = [] from rfl, cut_miss (B []) (by decide) (fun a e => by rw [toList_B] at e; simp at e)]; exact Ev.now _) (Ev.pos (by rw [toList_B]; rfl) (Ev.now _))
  | cons x l =>
    have hj := logL_join x l
    have hj2 := congrArg List.length hj
    rw [List.length_append, List.length_cons, List.length_nil] at hj2
    have hsp := split_ev 10 (B (joinL 10 ((x :: l).map lineX))) (by rw [size_B]; omega)
    rw [toList_B, splitL_joinL 10 _ (by simp) (fun y hy => by
      obtain ⟨z, _, rfl⟩ := List.mem_map.1 hy
      exact lineX_no10 z), List.map_map] at hsp
    refine Ev.bind (a := (B (joinL 10 ((x :: l).map lineX)), true)) (by rw [hj, cut_hit _ (by omega)]; exact Ev.now _) (Ev.neg (by rw [toList_B, hj]; simp) (Ev.pos rfl (Ev.bind hsp ?_)))
    exact read_loop_back (x :: l) (by omega) (x :: l) 0 [] rfl hx (by rw [List.length_nil]; omega)
theorem all_l0 : ∀ l : List TReply, (∀ x ∈ l, LenR x.f1 x.f2 x.f3 x.f4) → Ev (fun k => rafterref36_All.l0 k l l) true
  | [], _ => Ev.now _
  | x :: l, hx => by
    obtain ⟨r, hr, hp⟩ := refSame_ev x.f0 x.f0 x.f1 x.f1 x.f2 x.f2 x.f3 x.f3 x.f4 x.f4 (hx x (by simp))
    have h1 := hp.2 ⟨rfl, rfl, rfl, rfl, rfl⟩
    subst h1
    simp only [rafterref36_All.l0]
    exact Ev.bind hr (Ev.pos rfl (all_l0 l (fun y hy => hx y (by simp [hy]))))
theorem all_ev (l : List TReply) (hx : ∀ x ∈ l, LenR x.f1 x.f2 x.f3 x.f4) : Ev (fun k => rafterref36_All.f k l l) true := by
  unfold rafterref36_All.f
  exact Ev.pos rfl (all_l0 l hx)
def OkTs (l : List ByteArray) : Prop := (∀ y ∈ l, y.size ≤ 140737488351232) ∧ l.length * 16 ≤ 140737488351232 ∧ l.length ≤ 9223372036854775807
def OkQs (q : TPrim) : Prop := (Lit.int .i64 q.f0).wf = true ∧ q.f1.size ≤ 140737488351232 ∧ q.f2.size ≤ 140737488351232 ∧ (Lit.int .i64 q.f3).wf = true ∧ OkTs q.f4 ∧ OkTs q.f5
def OkFs (f : TFile) : Prop := f.f0.size ≤ 140737488351232 ∧ True ∧ OkTs f.f2
def OkReply (x : TReply) : Prop := (Lit.int .i64 x.f0).wf = true ∧ OkTs x.f1 ∧ ((∀ p ∈ x.f2, p.f0.size ≤ 140737488351232 ∧ p.f1.size ≤ 140737488351232) ∧ x.f2.length * 32 ≤ 140737488351232 ∧ x.f2.length ≤ 9223372036854775807) ∧ ((∀ q ∈ x.f3, OkQs q) ∧ x.f3.length * 96 ≤ 140737488351232 ∧ x.f3.length ≤ 9223372036854775807) ∧ ((∀ f ∈ x.f4, OkFs f) ∧ x.f4.length * 48 ≤ 140737488351232 ∧ x.f4.length ≤ 9223372036854775807)
theorem i64_wf {n : Int} (h : (Lit.int .i64 n).wf = true) : OkI n := by
  have e1 : IntKind.i64.min = -9223372036854775808 := by decide
  have e2 : IntKind.i64.max = 9223372036854775807 := by decide
  simp [Lit.wf, e1, e2] at h
  exact h
theorem okV_of {x : TReply} (h : OkReply x) : OkV x := by
  obtain ⟨h0, ⟨_, h1, _⟩, ⟨p1, p2, _⟩, ⟨q1, q2, _⟩, f1, f2, _⟩ := h
  refine ⟨i64_wf h0, ⟨by omega, by omega, fun q hq => ?_, by omega, fun f hf => ?_, by omega⟩, p1, fun q hq => ?_⟩
  · obtain ⟨_, _, _, _, ⟨_, a, _⟩, ⟨_, b, _⟩⟩ := q1 q hq
    exact ⟨by omega, by omega⟩
  · obtain ⟨_, _, _, a, _⟩ := f1 f hf
    unfold LenF
    omega
  · obtain ⟨a, b, c, d, _⟩ := q1 q hq
    exact ⟨b, c, i64_wf a, i64_wf d⟩
theorem logs36 (l : List TReply) (s : ByteArray) (h : ∀ x ∈ l, OkV x) : Ev (fun k => rafterlaw36_ReplyLogs.f k l s) true := by
  obtain ⟨b, hb, hp⟩ := light36_ev l h
  unfold rafterlaw36_ReplyLogs.f
  refine Ev.bind hb ?_
  by_cases hc : b = true ∧ s.size ≤ 1000
  case neg => exact Ev.neg hc awake36
  refine Ev.pos hc ?_
  obtain ⟨hx, hl⟩ := hp.1 hc.1
  have ok : ∀ x ∈ l, OkX x := fun x hm => okR_of (h x hm) (hx x hm)
  obtain ⟨r, e, hr, hcase⟩ := read_any s hc.2
  refine Ev.bind (log_ev l (by omega) ok) (Ev.bind (read_back l hl ok) (Ev.bind hr (Ev.bind (refLog_ev l (by omega) ok) (Ev.bind (all_ev l (fun x hm => (h x hm).len)) (Ev.bind awake36 (Ev.pos ⟨rfl, rfl, rfl, rfl⟩ ?_))))))
  rcases hcase with ⟨rfl, h1, h2, h3⟩ | ⟨rfl, rfl, h1, h2⟩ | ⟨rfl, rfl, h1⟩
  · exact Ev.pos rfl (Ev.bind (refLog_ev r h1 h2) (Ev.pos h3 (Ev.now _)))
  · exact Ev.neg (by decide) (Ev.pos ⟨rfl, .inl ⟨rfl, h1, h2⟩⟩ (Ev.now _))
  · exact Ev.neg (by decide) (Ev.pos ⟨rfl, .inr ⟨rfl, h1⟩⟩ (Ev.now _))
end Go.Proofs.YtloibeefopdhpaaDoor.Plain
namespace Go.Proofs.YtloibeefopdhpaaDoor.Pure
open Go.RowKit Go.Proofs.YtloibeefopdhpaaDoor.G Go.Proofs.YtloibeefopdhpaaDoor.Plain Go.Proofs.YtloibeefopdhpaaDoorW.PrintWords Go.Proofs.YtloibeefopdhpaaDoorW.PrintLast Go.Proofs.YtloibeefopdhpaaDoorW.PrintMore
theorem ReplyLogs (x0 : List S54) (x1 : ByteArray) (ok0 : (∀ x ∈ x0, OkReply x) ∧ x0.length * 104 ≤ 140737488351232 ∧ x0.length ≤ 9223372036854775807) (ok1 : x1.size ≤ 140737488351232) : ∃ k, rafterlaw36_ReplyLogs.f k x0 x1 = some true := by
  obtain ⟨N, hN⟩ := logs36 x0 x1 (fun x hx => okV_of (ok0.1 x hx))
  exact ⟨N, hN N (Nat.le_refl _)⟩
end Go.Proofs.YtloibeefopdhpaaDoor.Pure
