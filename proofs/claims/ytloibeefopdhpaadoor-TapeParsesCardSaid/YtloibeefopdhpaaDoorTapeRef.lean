/- The reference's text of a script that was read, and the text without what says nothing. -/
import Derived.Test.YtloibeefopdhpaaDoorTapeLines
import Derived.Test.YtloibeefopdhpaaDoorRef40Same
set_option linter.unusedVariables false
set_option linter.unusedSimpArgs false
namespace Go.Proofs.YtloibeefopdhpaaDoor.Plain
open Go.RowKit Go.Proofs.YtloibeefopdhpaaDoor.G Go.Proofs.YtloibeefopdhpaaDoorW.PrintWords Go.Proofs.YtloibeefopdhpaaDoorW.PrintLast Go.Proofs.YtloibeefopdhpaaDoorW.PrintMore

theorem refTextC_append (k : Nat) (d : List TCrash) : ∀ (c : List TCrash) (o : ByteArray), refTextC k (c ++ d) o = (refTextC k c o).bind fun o => refTextC k d o
  | [], o => rfl
  | x :: c, o => by
    simp only [List.cons_append, refTextC, Option.bind_assoc]
    congr 1; funext n; congr 1; funext m
    split
    · exact refTextC_append k d c _
    · rfl
theorem refTextX_append (k : Nat) (d : List TStep) : ∀ (c : List TStep) (o : ByteArray), refTextX k (c ++ d) o = (refTextX k c o).bind fun o => refTextX k d o
  | [], o => rfl
  | x :: c, o => by
    simp only [List.cons_append, refTextX, Option.bind_assoc]
    congr 1; funext n; congr 1; funext m
    split
    · exact refTextX_append k d c _
    · rfl
theorem B_app2 (a b : List UInt8) (c : ByteArray) : B a ++ (B b ++ c) = B (a ++ b) ++ c := by rw [← ByteArray.append_assoc, B_append]
theorem refTextC_ev {cs : List TCrash} {p : List UInt8} (h : CrashTx cs p) : ∀ out : List UInt8, out.length + p.length ≤ 1000000 → Ev (fun k => refTextC k cs (B out)) (B (out ++ p)) := by
  induction h with
  | nil => intro out _; rw [List.append_nil]; exact Ev.now _
  | @snoc cs o n b h n0 n1 hb ih =>
    intro out hl
    simp only [List.length_append, List.length_cons] at hl
    refine Ev.congr (fun k => refTextC_append k _ cs (B out)) (Ev.bind (ih out (by omega)) ?_)
    simp only [refTextC]
    rw [refMask_f b (by omega)]
    refine Ev.bind (refNumber_ev n n0 n1) (Ev.bind_now (Ev.pos (by simp only [size_B, List.length_append]; omega) ?_))
    have e : (((((B (out ++ o) ++ (⟨#[99, 114, 97, 115, 104, 32]⟩ : ByteArray)) ++ B (numL n)) ++ (⟨#[32]⟩ : ByteArray)) ++ B (maskB b)) ++ (⟨#[10]⟩ : ByteArray)) = B (out ++ (o ++ (crashP ++ (numL n ++ 32 :: maskB b) ++ [10]))) := by
      rw [show (⟨#[99, 114, 97, 115, 104, 32]⟩ : ByteArray) = B crashP from rfl, show (⟨#[32]⟩ : ByteArray) = B [32] from rfl, show (⟨#[10]⟩ : ByteArray) = B [10] from rfl]
      simp only [B_append]
      congr 1
      simp
    rw [e]
    exact Ev.now _
theorem refTextX_ev {xs : List TStep} {q : List UInt8} (h : StepTx xs q) : ∀ out : List UInt8, out.length + q.length ≤ 1000000 → Ev (fun k => refTextX k xs (B out)) (B (out ++ q)) := by
  induction h with
  | nil => intro out _; rw [List.append_nil]; exact Ev.now _
  | @snoc xs o x v m h hln hv hm hy ih =>
    intro out hl
    simp only [List.length_append, List.length_cons] at hl
    have hline : Ev (fun k => lineOfX k x) (v :: m.map B) := Ev.of (fun k => rafterref35_Line.mono _ _ _ _ _ _ _ _ _ _ k) (k := 20) hln
    have htx := refText_ev v (m.map B) (by rw [List.length_map]; omega) (by omega) (fun y h => by
      obtain ⟨z, hz, rfl⟩ := List.mem_map.1 h
      have := hy z hz
      rw [size_B]
      omega)
    rw [List.map_map, show ((fun s : ByteArray => wordL s.toList) ∘ B) = wordL from funext fun x => congrArg wordL (toList_B x)] at htx
    refine Ev.congr (fun k => refTextX_append k _ xs (B out)) (Ev.bind (ih out (by omega)) ?_)
    simp only [refTextX]
    refine Ev.bind hline (Ev.bind htx (Ev.pos (by simp only [size_B, List.length_append]; omega) ?_))
    have e : ((B (out ++ o) ++ B (joinL 32 (v.toList :: m.map wordL))) ++ (⟨#[10]⟩ : ByteArray)) = B (out ++ (o ++ (joinL 32 (v.toList :: m.map wordL) ++ [10]))) := by
      rw [show (⟨#[10]⟩ : ByteArray) = B [10] from rfl, B_append, B_append]
      congr 1
      simp
    rw [e]
    exact Ev.now _
theorem numL_len (n : Int) (h0 : -9223372036854775808 ≤ n) (h1 : n ≤ 9223372036854775807) : (numL n).length ≤ 20 := by
  have := decN_length 18 n.natAbs (by omega)
  unfold numL
  split
  · rw [List.length_cons]; omega
  · omega
theorem refText40_ev (t : TScr) (o : List UInt8) (ht : Tx t o) (hh : t.hd = true) (ho : o.length ≤ 500000) : Ev (fun k => rafterref40_Text.f k t.room t.cs t.xs) (B o) := by
  rw [Tx, if_pos hh] at ht
  obtain ⟨r0, r1, p, q, hp, hq, rfl⟩ := ht
  simp only [List.length_append] at ho
  have hn := numL_len t.room (by omega) (by omega)
  unfold rafterref40_Text.f
  refine Ev.bind (refNumber_ev t.room (by omega) (by omega)) (Ev.pos (by rw [size_B]; omega) ?_)
  have e : (((⟨#[114, 111, 111, 109, 32]⟩ : ByteArray) ++ B (numL t.room)) ++ (⟨#[10]⟩ : ByteArray)) = B (roomP ++ numL t.room ++ [10]) := by
    rw [show (⟨#[114, 111, 111, 109, 32]⟩ : ByteArray) = B roomP from rfl, show (⟨#[10]⟩ : ByteArray) = B [10] from rfl, B_append, B_append]
  rw [e]
  refine Ev.bind (refTextC_ev hp _ (by simp only [List.length_append]; omega)) ?_
  exact refTextX_ev hq _ (by simp only [List.length_append]; omega)
theorem StepTx_mem {xs : List TStep} {q : List UInt8} (h : StepTx xs q) : ∀ x ∈ xs, ∃ v m, lineOfX 20 x = some (v :: m) := by
  induction h with
  | nil => intro x hx; cases hx
  | snoc x v m h hln _ _ _ ih =>
    intro y hy
    rcases List.mem_append.1 hy with hy | hy
    · exact ih y hy
    · rw [List.mem_singleton] at hy
      subst hy
      exact ⟨_, _, hln⟩
theorem mayX_ev : ∀ xs : List TStep, (∀ x ∈ xs, ∃ v m, lineOfX 20 x = some (v :: m)) → Ev (fun k => mayX k xs) 0
  | [], _ => Ev.now _
  | x :: xs, hx => by
    obtain ⟨v, m, hln⟩ := hx x List.mem_cons_self
    have hline : Ev (fun k => lineOfX k x) (v :: m) := Ev.of (fun k => rafterref35_Line.mono _ _ _ _ _ _ _ _ _ _ k) (k := 20) hln
    exact Ev.bind hline (Ev.neg (by rw [List.length_cons]; omega) (mayX_ev xs fun y hy => hx y (List.mem_cons_of_mem _ hy)))
theorem may_ev (t : TScr) (o : List UInt8) (ht : Tx t o) (hh : t.hd = true) (hl : t.xs.length ≤ 1000000) : Ev (fun k => rafterref40_May.f k t.room t.cs t.xs) 0 := by
  rw [Tx, if_pos hh] at ht
  obtain ⟨r0, r1, p, q, hp, hq, rfl⟩ := ht
  unfold rafterref40_May.f
  exact Ev.neg (by omega) (mayX_ev t.xs (StepTx_mem hq))
theorem splitL_snoc (c : UInt8) : ∀ l : List UInt8, splitL c (l ++ [c]) = splitL c l ++ [[]]
  | [] => by simp [splitL]
  | b :: l => by
    have ih := splitL_snoc c l
    by_cases h : b = c
    · subst h
      simp only [List.cons_append, splitL, if_true, ih]
    · have hne := splitL_ne c l
      simp only [List.cons_append, splitL, if_neg h, ih]
      cases hs : splitL c l with
      | nil => exact absurd hs hne
      | cons x xs => rfl
theorem plain_snoc (c : List UInt8) : plainS (splitL 10 (c ++ [10])) = flatP (splitL 10 c) := by
  rw [splitL_snoc]
  obtain ⟨L, z, h1, h2, _⟩ := split_last (splitL 10 c ++ [[]]) (by simp)
  obtain ⟨h3, h4⟩ := List.append_inj' h1 rfl
  injection h4 with h4
  rw [h2, ← h3, ← h4, List.append_nil]
/-- What a text is read as. -/
theorem tapeParse_ev (s : ByteArray) (hs : s.size ≤ 2000) :
    (∃ c t, s.toList = c ++ [10] ∧ Ev (fun k => tape_Parse.f k s) (t.room, t.cs, t.xs, 0) ∧ t.hd = true ∧ t.cs.length + t.xs.length ≤ 100000 ∧ Tx t (flatP (splitL 10 c))) ∨
    (∃ c e, s.toList = c ++ [10] ∧ Ev (fun k => tape_Parse.f k s) (0, [], [], e) ∧ (e = 17 ∨ e = 3)) ∨
    ((∀ c, s.toList ≠ c ++ [10]) ∧ Ev (fun k => tape_Parse.f k s) (0, [], [], 6)) := by
  unfold tape_Parse.f
  by_cases he : ∃ c, s.toList = c ++ [10]
  case neg =>
    have hm : ∀ c, s.toList ≠ c ++ [10] := fun c h => he ⟨c, h⟩
    refine .inr (.inr ⟨hm, ?_⟩)
    rw [cutSuf_miss s (by omega) hm]
    exact Ev.bind_now (Ev.neg (fun h => by cases h) (Ev.now _))
  obtain ⟨c, hc⟩ := he
  have hlen : c.length + 1 = s.size := by rw [← toList_length, hc, List.length_append]; rfl
  have hcut := cutSuf_hit c (by omega)
  rw [← hc, B_toList] at hcut
  have hsp := split_ev 10 (B c) (by rw [size_B]; omega)
  rw [toList_B] at hsp
  have hcnt : (splitL 10 c).length ≤ 2001 := by
    rw [splitL_length]
    have := List.count_le_length (a := (10 : UInt8)) (l := c)
    omega
  have hwl : ∀ x ∈ splitL 10 c, x.length ≤ 2000 := by
    intro x hx
    have := mem_join_len (c := 10) _ x hx
    rw [joinL_splitL] at this
    omega
  obtain ⟨t, e, h1, h2, h3⟩ := linesT_ev (splitL 10 c) ⟨false, 0, [], []⟩ [] (by rw [Tx, if_neg (by decide)]; exact ⟨rfl, rfl, rfl⟩) hwl (by simp; omega)
  rw [hcut]
  by_cases h0 : e = 0
  · subst h0
    obtain ⟨h4, h5⟩ := h3 rfl
    rw [List.nil_append] at h4
    by_cases hh : t.hd = true
    · exact .inl ⟨c, t, hc, Ev.bind_now (Ev.pos rfl (Ev.bind hsp (Ev.bind h1 (Ev.pos rfl (Ev.pos hh (Ev.now _)))))), hh, h5, h4⟩
    · exact .inr (.inl ⟨c, 17, hc, Ev.bind_now (Ev.pos rfl (Ev.bind hsp (Ev.bind h1 (Ev.pos rfl (Ev.neg hh (Ev.now _)))))), .inl rfl⟩)
  · refine .inr (.inl ⟨c, e, hc, Ev.bind_now (Ev.pos rfl (Ev.bind hsp (Ev.bind h1 (Ev.neg h0 (Ev.now _))))), ?_⟩)
    rcases h2 with h2 | h2 | h2
    · exact absurd h2 h0
    · exact .inl h2
    · exact .inr h2
theorem same_zero : Ev (fun k => rafterref40_Same.f k 0 [] [] 0 [] []) true := Ev.congr (fun k => by simp [rafterref40_Same.f, sameC, refSameX]) (Ev.now _)
end Go.Proofs.YtloibeefopdhpaaDoor.Plain
