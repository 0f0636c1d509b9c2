-- Words of the kit's print (as it laid them for this seat); what this claim does not use is left out.
import Derived.Test.YtloibeefopdhpaaDoorReplyNum
import Derived.Test.YtloibeefopdhpaaDoorCmdWord
import Derived.Test.YtloibeefopdhpaaDoorSplit
import Derived.Test.YtloibeefopdhpaaDoorReplyParse
import Derived.Test.YtloibeefopdhpaaDoorG7
set_option linter.unusedVariables false
set_option linter.unusedSimpArgs false
namespace Go.Proofs.YtloibeefopdhpaaDoor.Plain
open Go.RowKit Go.Proofs.YtloibeefopdhpaaDoor.G Go.Proofs.YtloibeefopdhpaaDoorW.PrintWords Go.Proofs.YtloibeefopdhpaaDoorW.PrintLast Go.Proofs.YtloibeefopdhpaaDoorW.PrintMore
def wN (n : Int) : ByteArray := B (numL n)
def wW (s : ByteArray) : ByteArray := B (wordL s.toList)
def listW (l : List ByteArray) : List ByteArray := wN l.length :: l.map wW
def pairW (p : TPair) : List ByteArray := [wW p.f0, wW p.f1]
def kdW (b : Bool) : ByteArray := if b = true then (⟨#[100]⟩ : ByteArray) else (⟨#[102]⟩ : ByteArray)
def primW (p : TPrim) : List ByteArray := [wN p.f0, wW p.f1, wW p.f2, wN p.f3] ++ listW p.f4 ++ listW p.f5
def fileW (f : TFile) : List ByteArray := [wW f.f0, kdW f.f1] ++ listW f.f2
def replyW (e : Int) (ns : List ByteArray) (ps : List TPair) (qs : List TPrim) (fs : List TFile) : List ByteArray :=
  wN e :: (listW ns ++ (wN ps.length :: (ps.flatMap pairW ++ (wN qs.length :: (qs.flatMap primW ++ (wN fs.length :: fs.flatMap fileW))))))
def OkI (n : Int) : Prop := -9223372036854775808 ≤ n ∧ n ≤ 9223372036854775807
def OkL (l : List ByteArray) : Prop := l.length ≤ 1001 ∧ ∀ s ∈ l, s.size ≤ 1000
def OkP (p : TPair) : Prop := p.f0.size ≤ 1000 ∧ p.f1.size ≤ 1000
def OkQ (p : TPrim) : Prop := OkI p.f0 ∧ p.f1.size ≤ 1000 ∧ p.f2.size ≤ 1000 ∧ OkI p.f3 ∧ OkL p.f4 ∧ OkL p.f5
def OkF (f : TFile) : Prop := f.f0.size ≤ 1000 ∧ OkL f.f2
structure OkR (e : Int) (ns : List ByteArray) (ps : List TPair) (qs : List TPrim) (fs : List TFile) : Prop where mk ::
  e : OkI e
  n : OkL ns
  p : ps.length ≤ 1001 ∧ ∀ x ∈ ps, OkP x
  q : qs.length ≤ 1001 ∧ ∀ x ∈ qs, OkQ x
  f : fs.length ≤ 1001 ∧ ∀ x ∈ fs, OkF x
def OkW (w : ByteArray) : Prop := w.size ≤ 3001 ∧ (32 : UInt8) ∉ w.toList
theorem len_i {n : Nat} (h : n ≤ 1001) : OkI (n : Int) := by unfold OkI; omega
theorem decN_ge48 : ∀ (N n : Nat), n ≤ N → ∀ c ∈ decN n, 45 ≤ c.toNat := by
  have hd : ∀ n, n < 10 → 45 ≤ (dig n).toNat := ten (by decide) (by decide) (by decide) (by decide) (by decide) (by decide) (by decide) (by decide) (by decide) (by decide)
  intro N
  induction N with
  | zero =>
    intro n hn c hc
    rw [decN_small (by omega)] at hc
    rw [List.mem_singleton.1 hc]
    exact hd _ (by omega)
  | succ N ih =>
    intro n hn c hc
    by_cases h1 : n < 10
    · rw [decN_small h1] at hc
      rw [List.mem_singleton.1 hc]
      exact hd _ h1
    · rw [decN_big (by omega)] at hc
      rcases List.mem_append.1 hc with h | h
      · exact ih (n / 10) (by omega) c h
      · rw [List.mem_singleton.1 h]
        exact hd _ (by omega)
theorem okW_num {n : Int} (h : OkI n) : OkW (wN n) := by
  obtain ⟨h0, h1⟩ := h
  have hl := decN_length 18 n.natAbs (by omega)
  have hg := decN_ge48 _ n.natAbs (Nat.le_refl _)
  refine ⟨?_, fun hc => ?_⟩
  · rw [wN, size_B]
    unfold numL
    split
    · rw [List.length_cons]; omega
    · omega
  · rw [wN, toList_B] at hc
    unfold numL at hc
    split at hc
    · rcases List.mem_cons.1 hc with h | h
      · exact absurd h (by decide)
      · exact absurd (hg _ h) (by decide)
    · exact absurd (hg _ hc) (by decide)
theorem okW_word {s : ByteArray} (h : s.size ≤ 1000) : OkW (wW s) := by
  have := word_length s.toList
  rw [toList_length] at this
  exact ⟨by rw [wW, size_B]; omega, by rw [wW, toList_B]; exact word_free _⟩
theorem okW_kd (b : Bool) : OkW (kdW b) := by
  cases b
  · exact ⟨by decide, by rw [show kdW false = B [102] from rfl, toList_B]; decide⟩
  · exact ⟨by decide, by rw [show kdW true = B [100] from rfl, toList_B]; decide⟩
theorem okW_list {l : List ByteArray} (h : OkL l) : ∀ w ∈ listW l, OkW w := by
  intro w hw
  rcases List.mem_cons.1 hw with rfl | hw
  · exact okW_num (len_i h.1)
  · obtain ⟨s, hs, rfl⟩ := List.mem_map.1 hw
    exact okW_word (h.2 s hs)
theorem listW_length (l : List ByteArray) : (listW l).length = l.length + 1 := by simp [listW]
theorem okW_pair {p : TPair} (h : OkP p) : ∀ w ∈ pairW p, OkW w := by
  intro w hw
  simp only [pairW, List.mem_cons, List.not_mem_nil, or_false] at hw
  rcases hw with rfl | rfl
  · exact okW_word h.1
  · exact okW_word h.2
theorem okW_prim {p : TPrim} (h : OkQ p) : ∀ w ∈ primW p, OkW w := by
  obtain ⟨h0, h1, h2, h3, h4, h5⟩ := h
  intro w hw
  simp only [primW, List.mem_append, List.mem_cons, List.not_mem_nil, or_false] at hw
  rcases hw with ((rfl | rfl | rfl | rfl) | hw) | hw
  · exact okW_num h0
  · exact okW_word h1
  · exact okW_word h2
  · exact okW_num h3
  · exact okW_list h4 w hw
  · exact okW_list h5 w hw
theorem okW_file {f : TFile} (h : OkF f) : ∀ w ∈ fileW f, OkW w := by
  obtain ⟨h0, h1⟩ := h
  intro w hw
  simp only [fileW, List.mem_append, List.mem_cons, List.not_mem_nil, or_false] at hw
  rcases hw with (rfl | rfl) | hw
  · exact okW_word h0
  · exact okW_kd _
  · exact okW_list h1 w hw
theorem okW_flat {α : Type} {W : α → List ByteArray} {Ok : α → Prop} (hW : ∀ x, Ok x → ∀ w ∈ W x, OkW w) {l : List α} (h : ∀ x ∈ l, Ok x) : ∀ w ∈ l.flatMap W, OkW w := by
  intro w hw
  obtain ⟨x, hx, hw⟩ := List.mem_flatMap.1 hw
  exact hW x (h x hx) w hw
theorem flat_len {α : Type} (W : α → List ByteArray) (m : Nat) : ∀ l : List α, (∀ x ∈ l, (W x).length ≤ m) → (l.flatMap W).length ≤ l.length * m
  | [], _ => by simp
  | x :: l, h => by
    have h1 := h x (by simp)
    have h2 := flat_len W m l (fun y hy => h y (by simp [hy]))
    rw [List.flatMap_cons, List.length_append, List.length_cons, Nat.succ_mul]
    omega
theorem primW_length {p : TPrim} (h : OkQ p) : (primW p).length ≤ 2010 := by
  obtain ⟨_, _, _, _, h4, h5⟩ := h
  simp only [primW, List.length_append, List.length_cons, List.length_nil, listW_length]
  have := h4.1
  have := h5.1
  omega
theorem fileW_length {f : TFile} (h : OkF f) : (fileW f).length ≤ 2010 := by
  simp only [fileW, List.length_append, List.length_cons, List.length_nil, listW_length]
  have := h.2.1
  omega
theorem replyW_ok {e ns ps qs fs} (h : OkR e ns ps qs fs) : (replyW e ns ps qs fs).length ≤ 5000000 ∧ ∀ w ∈ replyW e ns ps qs fs, OkW w := by
  obtain ⟨he, hn, hp, hq, hf⟩ := h
  constructor
  · have h1 := flat_len pairW 2 ps (fun x _ => by simp [pairW])
    have h2 := flat_len primW 2010 qs (fun x hx => primW_length (hq.2 x hx))
    have h3 := flat_len fileW 2010 fs (fun x hx => fileW_length (hf.2 x hx))
    have h4 : ps.length * 2 ≤ 1001 * 2 := Nat.mul_le_mul_right _ hp.1
    have h5 : qs.length * 2010 ≤ 1001 * 2010 := Nat.mul_le_mul_right _ hq.1
    have h6 : fs.length * 2010 ≤ 1001 * 2010 := Nat.mul_le_mul_right _ hf.1
    have h7 := hn.1
    simp only [replyW, List.length_append, List.length_cons, listW_length]
    omega
  · intro w hw
    simp only [replyW, List.mem_append, List.mem_cons] at hw
    rcases hw with rfl | hw | rfl | hw | rfl | hw | rfl | hw
    · exact okW_num he
    · exact okW_list hn w hw
    · exact okW_num (len_i hp.1)
    · exact okW_flat (fun x hx => okW_pair hx) hp.2 w hw
    · exact okW_num (len_i hq.1)
    · exact okW_flat (fun x hx => okW_prim hx) hq.2 w hw
    · exact okW_num (len_i hf.1)
    · exact okW_flat (fun x hx => okW_file hx) hf.2 w hw
theorem refN {n : Int} (h : OkI n) : Ev (fun k => rafterref36_Number.f k n) (wN n) := refNumber_ev n h.1 h.2
theorem proN {n : Int} (h : OkI n) : Ev (fun k => reply_Number.f k n) (wN n) := number_ev n h.1 h.2
theorem refW {s : ByteArray} (h : s.size ≤ 1000) : Ev (fun k => rafterref35_Word.f k s) (wW s) := refWord_ev s (by omega)
theorem proW {s : ByteArray} (h : s.size ≤ 1000) : Ev (fun k => cmd_Word.f k s) (wW s) := word_ev s (by omega)
theorem refList_loop (l : List ByteArray) (hl : l.length ≤ 1001) : ∀ (t : List ByteArray) (i : Nat) (o : List ByteArray), l.drop i = t → o.length + t.length ≤ 10000 → (∀ s ∈ t, s.size ≤ 1000) →
    Ev (fun k => rafterref36_List.l0 k l o (i : Int)) (o ++ t.map wW)
  | [], i, o, ht, ho, hs => by
    have hge := List.drop_eq_nil_iff.1 ht
    refine Ev.step (f := fun k => some _) (fun k => ?_) (Ev.now _)
    simp only [rafterref36_List.l0]
    rw [if_neg (by omega), List.map_nil, List.append_nil]
  | x :: t, i, o, ht, ho, hs => by
    have hlt := drop_cons_lt ht
    have hw : wrap64 ((i : Int) + 1) = ((i + 1 : Nat) : Int) := by rw [wrap64_in (by omega) (by omega)]; omega
    have ih := refList_loop l hl t (i + 1) (o ++ [wW x]) (drop_cons_succ ht) (by simp only [List.length_append, List.length_cons, List.length_nil] at ho ⊢; omega) (fun s h => hs s (by simp [h]))
    rw [List.append_assoc, List.singleton_append] at ih
    rw [List.map_cons]
    refine Ev.step (f := fun k => (rafterref35_Word.f k x).bind fun w => if o.length < 8796093022208 then rafterref36_List.l0 k l (o ++ [w]) ((i + 1 : Nat) : Int) else none) (fun k => ?_) (Ev.bind (refW (hs x (by simp))) (Ev.pos (by omega) ih))
    simp only [rafterref36_List.l0]
    rw [if_pos (by omega), if_pos (by omega), rdOf_cons ht, hw]
theorem refList_ev {l : List ByteArray} (h : OkL l) : Ev (fun k => rafterref36_List.f k l) (listW l) := by
  unfold rafterref36_List.f
  exact Ev.bind (refN (len_i h.1)) (refList_loop l h.1 l 0 [wN l.length] rfl (by have := h.1; simp only [List.length_cons, List.length_nil]; omega) h.2)
theorem wAdd_ev {o l : List ByteArray} (h : o.length + l.length < 8796093022208) : Ev (fun _ => wAdd o l) (o ++ l) := by
  unfold wAdd
  exact Ev.pos h (Ev.now _)
theorem wPairs_ev : ∀ (ps : List TPair) (o : List ByteArray), (∀ x ∈ ps, OkP x) → o.length + ps.length * 2 ≤ 100000000 → Ev (fun k => wPairs k ps o) (o ++ ps.flatMap pairW)
  | [], o, _, _ => by
    simp only [wPairs, List.flatMap_nil, List.append_nil]
    exact Ev.now _
  | p :: ps, o, hp, ho => by
    have h := hp p (by simp)
    simp only [List.length_cons, Nat.succ_mul] at ho
    have ih := wPairs_ev ps (o ++ pairW p) (fun x hx => hp x (by simp [hx])) (by simp only [pairW, List.length_append, List.length_cons, List.length_nil]; omega)
    rw [List.flatMap_cons, ← List.append_assoc]
    simp only [wPairs]
    exact Ev.bind (refW h.1) (Ev.bind (refW h.2) (Ev.bind (wAdd_ev (by simp only [List.length_cons, List.length_nil]; omega)) ih))
theorem wPrims_ev : ∀ (ps : List TPrim) (o : List ByteArray), (∀ x ∈ ps, OkQ x) → o.length + ps.length * 2010 ≤ 100000000 → Ev (fun k => wPrims k ps o) (o ++ ps.flatMap primW)
  | [], o, _, _ => by
    simp only [wPrims, List.flatMap_nil, List.append_nil]
    exact Ev.now _
  | p :: ps, o, hp, ho => by
    have hq := hp p (by simp)
    have hlen := primW_length hq
    obtain ⟨h0, h1, h2, h3, h4, h5⟩ := hq
    simp only [List.length_cons, Nat.succ_mul] at ho
    have ih := wPrims_ev ps (o ++ primW p) (fun x hx => hp x (by simp [hx])) (by rw [List.length_append]; omega)
    have l4 := h4.1
    have l5 := h5.1
    rw [List.flatMap_cons, ← List.append_assoc]
    simp only [wPrims]
    refine Ev.bind (refN h0) (Ev.bind (refW h1) (Ev.bind (refW h2) (Ev.bind (refN h3) (Ev.bind (wAdd_ev (by simp only [List.length_cons, List.length_nil]; omega)) (Ev.bind (refList_ev h4) (Ev.bind (wAdd_ev (by simp only [List.length_append, List.length_cons, List.length_nil, listW_length]; omega)) (Ev.bind (refList_ev h5) (Ev.bind (wAdd_ev (by simp only [List.length_append, List.length_cons, List.length_nil, listW_length]; omega)) ?_))))))))
    have e : o ++ primW p = o ++ [wN p.f0, wW p.f1, wW p.f2, wN p.f3] ++ listW p.f4 ++ listW p.f5 := by simp only [primW, List.append_assoc]
    rw [← e]
    exact ih
theorem wFiles_ev : ∀ (ps : List TFile) (o : List ByteArray), (∀ x ∈ ps, OkF x) → o.length + ps.length * 2010 ≤ 100000000 → Ev (fun k => wFiles k ps o) (o ++ ps.flatMap fileW)
  | [], o, _, _ => by
    simp only [wFiles, List.flatMap_nil, List.append_nil]
    exact Ev.now _
  | p :: ps, o, hp, ho => by
    have hq := hp p (by simp)
    have hlen := fileW_length hq
    obtain ⟨h0, h1⟩ := hq
    simp only [List.length_cons, Nat.succ_mul] at ho
    have ih := wFiles_ev ps (o ++ fileW p) (fun x hx => hp x (by simp [hx])) (by rw [List.length_append]; omega)
    have l1 := h1.1
    rw [List.flatMap_cons, ← List.append_assoc]
    simp only [wFiles]
    refine Ev.bind (refW h0) (Ev.bind (wAdd_ev (by simp only [List.length_cons, List.length_nil]; omega)) (Ev.bind (refList_ev h1) (Ev.bind (wAdd_ev (by simp only [List.length_append, List.length_cons, List.length_nil, listW_length]; omega)) ?_)))
    have e : o ++ fileW p = o ++ [wW p.f0, if p.f1 = true then (⟨#[100]⟩ : ByteArray) else (⟨#[102]⟩ : ByteArray)] ++ listW p.f2 := by simp only [fileW, kdW, List.append_assoc]
    rw [← e]
    exact ih
theorem refWords_ev {e ns ps qs fs} (h : OkR e ns ps qs fs) : Ev (fun k => rafterref36_Words.f k e ns ps qs fs) (replyW e ns ps qs fs) := by
  obtain ⟨he, hn, hp, hq, hf⟩ := h
  have h1 := flat_len pairW 2 ps (fun x _ => by simp [pairW])
  have h2 := flat_len primW 2010 qs (fun x hx => primW_length (hq.2 x hx))
  have h4 : ps.length * 2 ≤ 1001 * 2 := Nat.mul_le_mul_right _ hp.1
  have h5 : qs.length * 2010 ≤ 1001 * 2010 := Nat.mul_le_mul_right _ hq.1
  have h6 : fs.length * 2010 ≤ 1001 * 2010 := Nat.mul_le_mul_right _ hf.1
  have h7 := hn.1
  unfold rafterref36_Words.f
  have L : ∀ {o l : List ByteArray}, o.length + l.length ≤ 100000000 → Ev (fun _ => wAdd o l) (o ++ l) := fun q => wAdd_ev (by omega)
  have e1 : replyW e ns ps qs fs = ((((((([wN e] ++ listW ns) ++ [wN ps.length]) ++ ps.flatMap pairW) ++ [wN qs.length]) ++ qs.flatMap primW) ++ [wN fs.length]) ++ fs.flatMap fileW) := by
    simp only [replyW, List.append_assoc, List.cons_append, List.nil_append]
  rw [e1]
  refine Ev.bind (refN he) (Ev.bind (refList_ev hn) (Ev.bind (L ?_) (Ev.bind (refN (len_i hp.1)) (Ev.bind (L ?_) (Ev.bind (wPairs_ev ps _ hp.2 ?_) (Ev.bind (refN (len_i hq.1)) (Ev.bind (L ?_) (Ev.bind (wPrims_ev qs _ hq.2 ?_) (Ev.bind (refN (len_i hf.1)) (Ev.bind (L ?_) (wFiles_ev fs _ hf.2 ?_)))))))))))
  all_goals
    simp only [List.length_append, List.length_cons, List.length_nil, listW_length]
    omega
def blankL (t : List ByteArray) : List UInt8 := t.flatMap fun w => 32 :: w.toList
theorem join_blank : ∀ (x : ByteArray) (t : List ByteArray), joinL 32 ((x :: t).map ByteArray.toList) = x.toList ++ blankL t
  | x, [] => by simp [joinL, blankL]
  | x, y :: t => by
    rw [List.map_cons, joinL_cons _ _ (by simp), join_blank y t]
    simp [blankL]
theorem blank_len : ∀ t : List ByteArray, (∀ w ∈ t, OkW w) → (blankL t).length ≤ t.length * 3002
  | [], _ => by simp [blankL]
  | x :: t, h => by
    have h1 := (h x (by simp)).1
    have h2 := blank_len t (fun w hw => h w (by simp [hw]))
    rw [show blankL (x :: t) = (32 :: x.toList) ++ blankL t from by simp [blankL], List.length_append, List.length_cons, List.length_cons, Nat.succ_mul, toList_length]
    omega
theorem refText_loop (W : List ByteArray) (hW : W.length ≤ 5000000) : ∀ (t : List ByteArray) (i : Nat) (s : List UInt8), W.drop i = t → (∀ w ∈ t, OkW w) → s.length + t.length * 3002 ≤ 100000000000 →
    Ev (fun k => rafterref36_Text.l0 k W (B s) (i : Int)) (B (s ++ blankL t))
  | [], i, s, ht, hw, hs => by
    have hge := List.drop_eq_nil_iff.1 ht
    refine Ev.step (f := fun k => some _) (fun k => ?_) (Ev.now _)
    simp only [rafterref36_Text.l0]
    rw [if_neg (by omega), show blankL [] = [] from rfl, List.append_nil]
  | x :: t, i, s, ht, hw, hs => by
    have hlt := drop_cons_lt ht
    have hx := (hw x (by simp)).1
    have hwr : wrap64 ((i : Int) + 1) = ((i + 1 : Nat) : Int) := by rw [wrap64_in (by omega) (by omega)]; omega
    simp only [List.length_cons, Nat.succ_mul] at hs
    have ih := refText_loop W hW t (i + 1) (s ++ 32 :: x.toList) (drop_cons_succ ht) (fun w h => hw w (by simp [h])) (by simp only [List.length_append, List.length_cons, toList_length]; omega)
    rw [show blankL (x :: t) = (32 :: x.toList) ++ blankL t from by simp [blankL], ← List.append_assoc]
    refine Ev.step (fun k => ?_) ih
    have eB : B s ++ (⟨#[32]⟩ : ByteArray) ++ x = B (s ++ 32 :: x.toList) := ext_toList (by
      rw [toList_append, toList_append, toList_B, toList_B, show (⟨#[32]⟩ : ByteArray).toList = [32] from toList_B [32], List.append_assoc]
      rfl)
    simp only [rafterref36_Text.l0]
    rw [if_pos (by omega), if_pos (by rw [size_B]; omega), if_pos (by omega), rdOf_cons ht, if_pos (by rw [show B s ++ (⟨#[32]⟩ : ByteArray) = B (s ++ [32]) from B_append s [32], size_B, List.length_append, List.length_cons, List.length_nil]; omega), eB, hwr]
def lineW (W : List ByteArray) : ByteArray := B (joinL 32 (W.map ByteArray.toList))
theorem refText_ev {e ns ps qs fs} (h : OkR e ns ps qs fs) : Ev (fun k => rafterref36_Text.f k e ns ps qs fs) (lineW (replyW e ns ps qs fs)) := by
  obtain ⟨h1, h2⟩ := replyW_ok h
  unfold rafterref36_Text.f
  refine Ev.bind (refWords_ev h) ?_
  obtain ⟨x, t, hx⟩ : ∃ x t, replyW e ns ps qs fs = x :: t := ⟨_, _, rfl⟩
  rw [hx] at h1 h2 ⊢
  rw [List.length_cons] at h1
  refine Ev.pos (by rw [List.length_cons]; omega) ?_
  have h3 := refText_loop (x :: t) (by rw [List.length_cons]; omega) t 1 x.toList rfl (fun w hw => h2 w (by simp [hw])) (by
    have := (h2 x (by simp)).1
    rw [toList_length]
    have : t.length * 3002 ≤ 5000000 * 3002 := Nat.mul_le_mul_right _ (by omega)
    omega)
  rw [B_toList, ← join_blank] at h3
  exact h3
theorem list_loop (l : List ByteArray) (hl : l.length ≤ 1001) : ∀ (t : List ByteArray) (i : Nat) (o : List ByteArray), l.drop i = t → o.length + t.length ≤ 10000 → (∀ s ∈ t, s.size ≤ 1000) →
    Ev (fun k => reply_list.l0 k o l (l.length : Int) (i : Int)) (o ++ t.map wW)
  | [], i, o, ht, ho, hs => by
    have hge := List.drop_eq_nil_iff.1 ht
    refine Ev.step (f := fun k => some _) (fun k => ?_) (Ev.now _)
    simp only [reply_list.l0]
    rw [if_neg (by omega), List.map_nil, List.append_nil]
  | x :: t, i, o, ht, ho, hs => by
    have hlt := drop_cons_lt ht
    have hw : wrap64 ((i : Int) + 1) = ((i + 1 : Nat) : Int) := by rw [wrap64_in (by omega) (by omega)]; omega
    have ih := list_loop l hl t (i + 1) (o ++ [wW x]) (drop_cons_succ ht) (by simp only [List.length_append, List.length_cons, List.length_nil] at ho ⊢; omega) (fun s h => hs s (by simp [h]))
    rw [List.append_assoc, List.singleton_append] at ih
    rw [List.map_cons]
    refine Ev.step (f := fun k => (cmd_Word.f k x).bind fun w => if o.length < 8796093022208 then reply_list.l0 k (o ++ [w]) l (l.length : Int) ((i + 1 : Nat) : Int) else none) (fun k => ?_) (Ev.bind (proW (hs x (by simp))) (Ev.pos (by omega) ih))
    simp only [reply_list.l0]
    rw [if_pos (by omega), if_pos (by omega), if_pos (by omega), rdOf_cons ht, hw]
theorem list_ev {l : List ByteArray} (h : OkL l) : Ev (fun k => reply_list.f k l) (listW l) := by
  unfold reply_list.f
  exact Ev.bind (proN (len_i h.1)) (list_loop l h.1 l 0 [wN l.length] rfl (by have := h.1; simp only [List.length_cons, List.length_nil]; omega) h.2)
theorem prim_ev {p : TPrim} (h : OkQ p) : Ev (fun k => reply_prim.f k p.f0 p.f1 p.f2 p.f3 p.f4 p.f5) (primW p) := by
  have hlen := primW_length h
  obtain ⟨h0, h1, h2, h3, h4, h5⟩ := h
  unfold reply_prim.f
  refine Ev.bind (proN h0) (Ev.bind (proW h1) (Ev.bind (proW h2) (Ev.bind (proN h3) (Ev.bind (list_ev h4) (Ev.bind (list_ev h5) ?_)))))
  have e : ([([wN p.f0, wW p.f1, wW p.f2, wN p.f3] : List ByteArray), listW p.f4, listW p.f5] : List (List ByteArray)).flatten = primW p := by
    simp only [List.flatten_cons, List.flatten_nil, List.append_nil, primW, List.append_assoc]
  refine Ev.bind (a := primW p) ?_ (Ev.now _)
  unfold slices_Concat_string_string.f
  rw [e]
  exact Ev.pos (by omega) (Ev.now _)
theorem file_ev {f : TFile} (h : OkF f) : Ev (fun k => reply_file.f k f.f0 f.f1 f.f2) (fileW f) := by
  have hlen := fileW_length h
  obtain ⟨h0, h1⟩ := h
  have hl := h1.1
  unfold reply_file.f fileW
  cases f.f1 with
  | true => exact Ev.pos rfl (Ev.bind (proW h0) (Ev.bind_now (Ev.bind (list_ev h1) (Ev.pos (by simp only [List.length_cons, List.length_nil, listW_length]; omega) (Ev.now _)))))
  | false => exact Ev.neg (by decide) (Ev.bind (proW h0) (Ev.bind_now (Ev.bind (list_ev h1) (Ev.pos (by simp only [List.length_cons, List.length_nil, listW_length]; omega) (Ev.now _)))))
theorem rd_cons100 {l : List TPair} {i : Nat} {x : TPair} {t : List TPair} (h : l.drop i = x :: t) : rd_T100 l (i : Int) = x := by
  have : l[i]? = some x := by
    have := congrArg (fun l => l[0]?) h
    simpa using this
  rw [rd_T100, Int.toNat_natCast, List.getD_eq_getElem?_getD, this]
  rfl
theorem rd_cons108 {l : List TPrim} {i : Nat} {x : TPrim} {t : List TPrim} (h : l.drop i = x :: t) : rd_T108 l (i : Int) = x := by
  have : l[i]? = some x := by
    have := congrArg (fun l => l[0]?) h
    simpa using this
  rw [rd_T108, Int.toNat_natCast, List.getD_eq_getElem?_getD, this]
  rfl
theorem rd_cons102 {l : List TFile} {i : Nat} {x : TFile} {t : List TFile} (h : l.drop i = x :: t) : rd_T102 l (i : Int) = x := by
  have : l[i]? = some x := by
    have := congrArg (fun l => l[0]?) h
    simpa using this
  rw [rd_T102, Int.toNat_natCast, List.getD_eq_getElem?_getD, this]
  rfl
theorem joinL_flat32 (x : List UInt8) : ∀ r : List (List UInt8), joinL 32 (x :: r) = x ++ (r.map (32 :: ·)).flatten
  | [] => by simp [joinL]
  | y :: r => by
    rw [joinL_cons _ _ (by simp), joinL_flat32 y r]
    rfl
theorem joinT_32 (l : List ByteArray) : joinT l (⟨#[32]⟩ : ByteArray) = joinL 32 (l.map ByteArray.toList) := by
  rw [joinT, show (⟨#[32]⟩ : ByteArray).toList = [32] from toList_B [32]]
  cases l.map ByteArray.toList with
  | nil => rfl
  | cons x r => rw [Go.Lib.join_cons, joinL_flat32]; rfl
section
variable (e : Int) (ns : List ByteArray) (ps : List TPair) (qs : List TPrim) (fs : List TFile)
theorem text_l2 (fs : List TFile) (hf : fs.length ≤ 1001) : ∀ (t : List TFile) (i : Nat) (o r : List ByteArray), fs.drop i = t → (∀ x ∈ t, OkF x) → r = o ++ t.flatMap fileW → r ≠ [] → r.length ≤ 5000000 → (∀ w ∈ r, OkW w) →
    Ev (fun k => reply_Text.l2 k o fs (fs.length : Int) (i : Int)) (lineW r)
  | [], i, o, r, ht, hx, hr, h0, hl, hw => by
    have hge := List.drop_eq_nil_iff.1 ht
    rw [List.flatMap_nil, List.append_nil] at hr
    subst hr
    have hj : (joinT r (⟨#[32]⟩ : ByteArray)).length ≤ 140737488355328 ∧ r.length ≤ 140737488355328 := by
      refine ⟨?_, by omega⟩
      rw [joinT_32]
      obtain ⟨x, t, rfl⟩ := List.exists_cons_of_ne_nil h0
      rw [join_blank, List.length_append, toList_length]
      have h1 := (hw x (by simp)).1
      have h2 := blank_len t (fun w h => hw w (by simp [h]))
      rw [List.length_cons] at hl
      have h3 : t.length * 3002 ≤ 5000000 * 3002 := Nat.mul_le_mul_right _ (by omega)
      omega
    refine Ev.step (f := fun k => some _) (fun k => ?_) (Ev.now _)
    simp only [reply_Text.l2]
    rw [if_neg (by omega)]
    unfold strings_Join.f
    rw [if_pos hj, Option.bind_some, joinT_32]
    rfl
  | x :: t, i, o, r, ht, hx, hr, h0, hl, hw => by
    have hlt := drop_cons_lt ht
    have hwr : wrap64 ((i : Int) + 1) = ((i + 1 : Nat) : Int) := by rw [wrap64_in (by omega) (by omega)]; omega
    rw [List.flatMap_cons, ← List.append_assoc] at hr
    have ih := text_l2 fs hf t (i + 1) (o ++ fileW x) r (drop_cons_succ ht) (fun y h => hx y (by simp [h])) hr h0 hl hw
    have hb : o.length + (fileW x).length < 8796093022208 := by
      have := congrArg List.length hr
      simp only [List.length_append] at this
      omega
    refine Ev.step (f := fun k => (reply_file.f k x.f0 x.f1 x.f2).bind fun w => if o.length + w.length < 8796093022208 then reply_Text.l2 k (o ++ w) fs (fs.length : Int) ((i + 1 : Nat) : Int) else none) (fun k => ?_) (Ev.bind (file_ev (hx x (by simp))) (Ev.pos hb ih))
    simp only [reply_Text.l2]
    rw [if_pos (by omega), if_pos (by omega), if_pos (by omega), rd_cons102 ht, hwr]
theorem text_l1 (qs : List TPrim) (hq : qs.length ≤ 1001) (hf : fs.length ≤ 1001) (hfx : ∀ x ∈ fs, OkF x) : ∀ (t : List TPrim) (i : Nat) (o r : List ByteArray), qs.drop i = t → (∀ x ∈ t, OkQ x) → r = o ++ (t.flatMap primW ++ (wN fs.length :: fs.flatMap fileW)) → r.length ≤ 5000000 → (∀ w ∈ r, OkW w) →
    Ev (fun k => reply_Text.l1 k o qs (qs.length : Int) (i : Int) e ns ps qs fs) (lineW r)
  | [], i, o, r, ht, hx, hr, hl, hw => by
    have hge := List.drop_eq_nil_iff.1 ht
    rw [List.flatMap_nil, List.nil_append] at hr
    have hr2 : r = (o ++ [wN fs.length]) ++ fs.flatMap fileW := by rw [hr, List.append_assoc, List.singleton_append]
    have hb := congrArg List.length hr
    simp only [List.length_append] at hb
    refine Ev.step (f := fun k => (reply_Number.f k (fs.length : Int)).bind fun w => if o.length < 8796093022208 then reply_Text.l2 k (o ++ [w]) fs (fs.length : Int) ((0 : Nat) : Int) else none) (fun k => ?_)
      (Ev.bind (proN (len_i hf)) (Ev.pos (by omega) (text_l2 fs hf fs 0 _ r rfl hfx hr2 (by rw [hr2]; simp) hl hw)))
    simp only [reply_Text.l1]
    rw [if_neg (by omega)]
    rfl
  | x :: t, i, o, r, ht, hx, hr, hl, hw => by
    have hlt := drop_cons_lt ht
    have hwr : wrap64 ((i : Int) + 1) = ((i + 1 : Nat) : Int) := by rw [wrap64_in (by omega) (by omega)]; omega
    rw [List.flatMap_cons, List.append_assoc, ← List.append_assoc] at hr
    have ih := text_l1 qs hq hf hfx t (i + 1) (o ++ primW x) r (drop_cons_succ ht) (fun y h => hx y (by simp [h])) hr hl hw
    have hb : o.length + (primW x).length < 8796093022208 := by
      have := congrArg List.length hr
      simp only [List.length_append] at this
      omega
    refine Ev.step (f := fun k => (reply_prim.f k x.f0 x.f1 x.f2 x.f3 x.f4 x.f5).bind fun w => if o.length + w.length < 8796093022208 then reply_Text.l1 k (o ++ w) qs (qs.length : Int) ((i + 1 : Nat) : Int) e ns ps qs fs else none) (fun k => ?_) (Ev.bind (prim_ev (hx x (by simp))) (Ev.pos hb ih))
    simp only [reply_Text.l1]
    rw [if_pos (by omega), if_pos (by omega), if_pos (by omega), rd_cons108 ht, hwr]
theorem text_l0 (hq : qs.length ≤ 1001) (hqx : ∀ x ∈ qs, OkQ x) (hf : fs.length ≤ 1001) (hfx : ∀ x ∈ fs, OkF x) (hp : ps.length ≤ 1001) : ∀ (t : List TPair) (i : Nat) (o r : List ByteArray), ps.drop i = t → (∀ x ∈ t, OkP x) → r = o ++ (t.flatMap pairW ++ (wN qs.length :: (qs.flatMap primW ++ (wN fs.length :: fs.flatMap fileW)))) → r.length ≤ 5000000 → (∀ w ∈ r, OkW w) →
    Ev (fun k => reply_Text.l0 k o ps (ps.length : Int) (i : Int) e ns ps qs fs) (lineW r)
  | [], i, o, r, ht, hx, hr, hl, hw => by
    have hge := List.drop_eq_nil_iff.1 ht
    rw [List.flatMap_nil, List.nil_append] at hr
    have hr2 : r = (o ++ [wN qs.length]) ++ (qs.flatMap primW ++ (wN fs.length :: fs.flatMap fileW)) := by rw [hr, List.append_assoc, List.singleton_append]
    have hb := congrArg List.length hr
    simp only [List.length_append] at hb
    refine Ev.step (f := fun k => (reply_Number.f k (qs.length : Int)).bind fun w => if o.length < 8796093022208 then reply_Text.l1 k (o ++ [w]) qs (qs.length : Int) ((0 : Nat) : Int) e ns ps qs fs else none) (fun k => ?_)
      (Ev.bind (proN (len_i hq)) (Ev.pos (by omega) (text_l1 e ns ps fs qs hq hf hfx qs 0 _ r rfl hqx hr2 hl hw)))
    simp only [reply_Text.l0]
    rw [if_neg (by omega)]
    rfl
  | x :: t, i, o, r, ht, hx, hr, hl, hw => by
    have hlt := drop_cons_lt ht
    have h := hx x (by simp)
    have hwr : wrap64 ((i : Int) + 1) = ((i + 1 : Nat) : Int) := by rw [wrap64_in (by omega) (by omega)]; omega
    rw [List.flatMap_cons, List.append_assoc, ← List.append_assoc] at hr
    have ih := text_l0 hq hqx hf hfx hp t (i + 1) (o ++ pairW x) r (drop_cons_succ ht) (fun y h => hx y (by simp [h])) hr hl hw
    have hb : o.length + (pairW x).length < 8796093022208 := by
      have := congrArg List.length hr
      simp only [List.length_append] at this
      omega
    refine Ev.step (f := fun k => (cmd_Word.f k x.f0).bind fun a => (cmd_Word.f k x.f1).bind fun b => (some ([a, b] : List ByteArray)).bind fun y => if o.length + y.length < 8796093022208 then reply_Text.l0 k (o ++ y) ps (ps.length : Int) ((i + 1 : Nat) : Int) e ns ps qs fs else none) (fun k => ?_) (Ev.bind (proW h.1) (Ev.bind (proW h.2) (Ev.bind_now (Ev.pos hb ih))))
    simp only [reply_Text.l0]
    rw [if_pos (by omega), if_pos (by omega), if_pos (by omega), rd_cons100 ht, hwr]
end
theorem text_ev {e ns ps qs fs} (h : OkR e ns ps qs fs) : Ev (fun k => reply_Text.f k e ns ps qs fs) (lineW (replyW e ns ps qs fs)) := by
  obtain ⟨h1, h2⟩ := replyW_ok h
  obtain ⟨he, hn, hp, hq, hf⟩ := h
  have hl := hn.1
  unfold reply_Text.f
  refine Ev.bind (proN he) (Ev.bind_now (Ev.bind (list_ev hn) (Ev.pos (by simp only [List.length_cons, List.length_nil, listW_length]; omega) (Ev.bind_now (Ev.bind (proN (len_i hp.1)) (Ev.pos (by simp only [List.length_append, List.length_cons, List.length_nil, listW_length]; omega) ?_))))))
  exact text_l0 e ns ps qs fs hq.1 hq.2 hf.1 hf.2 hp.1 ps 0 _ _ rfl hp.2 (by simp only [replyW, List.append_assoc, List.cons_append, List.nil_append]) h1 h2
end Go.Proofs.YtloibeefopdhpaaDoor.Plain
