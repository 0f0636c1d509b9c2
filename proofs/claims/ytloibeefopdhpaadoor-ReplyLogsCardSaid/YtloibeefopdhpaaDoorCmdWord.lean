-- Words of the kit's print (as it laid them for this seat); what this claim does not use is left out.
import Derived.Test.YtloibeefopdhpaaDoorG12
import Derived.Test.YtloibeefopdhpaaDoorG21
set_option linter.unusedVariables false
namespace Go.Proofs.YtloibeefopdhpaaDoor.Plain
open Go.RowKit Go.Proofs.YtloibeefopdhpaaDoor.G Go.Proofs.YtloibeefopdhpaaDoorW.PrintWords Go.Proofs.YtloibeefopdhpaaDoorW.PrintLast Go.Proofs.YtloibeefopdhpaaDoorW.PrintMore
theorem of_range {α : Type} {f g : Nat → α} (h : (List.range 256).map f = (List.range 256).map g) (c : UInt8) : f c.toNat = g c.toNat := by
  have hc : c.toNat < 256 := c.toNat_lt
  have := congrArg (fun l => l[c.toNat]?) h
  simpa [List.getElem?_map, List.getElem?_range hc] using this
theorem ofNat_toNat (c : UInt8) : UInt8.ofNat c.toNat = c := by simp
theorem sign_f (c : UInt8) : cmd_sign.f (c.toNat : Int) = some (B (signL c)) := by
  have h : (List.range 256).map (fun n : Nat => cmd_sign.f (n : Int)) = (List.range 256).map (fun n => some (B (signL (UInt8.ofNat n)))) := by kernel_rfl
  have := of_range h c
  rwa [ofNat_toNat] at this
theorem refSign_f (c : UInt8) : rafterref35_Sign.f (c.toNat : Int) = some (B (signL c)) := by
  have hc : c.toNat < 256 := c.toNat_lt
  rw [rafterref35_Sign.f, if_pos (by omega), Int.toNat_natCast, ofNat_toNat]
def plainL : List UInt8 := [97, 98, 99, 100, 101, 102, 103, 104, 105, 106, 107, 108, 109, 110, 111, 112, 113, 114, 115, 116, 117, 118, 119, 120, 121, 122, 48, 49, 50, 51, 52, 53, 54, 55, 56, 57, 46, 95, 45, 47]
theorem bare_index (c : UInt8) : decide (Lib.indexByte plainL c ≥ 0) = bareB c := by
  have h : (List.range 256).map (fun n => decide (Lib.indexByte plainL (UInt8.ofNat n) ≥ 0)) = (List.range 256).map (fun n => bareB (UInt8.ofNat n)) := by kernel_rfl
  have := of_range h c
  rwa [ofNat_toNat] at this
theorem toUInt8_cast (c : UInt8) : (c.toNat : Int).toNat.toUInt8 = c := by simp
theorem word_loop (s : ByteArray) (hs : s.size ≤ 1000000) : ∀ (t : List UInt8) (i : Nat) (b : Bool) (out : List UInt8), s.toList.drop i = t → out.length ≤ 3 * i + 1 →
    Ev (fun k => cmd_Word.l0 k s b (B out) (s.size : Int) (i : Int)) (if (b && t.all bareB) = true then s else B (out ++ t.flatMap signL))
  | [], i, b, out, ht, ho => by
    have hge := drop_nil ht
    refine Ev.step (f := fun k => some _) (fun k => ?_) (Ev.now _)
    simp only [cmd_Word.l0]
    rw [if_neg (by omega)]
    cases b <;> simp
  | c :: t, i, b, out, ht, ho => by
    have hlt := drop_lt ht
    have hw : wrap64 ((i : Int) + 1) = ((i + 1 : Nat) : Int) := by rw [wrap64_in (by omega) (by omega)]; omega
    have hsl := sign_length c
    have ih := word_loop s hs t (i + 1) (b && bareB c) (out ++ signL c) (drop_succ ht) (by rw [List.length_append]; omega)
    rw [Bool.and_assoc, ← List.all_cons, List.append_assoc, ← List.flatMap_cons] at ih
    refine Ev.step (fun k => ?_) ih
    simp only [cmd_Word.l0]
    have hz : (B out).size + (B (signL c)).size ≤ 9223372036854775807 := by rw [size_B, size_B]; omega
    cases b with
    | true =>
      rw [if_pos (by omega), if_pos rfl, if_pos (by omega), if_pos (by omega), bt_cons ht, sign_f, strings_IndexByte.f, Option.bind_some, Option.bind_some, if_pos hz, B_append, hw, toUInt8_cast, show (⟨#[97, 98, 99, 100, 101, 102, 103, 104, 105, 106, 107, 108, 109, 110, 111, 112, 113, 114, 115, 116, 117, 118, 119, 120, 121, 122, 48, 49, 50, 51, 52, 53, 54, 55, 56, 57, 46, 95, 45, 47]⟩ : ByteArray).toList = plainL from toList_B plainL, bare_index, Bool.true_and]
    | false =>
      rw [if_pos (by omega), if_neg (by decide), if_pos (by omega), if_pos (by omega), bt_cons ht, sign_f, Option.bind_some, if_pos hz, B_append, hw, Bool.false_and]
theorem word_ev (s : ByteArray) (hs : s.size ≤ 1000000) : Ev (fun k => cmd_Word.f k s) (B (wordL s.toList)) := by
  have h := word_loop s hs s.toList 0 (s.toList != []) [61] rfl (by simp)
  have e : (if ((s.toList != []) && s.toList.all bareB) = true then s else B ([61] ++ s.toList.flatMap signL)) = B (wordL s.toList) := by
    unfold wordL bareL
    have hd : (s.toList != ([] : List UInt8)) = decide (s.toList ≠ []) := by cases s.toList <;> rfl
    rw [hd]
    by_cases h2 : (decide (s.toList ≠ []) && s.toList.all bareB) = true
    · rw [if_pos h2, if_pos h2, B_toList]
    · rw [if_neg h2, if_neg h2]; rfl
  rw [e] at h
  exact h
theorem digit_f (c : UInt8) : cmd_digit.f (c.toNat : Int) = some ((digN c : Nat) : Int) := by
  unfold cmd_digit.f
  rw [strings_IndexByte.f, Option.bind_some, toUInt8_cast, show (⟨#[48, 49, 50, 51, 52, 53, 54, 55, 56, 57, 97, 98, 99, 100, 101, 102]⟩ : ByteArray).toList = hexL from toList_B hexL]
  congr 1
  unfold digN mx
  split <;> omega
def nums8 (l : List UInt8) : List Int := l.map fun b => (b.toNat : Int)
theorem nums8_append (a b : List UInt8) : nums8 (a ++ b) = nums8 a ++ nums8 b := List.map_append
theorem j1_false (s : ByteArray) (hs : s.size ≤ 1000000) (acc : List UInt8) (i : Nat) (c : UInt8) (hi : i < s.size) (ha : acc.length ≤ i) (r : ByteArray) (h : Ev (fun k => cmd_read.l0 k s (nums8 (acc ++ [c])) ((i + 1 : Nat) : Int)) r) :
    Ev (fun k => cmd_read.j1 k s (nums8 acc) (i : Int) (c.toNat : Int) false) r := by
  have hw : wrap64 ((i : Int) + 1) = ((i + 1 : Nat) : Int) := by rw [wrap64_in (by omega) (by omega)]; omega
  refine Ev.step (fun k => ?_) h
  rw [cmd_read.j1, if_neg (by decide), if_pos (by rw [nums8, List.length_map]; omega), hw, nums8_append]
  rfl
theorem wr1 {i : Nat} (h : i ≤ 1000000) : wrap64 ((i : Int) + 1) = ((i + 1 : Nat) : Int) := by rw [wrap64_in (by omega) (by omega)]; omega
theorem wr2 {i : Nat} (h : i ≤ 1000000) : wrap64 ((i : Int) + 2) = ((i + 2 : Nat) : Int) := by rw [wrap64_in (by omega) (by omega)]; omega
theorem wr3 {i : Nat} (h : i ≤ 1000000) : wrap64 (((i + 2 : Nat) : Int) + 1) = ((i + 3 : Nat) : Int) := by rw [wrap64_in (by omega) (by omega)]; omega
theorem two_digits (a b : UInt8) : (wrap64 (wrap64 (16 * ((digN a : Nat) : Int)) + ((digN b : Nat) : Int))) % 256 = ((UInt8.ofNat (16 * digN a + digN b)).toNat : Int) := by
  have da := digN_lt a
  have db := digN_lt b
  generalize digN a = x at *
  generalize digN b = y at *
  have : (UInt8.ofNat (16 * x + y)).toNat = 16 * x + y := by simp; omega
  rw [wrap64_in (n := 16 * (x : Int)) (by omega) (by omega), wrap64_in (by omega) (by omega), this]
  omega
theorem read_plain (s : ByteArray) (hs : s.size ≤ 1000000) (acc : List UInt8) (i : Nat) (c : UInt8) (t : List UInt8) (ht : s.toList.drop i = c :: t) (ha : acc.length ≤ i) (hp : ¬ c = 37 ∨ t.length < 2) (r : ByteArray) (h : Ev (fun k => cmd_read.l0 k s (nums8 (acc ++ [c])) ((i + 1 : Nat) : Int)) r) :
    Ev (fun k => cmd_read.l0 k s (nums8 acc) (i : Int)) r := by
  have hlt := drop_lt ht
  have hlen : s.size = i + 1 + t.length := by
    have := congrArg List.length ht
    rw [List.length_drop, toList_length, List.length_cons] at this
    omega
  have hb := bt_cons ht
  have h1 := j1_false s hs acc i c hlt ha r h
  clear ht h
  refine Ev.step (fun k => ?_) h1
  simp only [cmd_read.l0]
  rw [if_pos (by omega), if_pos (by omega), hb]
  by_cases hc : c = 37
  · have h2 : t.length < 2 := hp.resolve_left (fun h => h hc)
    rw [if_pos (by rw [hc]; rfl), wr2 (by omega), decide_eq_false (by omega)]
  · rw [if_neg (fun h => hc (UInt8.toNat_inj.1 (by show c.toNat = 37; omega)))]
theorem read_esc (s : ByteArray) (hs : s.size ≤ 1000000) (acc : List UInt8) (i : Nat) (a b : UInt8) (t : List UInt8) (ht : s.toList.drop i = 37 :: a :: b :: t) (ha : acc.length ≤ i) (r : ByteArray) (h : Ev (fun k => cmd_read.l0 k s (nums8 (acc ++ [UInt8.ofNat (16 * digN a + digN b)])) ((i + 3 : Nat) : Int)) r) :
    Ev (fun k => cmd_read.l0 k s (nums8 acc) (i : Int)) r := by
  have hlen : s.size = i + 1 + (t.length + 2) := by
    have := congrArg List.length ht
    rw [List.length_drop, toList_length, List.length_cons, List.length_cons, List.length_cons] at this
    omega
  have hb := bt_cons ht
  have ha1 := bt_cons (drop_succ ht)
  have hb1 := bt_cons (drop_succ (drop_succ ht))
  clear ht
  refine Ev.step (f := fun k => cmd_read.j1 k s (nums8 acc) (i : Int) (((37 : UInt8).toNat : Nat) : Int) true) (fun k => ?_) ?_
  · simp only [cmd_read.l0]
    rw [if_pos (by omega), if_pos (by omega), hb, if_pos (show (((37 : UInt8).toNat : Nat) : Int) = 37 from rfl), wr2 (by omega), decide_eq_true (by omega)]
  · refine Ev.step (fun k => ?_) h
    rw [cmd_read.j1, if_pos rfl, wr1 (by omega), wr2 (by omega), wr3 (by omega), if_pos (by omega), if_pos (by omega), ha1, digit_f, Option.bind_some, if_pos (by omega), if_pos (by omega), show ((i + 2 : Nat) : Int) = ((i + 1 + 1 : Nat) : Int) from rfl, hb1, digit_f, Option.bind_some, if_pos (by rw [nums8, List.length_map]; omega), two_digits, nums8_append]
    rfl
theorem read_loop (s : ByteArray) (hs : s.size ≤ 1000000) : ∀ (n : Nat) (t : List UInt8) (i : Nat) (acc : List UInt8), t.length ≤ n → s.toList.drop i = t → acc.length ≤ i →
    Ev (fun k => cmd_read.l0 k s (nums8 acc) (i : Int)) (B (acc ++ decL t)) := by
  intro n
  induction n with
  | zero =>
    intro t i acc hn ht ha
    obtain rfl : t = [] := List.eq_nil_of_length_eq_zero (by omega)
    have hge := drop_nil ht
    refine Ev.step (f := fun k => some _) (fun k => ?_) (Ev.now _)
    simp only [cmd_read.l0]
    rw [if_neg (by omega), decL, List.append_nil]
    exact congrArg some (strOfNums_bytesOf acc)
  | succ n ih =>
    intro t i acc hn ht ha
    cases t with
    | nil =>
      have hge := drop_nil ht
      refine Ev.step (f := fun k => some _) (fun k => ?_) (Ev.now _)
      simp only [cmd_read.l0]
      rw [if_neg (by omega), decL, List.append_nil]
      exact congrArg some (strOfNums_bytesOf acc)
    | cons c t =>
      have hn' : t.length ≤ n := by rw [List.length_cons] at hn; omega
      have one : (¬ c = 37 ∨ t.length < 2) → decL (c :: t) = c :: decL t → Ev (fun k => cmd_read.l0 k s (nums8 acc) (i : Int)) (B (acc ++ decL (c :: t))) := by
        intro hp e
        have h2 := ih t (i + 1) (acc ++ [c]) hn' (drop_succ ht) (by rw [List.length_append, List.length_singleton]; omega)
        rw [List.append_assoc] at h2
        rw [e]
        exact read_plain s hs acc i c t ht ha hp _ h2
      by_cases hc : c = 37
      · subst hc
        cases t with
        | nil => exact one (.inr (by decide)) rfl
        | cons a t =>
          cases t with
          | nil => exact one (.inr (by simp)) rfl
          | cons b t =>
            have h2 := ih t (i + 3) (acc ++ [UInt8.ofNat (16 * digN a + digN b)]) (by rw [List.length_cons, List.length_cons] at hn'; omega) (drop_succ (drop_succ (drop_succ ht))) (by rw [List.length_append, List.length_singleton]; omega)
            rw [List.append_assoc] at h2
            rw [decL, if_pos rfl]
            exact read_esc s hs acc i a b t ht ha _ h2
      · exact one (.inl hc) (decL_other hc t)
theorem cutPrefix_f (s : ByteArray) (hs : s.size ≤ 1000000) : strings_CutPrefix.f s (⟨#[61]⟩ : ByteArray) = some (match s.toList with | 61 :: t => (B t, true) | _ => (s, false)) := by
  have hlen := toList_length s
  have h1 : (⟨#[61]⟩ : ByteArray).size = 1 := rfl
  unfold strings_CutPrefix.f stringslite_CutPrefix.f stringslite_HasPrefix.f
  rw [h1]
  cases hl : s.toList with
  | nil =>
    rw [hl] at hlen
    rw [if_neg (by simp at hlen; omega)]
    rfl
  | cons c t =>
    rw [hl, List.length_cons] at hlen
    rw [if_pos (by omega), if_pos (by omega), if_pos (by omega), extract_take, toList_B, hl, show (⟨#[61]⟩ : ByteArray).toList = [61] from toList_B [61]]
    by_cases hc : c = 61
    · subst hc
      simp only [Option.bind_some]
      rw [if_pos (by rfl), if_pos (by omega), if_pos (by omega)]
      simp only [Option.bind_some]
      rw [extract_drop, hl]
      rfl
    · have e : (match c :: t with | 61 :: t => (B t, true) | _ => (s, false)) = (s, false) := by
        split
        · rename_i h
          injection h with h
          exact absurd h hc
        · rfl
      rw [e]
      simp only [Option.bind_some]
      rw [if_neg (by
        intro h
        have := beq_iff_eq.1 h
        simp at this
        exact hc this)]
      rfl
theorem read_ev (s : ByteArray) (hs : s.size ≤ 1000000) : Ev (fun k => cmd_read.f k s) (B (readL s.toList)) := by
  unfold cmd_read.f
  rw [cutPrefix_f s hs]
  refine Ev.bind_now ?_
  have hlen := toList_length s
  cases hl : s.toList with
  | nil =>
    refine Ev.neg (fun h => by cases h) ?_
    rw [readL, ← hl, B_toList]
    exact Ev.now _
  | cons c t =>
    rw [hl, List.length_cons] at hlen
    by_cases hc : c = 61
    · subst hc
      refine Ev.pos rfl ?_
      rw [readL, if_pos rfl]
      have := read_loop (B t) (by rw [size_B]; omega) t.length t 0 [] (Nat.le_refl _) (by simp) (Nat.le_refl _)
      rw [List.nil_append] at this
      exact this
    · have e : (match c :: t with | 61 :: t => (B t, true) | _ => (s, false)) = (s, false) := by
        split
        · rename_i h
          injection h with h
          exact absurd h hc
        · rfl
      rw [e]
      refine Ev.neg (fun h => by cases h) ?_
      rw [readL, if_neg hc, ← hl, B_toList]
      exact Ev.now _
def unwordL (w : List UInt8) : List UInt8 × Int := if wordL (readL w) = w then (readL w, 0) else ([], 17)
theorem unword_ev (s : ByteArray) (hs : s.size ≤ 300000) : Ev (fun k => cmd_Unword.f k s) (B (unwordL s.toList).1, (unwordL s.toList).2) := by
  unfold cmd_Unword.f unwordL
  have hr := read_length s.toList
  rw [toList_length] at hr
  have hw := word_ev (B (readL s.toList)) (by rw [size_B]; omega)
  rw [toList_B] at hw
  refine Ev.bind (read_ev s (by omega)) (Ev.bind hw ?_)
  by_cases h : wordL (readL s.toList) = s.toList
  · refine Ev.pos (by rw [toList_B]; exact h) ?_
    rw [if_pos h]
    exact Ev.now _
  · refine Ev.neg (by rw [toList_B]; exact h) ?_
    rw [if_neg h]
    exact Ev.now _
theorem refBare_loop (s : ByteArray) (hs : s.size ≤ 1000000) : ∀ (t : List UInt8) (i : Nat), s.toList.drop i = t → Ev (fun k => rafterref35_Bare.l0 k s (i : Int)) (t.all bareB && (s.toList != []))
  | [], i, ht => by
    have hge := drop_nil ht
    refine Ev.step (f := fun k => some _) (fun k => ?_) (Ev.now _)
    simp only [rafterref35_Bare.l0]
    rw [if_neg (by omega), List.all_nil, Bool.true_and]
  | c :: t, i, ht => by
    have hlt := drop_lt ht
    have hw : wrap64 ((i : Int) + 1) = ((i + 1 : Nat) : Int) := by rw [wrap64_in (by omega) (by omega)]; omega
    have ih := refBare_loop s hs t (i + 1) (drop_succ ht)
    have hbt := bt_cons ht
    rw [List.all_cons]
    cases hb : bareB c with
    | true =>
      rw [Bool.true_and]
      refine Ev.step (fun k => ?_) ih
      simp only [rafterref35_Bare.l0]
      rw [if_pos (by omega), if_pos (by omega), hbt, hw]
      have hb2 : 97 ≤ c.toNat ∧ c.toNat ≤ 122 ∨ 48 ≤ c.toNat ∧ c.toNat ≤ 57 ∨ c.toNat = 46 ∨ c.toNat = 95 ∨ c.toNat = 45 ∨ c.toNat = 47 := of_decide_eq_true hb
      clear hb ih ht hbt
      repeat' split
      all_goals first | rfl | (exfalso; omega)
    | false =>
      rw [Bool.false_and, Bool.false_and]
      refine Ev.step (f := fun k => some false) (fun k => ?_) (Ev.now _)
      simp only [rafterref35_Bare.l0]
      rw [if_pos (by omega), if_pos (by omega), hbt, hw]
      have hb2 : ¬ (97 ≤ c.toNat ∧ c.toNat ≤ 122 ∨ 48 ≤ c.toNat ∧ c.toNat ≤ 57 ∨ c.toNat = 46 ∨ c.toNat = 95 ∨ c.toNat = 45 ∨ c.toNat = 47) := of_decide_eq_false hb
      clear hb ih ht hbt
      repeat' split
      all_goals first | rfl | (exfalso; omega)
theorem refWord_loop (s : ByteArray) (hs : s.size ≤ 1000000) : ∀ (t : List UInt8) (i : Nat) (out : List UInt8), s.toList.drop i = t → out.length ≤ 3 * i + 1 →
    Ev (fun k => rafterref35_Word.l0 k s (B out) (i : Int)) (B (out ++ t.flatMap signL))
  | [], i, out, ht, ho => by
    have hge := drop_nil ht
    refine Ev.step (f := fun k => some _) (fun k => ?_) (Ev.now _)
    simp only [rafterref35_Word.l0]
    rw [if_neg (by omega)]
    simp
  | c :: t, i, out, ht, ho => by
    have hlt := drop_lt ht
    have hw : wrap64 ((i : Int) + 1) = ((i + 1 : Nat) : Int) := by rw [wrap64_in (by omega) (by omega)]; omega
    have hsl := sign_length c
    have ih := refWord_loop s hs t (i + 1) (out ++ signL c) (drop_succ ht) (by rw [List.length_append]; omega)
    rw [List.append_assoc, ← List.flatMap_cons] at ih
    refine Ev.step (fun k => ?_) ih
    simp only [rafterref35_Word.l0]
    rw [if_pos (by omega), if_pos (by omega), bt_cons ht, refSign_f, Option.bind_some, if_pos (by rw [size_B, size_B]; omega), B_append, hw]
theorem refWord_ev (s : ByteArray) (hs : s.size ≤ 1000000) : Ev (fun k => rafterref35_Word.f k s) (B (wordL s.toList)) := by
  unfold rafterref35_Word.f rafterref35_Bare.f
  refine Ev.bind (refBare_loop s hs s.toList 0 rfl) ?_
  have hd : (s.toList.all bareB && (s.toList != ([] : List UInt8))) = bareL s.toList := by
    unfold bareL
    rw [Bool.and_comm]
    congr 1
    cases s.toList <;> rfl
  rw [hd]
  unfold wordL
  by_cases h : bareL s.toList = true
  · refine Ev.pos h ?_
    rw [if_pos h, B_toList]
    exact Ev.now _
  · refine Ev.neg h ?_
    rw [if_neg h]
    exact refWord_loop s hs s.toList 0 [61] rfl (by simp)
theorem unword_word (l : List UInt8) : unwordL (wordL l) = (l, 0) := by rw [unwordL, read_word, if_pos rfl]
end Go.Proofs.YtloibeefopdhpaaDoor.Plain
