-- Words of the kit's print (as it laid them for this seat); what this claim does not use is left out.
import Derived.Test.YtloibeefopdhpaaDoorG3
import Derived.Test.YtloibeefopdhpaaDoorG21
set_option linter.unusedVariables false
namespace Go.Proofs.YtloibeefopdhpaaDoor.Plain
open Go.RowKit Go.Proofs.YtloibeefopdhpaaDoor.G Go.Proofs.YtloibeefopdhpaaDoorW.PrintWords Go.Proofs.YtloibeefopdhpaaDoorW.PrintLast Go.Proofs.YtloibeefopdhpaaDoorW.PrintMore
def dig (n : Nat) : UInt8 := UInt8.ofNat (48 + n)
def D10 : ByteArray := ⟨#[48, 49, 50, 51, 52, 53, 54, 55, 56, 57]⟩
theorem D10_list : D10.toList = [48, 49, 50, 51, 52, 53, 54, 55, 56, 57] := toList_B [48, 49, 50, 51, 52, 53, 54, 55, 56, 57]
theorem ten {P : Nat → Prop} (h0 : P 0) (h1 : P 1) (h2 : P 2) (h3 : P 3) (h4 : P 4) (h5 : P 5) (h6 : P 6) (h7 : P 7) (h8 : P 8) (h9 : P 9) : ∀ n, n < 10 → P n := by
  intro n h
  rcases (show n = 0 ∨ n = 1 ∨ n = 2 ∨ n = 3 ∨ n = 4 ∨ n = 5 ∨ n = 6 ∨ n = 7 ∨ n = 8 ∨ n = 9 by omega) with rfl | rfl | rfl | rfl | rfl | rfl | rfl | rfl | rfl | rfl <;> assumption
theorem dig_slice : ∀ n, n < 10 → D10.extract n (n + 1) = B [dig n] := by
  intro n h
  rw [extract_mid, D10_list]
  revert n
  exact ten rfl rfl rfl rfl rfl rfl rfl rfl rfl rfl
theorem dig_index : ∀ n, n < 10 → Lib.indexByte [48, 49, 50, 51, 52, 53, 54, 55, 56, 57] (dig n) = (n : Int) := ten (by rfl) (by rfl) (by rfl) (by rfl) (by rfl) (by rfl) (by rfl) (by rfl) (by rfl) (by rfl)
theorem dig_ne : ∀ n, n < 10 → dig n ≠ 45 := ten (by decide) (by decide) (by decide) (by decide) (by decide) (by decide) (by decide) (by decide) (by decide) (by decide)
def decN (n : Nat) : List UInt8 := if h : n < 10 then [dig n] else decN (n / 10) ++ [dig (n % 10)]
termination_by n
decreasing_by omega
theorem decN_small {n : Nat} (h : n < 10) : decN n = [dig n] := by rw [decN, dif_pos h]
theorem decN_big {n : Nat} (h : 10 ≤ n) : decN n = decN (n / 10) ++ [dig (n % 10)] := by rw [decN, dif_neg (by omega)]
def decU (n : Nat) : List UInt8 := if n = 0 then [] else decN n
theorem decN_eq (n : Nat) : decN n = decU (n / 10) ++ [dig (n % 10)] := by
  unfold decU
  by_cases h : n < 10
  · rw [decN_small h, if_pos (by omega), Nat.mod_eq_of_lt h]
    rfl
  · rw [decN_big (by omega), if_neg (by omega)]
theorem decU_eq {n : Nat} (h : n ≠ 0) : decU n = decU (n / 10) ++ [dig (n % 10)] := by rw [← decN_eq, decU, if_neg h]
theorem decN_length : ∀ (m n : Nat), n < 10 ^ (m + 1) → (decN n).length ≤ m + 1 := by
  intro m
  induction m with
  | zero =>
    intro n h
    rw [decN_small (by simpa using h)]
    simp
  | succ m ih =>
    intro n h
    by_cases h1 : n < 10
    · rw [decN_small h1]; simp
    · rw [decN_big (by omega), List.length_append]
      have := ih (n / 10) (by rw [Nat.pow_succ] at h; omega)
      simp only [List.length_cons, List.length_nil]
      omega
theorem decN_head : ∀ (N n : Nat), n ≤ N → ∃ c t, decN n = c :: t ∧ c ≠ 45 := by
  intro N
  induction N with
  | zero => intro n h; exact ⟨_, _, decN_small (by omega), dig_ne n (by omega)⟩
  | succ N ih =>
    intro n h
    by_cases h1 : n < 10
    · exact ⟨_, _, decN_small h1, dig_ne n h1⟩
    · obtain ⟨c, t, e, hc⟩ := ih (n / 10) (by omega)
      exact ⟨c, t ++ [dig (n % 10)], by rw [decN_big (by omega), e]; rfl, hc⟩
def numL (n : Int) : List UInt8 := if n < 0 then 45 :: decN n.natAbs else decN n.natAbs
theorem tdN (n : Nat) : Int.tdiv (n : Int) 10 = ((n / 10 : Nat) : Int) := by rw [Int.tdiv_eq_ediv_of_nonneg (by omega)]; omega
theorem tmN (n : Nat) : Int.tmod (n : Int) 10 = ((n % 10 : Nat) : Int) := by rw [Int.tmod_eq_emod_of_nonneg (by omega)]; omega
theorem digits_ev : ∀ (N n : Nat), n ≤ N → n ≤ 9223372036854775808 → n < 9223372036854775808 ∨ n < 10 → Ev (fun k => rafterref11_Digits.f k (n : Int)) (B (decN n)) := by
  intro N
  have small : ∀ n : Nat, n < 10 → Ev (fun k => rafterref11_Digits.f k (n : Int)) (B (decN n)) := by
    intro n h
    refine Ev.step (f := fun k => some _) (fun k => ?_) (Ev.now _)
    have hw : wrap64 ((n : Int) + 1) = ((n + 1 : Nat) : Int) := by rw [wrap64_in (by omega) (by omega)]; omega
    simp only [rafterref11_Digits.f]
    rw [if_pos (by omega), if_pos (by omega), hw, if_pos (by omega), if_pos (by omega), Int.toNat_natCast, Int.toNat_natCast]
    rw [show (⟨#[48, 49, 50, 51, 52, 53, 54, 55, 56, 57]⟩ : ByteArray).extract n (n + 1) = B [dig n] from dig_slice n h, decN_small h]
  induction N with
  | zero => intro n h _ _; exact small n (by omega)
  | succ N ih =>
    intro n h h0 h1
    by_cases hs : n < 10
    · exact small n hs
    · have ha := ih (n / 10) (by omega) (by omega) (by omega)
      have hb := small (n % 10) (by omega)
      have hl := decN_length 19 (n / 10) (by omega)
      have hl2 : (decN (n % 10)).length = 1 := by rw [decN_small (by omega)]; rfl
      refine Ev.step (f := fun k => (rafterref11_Digits.f k ((n / 10 : Nat) : Int)).bind fun t => (rafterref11_Digits.f k ((n % 10 : Nat) : Int)).bind fun u => if t.size + u.size ≤ 9223372036854775807 then some (t ++ u) else none) (fun k => ?_) (Ev.bind ha (Ev.bind hb (Ev.pos (by rw [size_B, size_B]; omega) ?_)))
      · simp only [rafterref11_Digits.f]
        rw [if_neg (by omega), tdN, tmN, wrap64_in (by omega) (by omega)]
      · rw [B_append, decN_big (n := n) (by omega), decN_small (n := n % 10) (by omega)]
        exact Ev.now _
theorem refNeg_ev : ∀ (N m : Nat), m ≤ N → 1 ≤ m → m ≤ 9223372036854775808 → Ev (fun k => rafterref36_Number.f k (-(m : Int))) (B (45 :: decN m)) := by
  intro N
  induction N with
  | zero => intro m h h1; omega
  | succ N ih =>
    intro m h h1 h2
    by_cases hs : m < 10
    · have hd := digits_ev m m (Nat.le_refl m) (by omega) (.inr hs)
      have hl := decN_length 19 m (by omega)
      refine Ev.step (f := fun k => (rafterref11_Digits.f k (m : Int)).bind fun t => if 1 + t.size ≤ 9223372036854775807 then some ((⟨#[45]⟩ : ByteArray) ++ t) else none) (fun k => ?_) (Ev.bind hd (Ev.pos (by rw [size_B]; omega) ?_))
      · simp only [rafterref36_Number.f]
        rw [if_neg (by omega), if_pos (by omega), show wrap64 (-(-(m : Int))) = (m : Int) by rw [wrap64_in (by omega) (by omega)]; omega]
      · rw [show (⟨#[45]⟩ : ByteArray) ++ B (decN m) = B (45 :: decN m) from B_append [45] (decN m)]
        exact Ev.now _
    · have ha := ih (m / 10) (by omega) (by omega) (by omega)
      have hb := digits_ev 10 (m % 10) (by omega) (by omega) (.inr (by omega))
      have hl := decN_length 19 (m / 10) (by omega)
      have hl2 : (decN (m % 10)).length = 1 := by rw [decN_small (by omega)]; rfl
      refine Ev.step (f := fun k => (rafterref36_Number.f k (-((m / 10 : Nat) : Int))).bind fun t => (rafterref11_Digits.f k ((m % 10 : Nat) : Int)).bind fun u => if t.size + u.size ≤ 9223372036854775807 then some (t ++ u) else none) (fun k => ?_) (Ev.bind ha (Ev.bind hb (Ev.pos (by rw [size_B, size_B, List.length_cons]; omega) ?_)))
      · simp only [rafterref36_Number.f]
        rw [if_neg (by omega), if_neg (by omega), Int.neg_tdiv, Int.neg_tmod, tdN, tmN, wrap64_in (by omega) (by omega), show wrap64 (-(-((m % 10 : Nat) : Int))) = ((m % 10 : Nat) : Int) by rw [wrap64_in (by omega) (by omega)]; omega]
      · rw [B_append, decN_big (n := m) (by omega), decN_small (n := m % 10) (by omega)]
        exact Ev.now _
theorem refNumber_ev (n : Int) (h0 : -9223372036854775808 ≤ n) (h1 : n ≤ 9223372036854775807) : Ev (fun k => rafterref36_Number.f k n) (B (numL n)) := by
  unfold numL
  by_cases h : n < 0
  · rw [if_pos h]
    have := refNeg_ev n.natAbs n.natAbs (Nat.le_refl _) (by omega) (by omega)
    rw [show -((n.natAbs : Nat) : Int) = n by omega] at this
    exact this
  · rw [if_neg h]
    have := digits_ev n.natAbs n.natAbs (Nat.le_refl _) (by omega) (.inl (by omega))
    rw [show ((n.natAbs : Nat) : Int) = n by omega] at this
    refine Ev.step (f := fun k => (rafterref11_Digits.f k n).bind fun t => some t) (fun k => ?_) (Ev.bind this (Ev.now _))
    simp only [rafterref36_Number.f]
    rw [if_pos (by omega)]
theorem dig_at (u : Nat) (hu : u < 18446744073709551616) : (⟨#[48, 49, 50, 51, 52, 53, 54, 55, 56, 57]⟩ : ByteArray).extract ((u % 10 : Nat) : Int).toNat (IntKind.u64.wrap (((u % 10 : Nat) : Int) + 1)).toNat = B [dig (u % 10)] ∧
    0 ≤ ((u % 10 : Nat) : Int) ∧ ((u % 10 : Nat) : Int) ≤ IntKind.u64.wrap (((u % 10 : Nat) : Int) + 1) ∧ IntKind.u64.wrap (((u % 10 : Nat) : Int) + 1) ≤ 10 ∧ IntKind.u64.wrap ((u / 10 : Nat) : Int) = ((u / 10 : Nat) : Int) := by
  have e : IntKind.u64.wrap (((u % 10 : Nat) : Int) + 1) = ((u % 10 + 1 : Nat) : Int) := by rw [u64_in (by omega) (by omega)]; omega
  rw [e, Int.toNat_natCast, Int.toNat_natCast]
  exact ⟨dig_slice _ (by omega), by omega, by omega, by omega, u64_in (by omega) (by omega)⟩
theorem number_loop (x : Int) : ∀ (m u : Nat) (s : List UInt8), u < 10 ^ m → u < 18446744073709551616 → s.length + m ≤ 100 →
    Ev (fun k => reply_Number.l0 k x (u : Int) (B s)) (if x < 0 then B (45 :: (decU u ++ s)) else B (decU u ++ s)) := by
  intro m
  induction m with
  | zero =>
    intro u s h0 _ hs
    obtain rfl : u = 0 := by simpa using h0
    by_cases hx : x < 0
    · rw [if_pos hx]
      refine Ev.step (f := fun k => some _) (fun k => ?_) (Ev.now _)
      simp only [reply_Number.l0]
      rw [if_neg (by omega), if_pos hx, if_pos (by rw [size_B]; omega)]
      rw [show (⟨#[45]⟩ : ByteArray) ++ B s = B (45 :: s) from B_append [45] s]
      rfl
    · rw [if_neg hx]
      refine Ev.step (f := fun k => some _) (fun k => ?_) (Ev.now _)
      simp only [reply_Number.l0]
      rw [if_neg (by omega), if_neg hx]
      rfl
  | succ m ih =>
    intro u s h0 hu hs
    by_cases hz : u = 0
    · subst hz
      exact ih 0 s (Nat.pow_pos (by decide)) (by omega) (by omega)
    · obtain ⟨d1, d2, d3, d4, d5⟩ := dig_at u hu
      have := ih (u / 10) (dig (u % 10) :: s) (by rw [Nat.pow_succ] at h0; omega) (by omega) (by rw [List.length_cons]; omega)
      rw [decU_eq hz, List.append_assoc]
      refine Ev.step (fun k => ?_) this
      simp only [reply_Number.l0]
      rw [if_pos (by omega), tdN, tmN, if_pos d2, if_pos d3, if_pos d4, d1, d5, if_pos (by rw [size_B, size_B]; simp only [List.length_cons, List.length_nil]; omega), B_append]
      rfl
theorem number_ev (n : Int) (h0 : -9223372036854775808 ≤ n) (h1 : n ≤ 9223372036854775807) : Ev (fun k => reply_Number.f k n) (B (numL n)) := by
  have main : ∀ u : Nat, u < 18446744073709551616 → Ev (fun k => reply_Number.j0 k n (u : Int)) (if n < 0 then B (45 :: decN u) else B (decN u)) := by
    intro u hu
    obtain ⟨d1, d2, d3, d4, d5⟩ := dig_at u hu
    have := number_loop n 20 (u / 10) [dig (u % 10)] (by omega) (by omega) (by simp)
    rw [← decN_eq] at this
    refine Ev.step (fun k => ?_) this
    simp only [reply_Number.j0]
    rw [tdN, tmN, if_pos d2, if_pos d3, if_pos d4, d1, d5]
  unfold reply_Number.f numL
  by_cases h : n < 0
  · refine Ev.pos h ?_
    have hm := main n.natAbs (by omega)
    rw [if_pos h] at hm ⊢
    rw [show IntKind.u64.wrap (-(IntKind.u64.wrap n)) = ((n.natAbs : Nat) : Int) by rw [IntKind.wrap_u64, IntKind.wrap_u64]; omega]
    exact hm
  · refine Ev.neg h ?_
    have hm := main n.natAbs (by omega)
    rw [if_neg h] at hm ⊢
    rw [show IntKind.u64.wrap n = ((n.natAbs : Nat) : Int) by rw [IntKind.wrap_u64]; omega]
    exact hm
def stepN (u : Int) (c : UInt8) : Int := IntKind.u64.wrap (IntKind.u64.wrap (10 * u) + IntKind.u64.wrap (mx (Lib.indexByte [48, 49, 50, 51, 52, 53, 54, 55, 56, 57] c) 0))
def valOf (b : Bool) (u : Int) : Int := if b = true then wrap64 (IntKind.u64.wrap (-u)) else wrap64 u
def outN (b : Bool) (w : ByteArray) (u : Int) : Int × Int := if numL (valOf b u) = w.toList then (valOf b u, 0) else (0, 17)
theorem wrap64_range (n : Int) : -9223372036854775808 ≤ wrap64 n ∧ wrap64 n ≤ 9223372036854775807 := by unfold wrap64; omega
theorem valOf_range (b : Bool) (u : Int) : -9223372036854775808 ≤ valOf b u ∧ valOf b u ≤ 9223372036854775807 := by
  unfold valOf
  split
  · exact wrap64_range _
  · exact wrap64_range _
theorem unnum_loop (w t : ByteArray) (b : Bool) (lim : Nat) (hlim : lim ≤ t.size) (ht : t.size ≤ 1000000) : ∀ (q : List UInt8) (i : Nat) (u : Int), (t.toList.take lim).drop i = q → i ≤ lim →
    Ev (fun k => reply_Unnumber.l0 k w t b u (lim : Int) (i : Int)) (outN b w (q.foldl stepN u))
  | [], i, u, hq, hi => by
    have hge : lim ≤ i := by
      have := List.drop_eq_nil_iff.1 hq
      rw [List.length_take, toList_length] at this
      omega
    obtain ⟨r0, r1⟩ := valOf_range b u
    have hn := number_ev (valOf b u) r0 r1
    have hv : Ev (fun k => if numL (valOf b u) = w.toList then (some (valOf b u, (0 : Int)) : Option (Int × Int)) else some (0, 17)) (outN b w u) := by
      unfold outN
      by_cases h : numL (valOf b u) = w.toList
      · simp only [if_pos h]
        exact Ev.now _
      · simp only [if_neg h]
        exact Ev.now _
    refine Ev.step (f := fun k => (reply_Number.f k (valOf b u)).bind fun t => if t.toList = w.toList then some (valOf b u, (0 : Int)) else some (0, 17)) (fun k => ?_) (Ev.bind hn ?_)
    · simp only [reply_Unnumber.l0]
      rw [if_neg (by omega)]
      unfold valOf
      by_cases hb : b = true
      · rw [if_pos hb, if_pos hb]
      · rw [if_neg hb, if_neg hb]
    · simp only [toList_B]
      exact hv
  | c :: q, i, u, hq, hi => by
    have hlt : i < lim := by
      rcases Nat.lt_or_ge i lim with h | h
      · exact h
      · rw [List.drop_eq_nil_of_le (by rw [List.length_take]; omega)] at hq
        cases hq
    have hq2 : (t.toList.take lim).drop (i + 1) = q := by rw [← List.drop_drop, hq]; rfl
    obtain ⟨r, hr⟩ : ∃ r, t.toList.drop i = c :: r := by
      rw [List.drop_take] at hq
      cases hd : t.toList.drop i with
      | nil => rw [hd] at hq; simp at hq
      | cons x r =>
        rw [hd, show lim - i = (lim - i - 1) + 1 by omega, List.take_succ_cons] at hq
        injection hq with h1 h2
        exact ⟨r, by rw [h1]⟩
    have ih := unnum_loop w t b lim hlim ht q (i + 1) (stepN u c) hq2 (by omega)
    refine Ev.step (fun k => ?_) ih
    simp only [reply_Unnumber.l0]
    rw [if_pos (by omega), if_pos (by omega), if_pos (by omega), bt_cons hr, strings_IndexByte.f, Option.bind_some, wrap64_in (n := (i : Int) + 1) (by omega) (by omega), show (c.toNat : Int).toNat.toUInt8 = c by simp, show (⟨#[48, 49, 50, 51, 52, 53, 54, 55, 56, 57]⟩ : ByteArray).toList = [48, 49, 50, 51, 52, 53, 54, 55, 56, 57] from D10_list]
    rfl
def cutL : List UInt8 → List UInt8 × Bool
  | 45 :: t => (t, true)
  | l => (l, false)
theorem cutMinus_f (s : ByteArray) (hs : s.size ≤ 1000000) : strings_CutPrefix.f s (⟨#[45]⟩ : ByteArray) = some (B (cutL s.toList).1, (cutL s.toList).2) := by
  have hlen := toList_length s
  have h1 : (⟨#[45]⟩ : ByteArray).size = 1 := rfl
  unfold strings_CutPrefix.f stringslite_CutPrefix.f stringslite_HasPrefix.f
  rw [h1]
  cases hl : s.toList with
  | nil =>
    rw [hl] at hlen
    rw [if_neg (by simp at hlen; omega)]
    have : s = B [] := by rw [← hl, B_toList]
    subst this
    rfl
  | cons c t =>
    rw [hl, List.length_cons] at hlen
    rw [if_pos (by omega), if_pos (by omega), if_pos (by omega), extract_take, toList_B, hl, show (⟨#[45]⟩ : ByteArray).toList = [45] from toList_B [45]]
    by_cases hc : c = 45
    · subst hc
      simp only [Option.bind_some]
      rw [if_pos (by rfl), if_pos (by omega), if_pos (by omega)]
      simp only [Option.bind_some]
      rw [extract_drop, hl]
      rfl
    · have e : cutL (c :: t) = (c :: t, false) := by
        unfold cutL
        split
        · rename_i h
          injection h with h
          exact absurd h hc
        · rfl
      rw [e]
      simp only [Option.bind_some]
      rw [if_neg (by
        intro h
        have := beq_iff_eq.1 h
        simp at this
        exact hc this)]
      rw [← hl, B_toList]
      rfl
def unnumL (l : List UInt8) : Int × Int := outN (cutL l).2 (B l) (((cutL l).1.take 20).foldl stepN 0)
theorem cutL_length (l : List UInt8) : (cutL l).1.length ≤ l.length := by
  unfold cutL
  split <;> simp
theorem unnumber_ev (w : ByteArray) (hw : w.size ≤ 100000) : Ev (fun k => reply_Unnumber.f k w) (unnumL w.toList) := by
  unfold reply_Unnumber.f
  rw [cutMinus_f w (by omega)]
  have hl := cutL_length w.toList
  rw [toList_length] at hl
  have hs : (B (cutL w.toList).1).size ≤ 100000 := by rw [size_B]; omega
  have := unnum_loop w (B (cutL w.toList).1) (cutL w.toList).2 (min (B (cutL w.toList).1).size 20) (by omega) (by omega) ((cutL w.toList).1.take 20) 0 0 (by
    rw [toList_B, List.drop_zero, size_B]
    rcases Nat.le_total (cutL w.toList).1.length 20 with h | h
    · rw [Nat.min_eq_left h, List.take_of_length_le (Nat.le_refl _), List.take_of_length_le h]
    · rw [Nat.min_eq_right h]) (by omega)
  refine Ev.bind_now (f := fun k (bt : ByteArray × Bool) => reply_Unnumber.l0 k w bt.1 bt.2 0 (mn (bt.1.size : Int) 20) 0) ?_
  dsimp only
  rw [show mn ((B (cutL w.toList).1).size : Int) 20 = ((min (B (cutL w.toList).1).size 20 : Nat) : Int) by unfold mn; split <;> omega]
  unfold unnumL
  rw [B_toList]
  exact this
theorem fold_dec : ∀ (N n : Nat), n ≤ N → n < 18446744073709551616 → (decN n).foldl stepN 0 = (n : Int) := by
  have one : ∀ (u d : Nat), d < 10 → 10 * u + d < 18446744073709551616 → stepN (u : Int) (dig d) = ((10 * u + d : Nat) : Int) := by
    intro u d hd h
    unfold stepN
    rw [dig_index d hd, show mx (d : Int) 0 = (d : Int) by unfold mx; split <;> omega, IntKind.wrap_u64, IntKind.wrap_u64, IntKind.wrap_u64]
    omega
  intro N
  induction N with
  | zero =>
    intro n h h2
    rw [decN_small (by omega)]
    exact (one 0 n (by omega) (by omega)).trans (by omega)
  | succ N ih =>
    intro n h h2
    by_cases hs : n < 10
    · rw [decN_small hs]
      exact (one 0 n hs (by omega)).trans (by omega)
    · rw [decN_big (by omega), List.foldl_append, ih (n / 10) (by omega) (by omega), List.foldl_cons, List.foldl_nil, one _ _ (by omega) (by omega)]
      omega
theorem unnum_num (n : Int) (h0 : -9223372036854775808 ≤ n) (h1 : n ≤ 9223372036854775807) : unnumL (numL n) = (n, 0) := by
  have hlen := decN_length 18 n.natAbs (by omega)
  have hf := fold_dec n.natAbs n.natAbs (Nat.le_refl _) (by omega)
  have fin : ∀ b, valOf b (n.natAbs : Int) = n → outN b (B (numL n)) (n.natAbs : Int) = (n, 0) := by
    intro b hb
    unfold outN
    rw [hb, toList_B, if_pos rfl]
  unfold unnumL
  by_cases h : n < 0
  · have e : cutL (numL n) = (decN n.natAbs, true) := by unfold numL; rw [if_pos h]; rfl
    rw [e]
    dsimp only
    rw [List.take_of_length_le (by omega), hf]
    refine fin true ?_
    unfold valOf
    rw [if_pos rfl, IntKind.wrap_u64]
    unfold wrap64
    omega
  · obtain ⟨c, t, e1, hc⟩ := decN_head n.natAbs n.natAbs (Nat.le_refl _)
    have e : cutL (numL n) = (decN n.natAbs, false) := by
      unfold numL
      rw [if_neg h, e1]
      unfold cutL
      split
      · rename_i h2
        injection h2 with h2
        exact absurd h2 hc
      · rfl
    rw [e]
    dsimp only
    rw [List.take_of_length_le (by omega), hf]
    refine fin false ?_
    unfold valOf
    rw [if_neg (by decide), wrap64_in (by omega) (by omega)]
    omega
theorem unnum_out (l : List UInt8) : (∃ n, -9223372036854775808 ≤ n ∧ n ≤ 9223372036854775807 ∧ unnumL l = (n, 0) ∧ numL n = l) ∨ unnumL l = (0, 17) := by
  unfold unnumL outN
  by_cases h : numL (valOf (cutL l).2 (((cutL l).1.take 20).foldl stepN 0)) = (B l).toList
  · rw [if_pos h]
    rw [toList_B] at h
    exact .inl ⟨_, (valOf_range _ _).1, (valOf_range _ _).2, rfl, h⟩
  · rw [if_neg h]
    exact .inr rfl
end Go.Proofs.YtloibeefopdhpaaDoor.Plain
