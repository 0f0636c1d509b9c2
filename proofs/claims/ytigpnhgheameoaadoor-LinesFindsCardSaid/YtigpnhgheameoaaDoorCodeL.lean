/- Layer 1 in plain words: numbers, texts and lists as bytes; what the program's reader and the reference's readers make of any bytes. -/
import Derived.Test.YtigpnhgheameoaaDoorBytes
import Derived.Test.YtigpnhgheameoaaDoorG8
import Derived.Test.YtigpnhgheameoaaDoorG13
import Derived.Test.YtigpnhgheameoaaDoorCodeList
set_option linter.unusedVariables false
namespace Go.Proofs.YtigpnhgheameoaaDoor.Plain
open Go.RowKit Go.Proofs.YtigpnhgheameoaaDoor.G Go.Proofs.YtigpnhgheameoaaDoorW.PrintWords Go.Proofs.YtigpnhgheameoaaDoorW.PrintLast Go.Proofs.YtigpnhgheameoaaDoorW.PrintMore

/-! ### numbers -/
def enc (n : Nat) : List UInt8 := if n < 128 then [UInt8.ofNat n] else UInt8.ofNat (128 + n % 128) :: enc (n / 128)
termination_by n
decreasing_by omega
def dnum (i acc : Nat) : List UInt8 → Sum Int (Nat × List UInt8)
  | [] => .inl 5
  | c :: t => if (i = 9 ∧ 1 < c.toNat) ∨ (0 < i ∧ c.toNat = 0) then .inl 6 else if c.toNat < 128 then .inr (acc + c.toNat * 128 ^ i, t) else dnum (i + 1) (acc + c.toNat % 128 * 128 ^ i) t

theorem enc_lt {n : Nat} (h : n < 128) : enc n = [UInt8.ofNat n] := by rw [enc, if_pos h]
theorem enc_ge {n : Nat} (h : ¬ n < 128) : enc n = UInt8.ofNat (128 + n % 128) :: enc (n / 128) := by rw [enc, if_neg h]
theorem pow_split (m i : Nat) : m * 128 ^ (i + 1) = 128 * m * 128 ^ i := by rw [Nat.pow_succ, Nat.mul_comm (128 ^ i), ← Nat.mul_assoc, Nat.mul_comm m]
theorem digit_split (m i : Nat) : m % 128 * 128 ^ i + m / 128 * 128 ^ (i + 1) = m * 128 ^ i := by
  rw [pow_split, ← Nat.add_mul, Nat.mod_add_div]

/-- What was read is the very bytes. -/
theorem dnum_enc : ∀ (l : List UInt8) (i acc n : Nat) (t : List UInt8), dnum i acc l = .inr (n, t) → ∃ m, n = acc + m * 128 ^ i ∧ l = enc m ++ t ∧ (0 < i → m ≠ 0)
  | [], i, acc, n, t, h => by simp [dnum] at h
  | c :: l, i, acc, n, t, h => by
    rw [dnum] at h
    split at h
    · cases h
    · rename_i hb
      split at h
      · rename_i hc
        injection h with h
        injection h with h1 h2
        subst h1; subst h2
        exact ⟨c.toNat, rfl, by rw [enc_lt hc]; simp, fun hi h0 => hb (.inr ⟨hi, h0⟩)⟩
      · rename_i hc
        obtain ⟨m, h1, h2, h3⟩ := dnum_enc l (i + 1) _ n t h
        have hm := h3 (by omega)
        have hl := u8_lt c
        have e1 : (c.toNat % 128 + 128 * m) % 128 = c.toNat % 128 := by omega
        have e2 : (c.toNat % 128 + 128 * m) / 128 = m := by omega
        refine ⟨c.toNat % 128 + 128 * m, ?_, ?_, fun _ => by omega⟩
        · rw [h1, pow_split, Nat.add_mul, Nat.add_assoc]
        · rw [enc_ge (by omega), e1, e2, show 128 + c.toNat % 128 = c.toNat by omega, h2]
          simp
/-- What was laid is read. -/
theorem enc_dnum : ∀ (m i acc : Nat) (t : List UInt8), i ≤ 9 → m * 128 ^ i < 18446744073709551616 → (0 < i → m ≠ 0) → dnum i acc (enc m ++ t) = .inr (acc + m * 128 ^ i, t) := by
  intro m
  induction m using Nat.strongRecOn with
  | _ m ih =>
    intro i acc t hi hf h0
    have h9 : i = 9 → m ≤ 1 := by
      rintro rfl
      omega
    by_cases hm : m < 128
    · rw [enc_lt hm, List.cons_append, List.nil_append, dnum]
      have e : (UInt8.ofNat m).toNat = m := by simp; omega
      rw [e, if_neg (by omega), if_pos hm]
    · rw [enc_ge hm, List.cons_append, dnum]
      have e : (UInt8.ofNat (128 + m % 128)).toNat = 128 + m % 128 := by simp; omega
      rw [e, if_neg (by omega), if_neg (by omega), ih (m / 128) (by omega) (i + 1) _ t (by omega) ?_ (by omega)]
      · rw [show (128 + m % 128) % 128 = m % 128 by omega, Nat.add_assoc, digit_split]
      · refine Nat.lt_of_le_of_lt ?_ hf
        have := digit_split m i
        omega
theorem dnum_left : ∀ (l : List UInt8) (i acc n : Nat) (t : List UInt8), dnum i acc l = .inr (n, t) → t.length < l.length
  | [], i, acc, n, t, h => by simp [dnum] at h
  | c :: l, i, acc, n, t, h => by
    rw [dnum] at h
    split at h
    · cases h
    · split at h
      · injection h with h
        injection h with h1 h2
        subst h2
        simp
      · have := dnum_left l _ _ n t h
        simp
        omega
theorem dnum_fits : ∀ (l : List UInt8) (i acc n : Nat) (t : List UInt8), i ≤ 9 → acc < 128 ^ i → dnum i acc l = .inr (n, t) → n < 18446744073709551616
  | [], i, acc, n, t, _, _, h => by simp [dnum] at h
  | c :: l, i, acc, n, t, hi, ha, h => by
    rw [dnum] at h
    split at h
    · cases h
    · rename_i hb
      have hl := u8_lt c
      split at h
      · injection h with h
        injection h with h1 h2
        subst h1
        rcases (show i = 9 ∨ i ≤ 8 by omega) with rfl | h8
        · have : c.toNat ≤ 1 := by omega
          omega
        · have h1 : (128 : Nat) ^ i ≤ 128 ^ 8 := Nat.pow_le_pow_right (by omega) h8
          have h2 : c.toNat * 128 ^ i ≤ 127 * 128 ^ i := Nat.mul_le_mul_right _ (by omega)
          omega
      · rename_i hc
        have h8 : i ≤ 8 := by
          rcases (show i = 9 ∨ i ≤ 8 by omega) with rfl | h8
          · omega
          · exact h8
        refine dnum_fits l (i + 1) _ n t (by omega) ?_ h
        have h2 : c.toNat % 128 * 128 ^ i ≤ 127 * 128 ^ i := Nat.mul_le_mul_right _ (by omega)
        rw [Nat.pow_succ]
        omega
theorem dnum_err : ∀ (l : List UInt8) (i acc : Nat) (e : Int), dnum i acc l = .inl e → e = 5 ∨ e = 6
  | [], i, acc, e, h => by simp [dnum] at h; omega
  | c :: l, i, acc, e, h => by
    rw [dnum] at h
    split at h
    · injection h with h; omega
    · split at h
      · cases h
      · exact dnum_err l _ _ e h

/-! ### the program's reader -/
def numRes : Sum Int (Nat × List UInt8) → Int × ByteArray × Int
  | .inl e => (0, B [], e)
  | .inr (n, t) => ((n : Int), B t, 0)

theorem or_val (i acc c : Nat) (hi : i ≤ 9) (ha : acc < 128 ^ i) (hc : c < 256) (h9 : i = 9 → c ≤ 1) :
    Go.bits .or .u64 (acc : Int) (shl .u64 (IntKind.u64.wrap (Go.bits .and .u8 (c : Int) 127)) (wrap64 (7 * (i : Int)))) = ((acc + c % 128 * 128 ^ i : Nat) : Int) := by
  have e1 : Go.bits .and .u8 (c : Int) 127 = ((c % 128 : Nat) : Int) := by
    have := bits_mask .u8 8 (by decide) wraps_u8 7 (by decide) (c : Int) (by omega) (by omega)
    rw [show (2 : Int) ^ 7 - 1 = 127 by rfl] at this
    rw [this]
    omega
  have hw : wrap64 (7 * (i : Int)) = ((7 * i : Nat) : Int) := by rw [wrap64_in (by omega) (by omega)]; omega
  rw [e1, u64_in (by omega) (by omega), hw]
  have hp : (2 : Nat) ^ (7 * i) = 128 ^ i := by rw [Nat.pow_mul]
  have hlt : c % 128 * 128 ^ i + 128 ^ i ≤ 18446744073709551616 := by
    rcases (show i = 9 ∨ i ≤ 8 by omega) with rfl | h8
    · have := h9 rfl
      have : c % 128 ≤ 1 := by omega
      omega
    · have h1 : (128 : Nat) ^ i ≤ 128 ^ 8 := Nat.pow_le_pow_right (by omega) h8
      have h2 : c % 128 * 128 ^ i ≤ 127 * 128 ^ i := Nat.mul_le_mul_right _ (by omega)
      omega
  have hpos : 0 < 128 ^ i := Nat.pow_pos (by omega)
  have e2 : shl .u64 ((c % 128 : Nat) : Int) ((7 * i : Nat) : Int) = ((c % 128 * 128 ^ i : Nat) : Int) := by
    unfold shl
    rw [Int.toNat_natCast, Nat.min_eq_left (show 7 * i ≤ IntKind.u64.bits by show 7 * i ≤ 64; omega)]
    have : ((c % 128 : Nat) : Int) * 2 ^ (7 * i) = ((c % 128 * 128 ^ i : Nat) : Int) := by
      rw [← hp]
      push_cast
      rfl
    rw [this, u64_in (by omega) (by omega)]
  rw [e2, u64_or_nat _ _ (by omega) (by omega), Nat.or_comm]
  congr 1
  rw [← hp, nat_join (7 * i) _ _ (Nat.mul_mod_left _ _) (by rw [hp]; exact ha), Nat.add_comm]

theorem rdNum_loop (s : ByteArray) (hs : s.size ≤ 9223372036854775807) : ∀ (t : List UInt8) (i acc : Nat), s.toList.drop i = t → i ≤ 9 → acc < 128 ^ i → Ev (fun k => code_Reader_Num.l0 k (acc : Int) (s.size : Int) (i : Int) s 0) (numRes (dnum i acc t))
  | [], i, acc, ht, hi, ha => by
    have hge := drop_nil ht
    exact Ev.step (f := fun _ => some _) (fun k => by simp only [code_Reader_Num.l0]; rw [if_neg (by omega)]; rfl) (Ev.now _)
  | c :: t, i, acc, ht, hi, ha => by
    have hlt := drop_lt ht
    have hb := bt_cons ht
    have hc := u8_lt c
    have key : Ev (fun k => code_Reader_Num.j1 k (acc : Int) (i : Int) (c.toNat : Int) (s.size : Int) (i : Int) (decide ((i = 9 ∧ 1 < c.toNat) ∨ (0 < i ∧ c.toNat = 0))) s 0) (numRes (dnum i acc (c :: t))) := by
      rw [dnum]
      by_cases hbad : (i = 9 ∧ 1 < c.toNat) ∨ (0 < i ∧ c.toNat = 0)
      · rw [if_pos hbad, decide_eq_true hbad]
        exact Ev.step (f := fun _ => some _) (fun k => by simp only [code_Reader_Num.j1]; rw [if_pos trivial]; rfl) (Ev.now _)
      · rw [if_neg hbad, decide_eq_false hbad]
        have hv := or_val i acc c.toNat hi ha hc (by omega)
        have hw : wrap64 ((i : Int) + 1) = ((i + 1 : Nat) : Int) := by rw [wrap64_in (by omega) (by omega)]; omega
        have hw7 : 0 ≤ wrap64 (7 * (i : Int)) := by rw [wrap64_in (by omega) (by omega)]; omega
        by_cases hc2 : c.toNat < 128
        · rw [if_pos hc2]
          refine Ev.step (f := fun _ => some _) (fun k => ?_) (Ev.now _)
          simp only [code_Reader_Num.j1]
          rw [if_neg (by decide), if_pos hw7, if_pos (by omega), hw, if_pos (by omega), if_pos (by omega), hv, Int.toNat_natCast, extract_drop, drop_succ ht, Nat.mod_eq_of_lt hc2]
          rfl
        · rw [if_neg hc2]
          have h8 : i ≤ 8 := by
            rcases (show i = 9 ∨ i ≤ 8 by omega) with rfl | h8
            · omega
            · exact h8
          refine Ev.step (f := fun k => code_Reader_Num.l0 k ((acc + c.toNat % 128 * 128 ^ i : Nat) : Int) (s.size : Int) ((i + 1 : Nat) : Int) s 0) (fun k => ?_) (rdNum_loop s hs t (i + 1) _ (drop_succ ht) (by omega) ?_)
          · simp only [code_Reader_Num.j1]
            rw [if_neg (by decide), if_pos hw7, if_neg (by omega), hv, hw]
          · have h2 : c.toNat % 128 * 128 ^ i ≤ 127 * 128 ^ i := Nat.mul_le_mul_right _ (by omega)
            rw [Nat.pow_succ]
            omega
    refine Ev.step (fun k => ?_) key
    simp only [code_Reader_Num.l0]
    rw [if_pos (by omega), if_pos (by omega), if_pos (by omega), hb]
    by_cases h9 : (i : Int) = 9
    · rw [if_pos h9]
      by_cases h1 : ((c.toNat : Int)) > 1
      · rw [if_pos h1, decide_eq_true (.inl ⟨by omega, by omega⟩)]
      · rw [if_neg h1, if_pos (by omega)]
        congr 1
        by_cases h0 : c.toNat = 0
        · rw [decide_eq_true (.inr ⟨by omega, h0⟩), h0]; rfl
        · rw [decide_eq_false (by omega)]; simp; omega
    · rw [if_neg h9]
      by_cases h0 : (i : Int) > 0
      · rw [if_pos h0]
        congr 1
        by_cases h0 : c.toNat = 0
        · rw [decide_eq_true (.inr ⟨by omega, h0⟩), h0]; rfl
        · rw [decide_eq_false (by omega)]; simp; omega
      · rw [if_neg h0, decide_eq_false (by omega)]

theorem rdNum (s : ByteArray) (hs : s.size ≤ 9223372036854775807) : Ev (fun k => code_Reader_Num.f k s 0) (numRes (dnum 0 0 s.toList)) :=
  Ev.congr (fun k => by rw [code_Reader_Num.f, if_pos rfl]; rfl) (rdNum_loop s hs s.toList 0 0 (by simp) (by omega) (by simp))
theorem rdNum_bad (s : ByteArray) (e : Int) (he : e ≠ 0) : Ev (fun k => code_Reader_Num.f k s e) (0, s, e) :=
  Ev.congr (fun k => by rw [code_Reader_Num.f, if_neg he]) (Ev.now _)

/-! ### a text, and a list, as the program reads them -/
def dtext (l : List UInt8) : Sum Int (List UInt8 × List UInt8) :=
  match dnum 0 0 l with
  | .inl e => .inl e
  | .inr (n, t) => if t.length < n then .inl 5 else .inr (t.take n, t.drop n)
def textRes : Sum Int (List UInt8 × List UInt8) → ByteArray × ByteArray × Int
  | .inl e => (B [], B [], e)
  | .inr (x, t) => (B x, B t, 0)
theorem dtext_err {l : List UInt8} {e : Int} (h : dtext l = .inl e) : e = 5 ∨ e = 6 := by
  unfold dtext at h
  split at h
  · rename_i h1
    injection h with h
    subst h
    exact dnum_err _ _ _ _ h1
  · split at h
    · injection h with h; omega
    · cases h
theorem dtext_left {l x t : List UInt8} (h : dtext l = .inr (x, t)) : t.length < l.length := by
  unfold dtext at h
  split at h
  · cases h
  · rename_i h1
    split at h
    · cases h
    · injection h with h
      injection h with h2 h3
      subst h3
      have := dnum_left _ _ _ _ _ h1
      rw [List.length_drop]
      omega
theorem dtext_enc {l x t : List UInt8} (h : dtext l = .inr (x, t)) : l = enc x.length ++ x ++ t := by
  unfold dtext at h
  split at h
  · cases h
  · rename_i n t1 h1
    split at h
    · cases h
    · rename_i hn
      injection h with h
      injection h with h2 h3
      obtain ⟨m, hm, hl, _⟩ := dnum_enc _ _ _ _ _ h1
      have : x.length = m := by rw [← h2, List.length_take]; omega
      rw [this, hl, ← h2, ← h3, List.append_assoc, List.take_append_drop]
theorem enc_dtext (x t : List UInt8) (hx : x.length < 18446744073709551616) : dtext (enc x.length ++ x ++ t) = .inr (x, t) := by
  unfold dtext
  rw [List.append_assoc, enc_dnum x.length 0 0 (x ++ t) (by omega) (by omega) (by omega)]
  simp only [Nat.zero_add, Nat.pow_zero, Nat.mul_one]
  rw [if_neg (by rw [List.length_append]; omega), List.take_left, List.drop_left]

theorem rdText (s : ByteArray) (hs : s.size ≤ 9223372036854775807) : Ev (fun k => code_Reader_Text.f k s 0) (textRes (dtext s.toList)) := by
  have h := rdNum s hs
  unfold code_Reader_Text.f dtext
  cases hd : dnum 0 0 s.toList with
  | inl e =>
    rw [hd] at h
    have he := dnum_err _ _ _ _ hd
    refine Ev.bind h (Ev.congr (fun k => ?_) (Ev.now _))
    show ((code_Reader_Err.f (B []) e).bind _) = _
    simp only [code_Reader_Err.f, Option.bind_some]
    rw [if_neg (by omega)]
    rfl
  | inr p =>
    obtain ⟨n, t⟩ := p
    rw [hd] at h
    have hf := dnum_fits _ _ _ _ _ (by omega) (by simp) hd
    have hl := dnum_left _ _ _ _ _ hd
    rw [toList_length] at hl
    refine Ev.bind h (Ev.congr (fun k => ?_) (Ev.now _))
    show ((code_Reader_Err.f (B t) 0).bind _) = _
    simp only [code_Reader_Err.f, Option.bind_some, numRes, size_B]
    rw [if_pos trivial, u64_in (by omega) (by omega)]
    by_cases hn : t.length < n
    · rw [if_pos (by omega), if_pos hn]
      rfl
    · rw [if_neg (by omega), if_neg hn, if_pos (by omega), if_pos (by omega), Int.toNat_natCast]
      have e1 : (B t).extract n t.length = B (t.drop n) := by have := extract_drop (B t) n; rwa [size_B, toList_B] at this
      rw [e1, extract_take, toList_B]
      rfl

/-- So many texts. -/
def dtexts : Nat → List UInt8 → Sum Int (List (List UInt8) × List UInt8)
  | 0, l => .inr ([], l)
  | n + 1, l => match dtext l with
    | .inl e => .inl e
    | .inr (x, t) => match dtexts n t with
      | .inl e => .inl e
      | .inr (xs, u) => .inr (x :: xs, u)
def dlist (l : List UInt8) : Sum Int (List (List UInt8) × List UInt8) :=
  match dnum 0 0 l with
  | .inl e => .inl e
  | .inr (n, t) => if t.length < n then .inl 5 else dtexts n t
def listRes : Sum Int (List (List UInt8) × List UInt8) → List ByteArray × ByteArray × Int
  | .inl e => ([], B [], e)
  | .inr (xs, t) => (xs.map B, B t, 0)
def encT (x : List UInt8) : List UInt8 := enc x.length ++ x
def encL (xs : List (List UInt8)) : List UInt8 := enc xs.length ++ (xs.map encT).flatten
theorem dtexts_enc : ∀ (n : Nat) (l : List UInt8) (xs : List (List UInt8)) (t : List UInt8), dtexts n l = .inr (xs, t) → xs.length = n ∧ l = (xs.map encT).flatten ++ t
  | 0, l, xs, t, h => by
    rw [dtexts] at h
    injection h with h
    injection h with h1 h2
    subst h1; subst h2
    simp
  | n + 1, l, xs, t, h => by
    rw [dtexts] at h
    split at h
    · cases h
    · rename_i x u hx
      split at h
      · cases h
      · rename_i ys v hy
        injection h with h
        injection h with h1 h2
        subst h1; subst h2
        obtain ⟨h3, h4⟩ := dtexts_enc n u ys v hy
        have h5 := dtext_enc hx
        refine ⟨by simp [h3], ?_⟩
        rw [h5, h4]
        simp [encT]
theorem dlist_enc {l : List UInt8} {xs : List (List UInt8)} {t : List UInt8} (h : dlist l = .inr (xs, t)) : l = encL xs ++ t := by
  unfold dlist at h
  split at h
  · cases h
  · rename_i n u h1
    split at h
    · cases h
    · obtain ⟨h2, h3⟩ := dtexts_enc _ _ _ _ h
      obtain ⟨m, hm, hl, _⟩ := dnum_enc _ _ _ _ _ h1
      have : xs.length = m := by omega
      rw [encL, hl, h3, this, List.append_assoc]
theorem enc_dtexts : ∀ (xs : List (List UInt8)) (t : List UInt8), (∀ x ∈ xs, x.length < 18446744073709551616) → dtexts xs.length ((xs.map encT).flatten ++ t) = .inr (xs, t)
  | [], t, _ => by simp [dtexts]
  | x :: xs, t, h => by
    rw [List.length_cons, dtexts]
    have e : ((x :: xs).map encT).flatten ++ t = enc x.length ++ x ++ ((xs.map encT).flatten ++ t) := by simp [encT]
    rw [e, enc_dtext x _ (h x (by simp))]
    simp only
    rw [enc_dtexts xs t (fun y hy => h y (by simp [hy]))]
theorem enc_pos (n : Nat) : 0 < (enc n).length := by
  rw [enc]
  split <;> simp
theorem flat_ge (xs : List (List UInt8)) : xs.length ≤ ((xs.map encT).flatten).length := by
  induction xs with
  | nil => simp
  | cons x xs ih =>
    have := enc_pos x.length
    simp only [List.map_cons, List.flatten_cons, List.length_append, List.length_cons, encT] at ih ⊢
    omega
theorem enc_dlist (xs : List (List UInt8)) (t : List UInt8) (hn : xs.length < 18446744073709551616) (h : ∀ x ∈ xs, x.length < 18446744073709551616) : dlist (encL xs ++ t) = .inr (xs, t) := by
  unfold dlist encL
  rw [List.append_assoc, enc_dnum xs.length 0 0 _ (by omega) (by omega) (by omega)]
  simp only [Nat.zero_add, Nat.pow_zero, Nat.mul_one]
  have := flat_ge xs
  rw [if_neg (by rw [List.length_append]; omega), enc_dtexts xs t h]
theorem dtexts_err : ∀ (n : Nat) (l : List UInt8) (e : Int), dtexts n l = .inl e → e = 5 ∨ e = 6
  | 0, l, e, h => by simp [dtexts] at h
  | n + 1, l, e, h => by
    rw [dtexts] at h
    split at h
    · rename_i h1
      injection h with h
      subst h
      exact dtext_err h1
    · split at h
      · rename_i h2
        injection h with h
        subst h
        exact dtexts_err n _ _ h2
      · cases h
theorem dlist_err {l : List UInt8} {e : Int} (h : dlist l = .inl e) : e = 5 ∨ e = 6 := by
  unfold dlist at h
  split at h
  · rename_i h1
    injection h with h
    subst h
    exact dnum_err _ _ _ _ h1
  · split at h
    · injection h with h; omega
    · exact dtexts_err _ _ _ h

theorem rdTexts : ∀ (n : Nat) (s : ByteArray) (i : Nat) (out : List ByteArray), s.size ≤ 8796093022207 → out.length + s.size ≤ 8796093022207 → i + n < 18446744073709551616 →
    Ev (fun k => code_Reader_List.l0 k out ((i + n : Nat) : Int) (i : Int) s 0) (match dtexts n s.toList with | .inl e => ([], B [], e) | .inr (xs, t) => (out ++ xs.map B, B t, 0))
  | 0, s, i, out, hs, ho, hn => by
    rw [dtexts]
    refine Ev.step (f := fun _ => some _) (fun k => ?_) (Ev.now _)
    simp only [code_Reader_List.l0]
    rw [if_neg (by omega)]
    simp
  | n + 1, s, i, out, hs, ho, hn => by
    have h := rdText s (by omega)
    have hw : IntKind.u64.wrap ((i : Int) + 1) = ((i + 1 : Nat) : Int) := by rw [u64_in (by omega) (by omega)]; omega
    rw [dtexts]
    cases hd : dtext s.toList with
    | inl e =>
      rw [hd] at h
      have he := dtext_err hd
      refine Ev.step (f := fun k => (code_Reader_Text.f k s 0).bind fun bt134 => _) (fun k => by simp only [code_Reader_List.l0]; rw [if_pos (by omega)]) ?_
      refine Ev.bind h (Ev.congr (fun k => ?_) (Ev.now _))
      simp only [textRes, code_Reader_Err.f, Option.bind_some]
      rw [if_neg (by omega)]
    | inr p =>
      obtain ⟨x, t⟩ := p
      rw [hd] at h
      have hl := dtext_left hd
      rw [toList_length] at hl
      have ih := rdTexts n (B t) (i + 1) (out ++ [B x]) (by rw [size_B]; omega) (by rw [size_B, List.length_append, List.length_singleton]; omega) (by omega)
      rw [toList_B] at ih
      refine Ev.step (f := fun k => (code_Reader_Text.f k s 0).bind fun bt134 => _) (fun k => by simp only [code_Reader_List.l0]; rw [if_pos (by omega)]) ?_
      refine Ev.bind h (Ev.congr (f := fun k => code_Reader_List.l0 k (out ++ [B x]) ((i + 1 + n : Nat) : Int) ((i + 1 : Nat) : Int) (B t) 0) (fun k => ?_) ?_)
      · simp only [textRes, code_Reader_Err.f, Option.bind_some]
        rw [if_pos trivial, if_pos (by omega), hw]
        congr 1
        omega
      · simp only
        cases hq : dtexts n t with
        | inl e =>
          rw [hq] at ih
          exact ih
        | inr p =>
          rw [hq] at ih
          simpa using ih

theorem rdList (s : ByteArray) (hs : s.size ≤ 8796093022207) : Ev (fun k => code_Reader_List.f k s 0) (listRes (dlist s.toList)) := by
  have h := rdNum s (by omega)
  unfold code_Reader_List.f dlist
  cases hd : dnum 0 0 s.toList with
  | inl e =>
    rw [hd] at h
    have he := dnum_err _ _ _ _ hd
    refine Ev.bind h ?_
    refine Ev.congr (f := fun k => code_Reader_List.j0 k 0 false (B []) e) (fun k => ?_) ?_
    · simp only [numRes, code_Reader_Err.f, Option.bind_some]
      rw [if_neg (by omega)]
    · refine Ev.step (f := fun k => code_Reader_List.j1 k 0 (B []) e) (fun k => by simp only [code_Reader_List.j0]; rw [if_neg (by decide)]) ?_
      refine Ev.step (f := fun k => code_Reader_List.l0 k [] 0 0 (B []) e) (fun k => by simp only [code_Reader_List.j1]) ?_
      exact Ev.step (f := fun k => some _) (fun k => by simp only [code_Reader_List.l0]; rw [if_neg (by omega)]; rfl) (Ev.now _)
  | inr p =>
    obtain ⟨n, t⟩ := p
    rw [hd] at h
    have hf := dnum_fits _ _ _ _ _ (by omega) (by simp) hd
    have hl := dnum_left _ _ _ _ _ hd
    rw [toList_length] at hl
    refine Ev.bind h ?_
    refine Ev.congr (f := fun k => code_Reader_List.j0 k (n : Int) (decide ((n : Int) > (t.length : Int))) (B t) 0) (fun k => ?_) ?_
    · simp only [numRes, code_Reader_Err.f, Option.bind_some, size_B]
      rw [if_pos trivial, u64_in (by omega) (by omega)]
    · by_cases hn : t.length < n
      · rw [decide_eq_true (by omega)]
        simp only [if_pos hn]
        refine Ev.step (f := fun k => code_Reader_List.j1 k (n : Int) (B []) 5) (fun k => by simp only [code_Reader_List.j0]; rw [if_pos trivial]; rfl) ?_
        refine Ev.step (f := fun k => code_Reader_List.l0 k [] (n : Int) 0 (B []) 5) (fun k => by simp only [code_Reader_List.j1]) ?_
        have hb : Ev (fun k => code_Reader_Text.f k (B []) 5) (B [], B [], 5) := by
          unfold code_Reader_Text.f
          refine Ev.bind (rdNum_bad (B []) 5 (by decide)) (Ev.congr (fun k => ?_) (Ev.now _))
          rfl
        refine Ev.step (f := fun k => (code_Reader_Text.f k (B []) 5).bind fun bt134 => _) (fun k => by simp only [code_Reader_List.l0]; rw [if_pos (by omega)]) ?_
        exact Ev.bind hb (Ev.congr (fun k => rfl) (Ev.now _))
      · rw [decide_eq_false (by omega)]
        simp only [if_neg hn]
        refine Ev.step (f := fun k => code_Reader_List.j1 k (n : Int) (B t) 0) (fun k => by simp only [code_Reader_List.j0]; rw [if_neg (by decide)]) ?_
        refine Ev.step (f := fun k => code_Reader_List.l0 k [] (n : Int) 0 (B t) 0) (fun k => by simp only [code_Reader_List.j1]) ?_
        have := rdTexts n (B t) 0 [] (by rw [size_B]; omega) (by simp; omega) (by omega)
        rw [toList_B, Nat.zero_add] at this
        have e : (match dtexts n t with | .inl e => ([], B [], e) | .inr (xs, t) => ([] ++ xs.map B, B t, 0)) = listRes (dtexts n t) := by
          cases dtexts n t <;> rfl
        rw [← e]
        exact this

end Go.Proofs.YtigpnhgheameoaaDoor.Plain
