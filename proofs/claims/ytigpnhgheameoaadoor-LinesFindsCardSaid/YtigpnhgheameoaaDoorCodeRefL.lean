/- Layer 1 in plain words: what the program and the reference lay; what the reference reads. -/
import Derived.Test.YtigpnhgheameoaaDoorCodeL
import Derived.Test.YtigpnhgheameoaaDoorG1
set_option linter.unusedVariables false
namespace Go.Proofs.YtigpnhgheameoaaDoor.Plain
open Go.RowKit Go.Proofs.YtigpnhgheameoaaDoor.G Go.Proofs.YtigpnhgheameoaaDoorW.PrintWords Go.Proofs.YtigpnhgheameoaaDoorW.PrintLast Go.Proofs.YtigpnhgheameoaaDoorW.PrintMore

theorem or128 (y : Nat) (hy : y < 256) : Go.bits .or .u8 (y : Int) 128 = ((128 + y % 128 : Nat) : Int) := by
  have h := u8_or_nat y 128 hy (by omega)
  have e : ∀ y, y < 256 → y ||| 128 = 128 + y % 128 := by decide +kernel
  rw [e y hy] at h
  exact h
theorem code_num_loop : ∀ (d n : Nat) (out : List Int), n < 128 ^ d → 0 < d → out.length + d < 140737488355328 → Ev (fun k => code_Num.l0 k (n : Int) out) (B ((out.map fun x => UInt8.ofNat x.toNat) ++ enc n))
  | 0, n, out, hn, hd, ho => absurd hd (by omega)
  | d + 1, n, out, hn, hd, ho => by
    by_cases h : n < 128
    · refine Ev.step (f := fun k => some _) (fun k => ?_) (Ev.now _)
      simp only [code_Num.l0]
      rw [if_neg (by omega), if_pos (by omega), strOfNums_B, enc_lt h]
      have : ((n : Int) % 256).toNat = n := by omega
      simp [this]
    · have hd0 : 0 < d := by
        rcases Nat.eq_zero_or_pos d with rfl | h0
        · simp at hn; omega
        · exact h0
      have hv : Go.bits .or .u8 ((n : Int) % 256) 128 = ((128 + n % 128 : Nat) : Int) := by
        have := or128 (n % 256) (by omega)
        rw [show n % 256 % 128 = n % 128 by omega] at this
        rw [← this]
        congr 1
      have hq : (n : Int) / 128 = ((n / 128 : Nat) : Int) := by omega
      have hn' : n / 128 < 128 ^ d := by
        rw [Nat.pow_succ] at hn
        exact Nat.div_lt_of_lt_mul (by rw [Nat.mul_comm]; exact hn)
      have ih := code_num_loop d (n / 128) (out ++ [((128 + n % 128 : Nat) : Int)]) hn' hd0 (by simp; omega)
      rw [List.map_append, List.append_assoc] at ih
      have e : (List.map (fun x : Int => UInt8.ofNat x.toNat) [((128 + n % 128 : Nat) : Int)]) ++ enc (n / 128) = enc n := by
        rw [enc_ge h]
        simp only [List.map_cons, List.map_nil, Int.toNat_natCast, List.singleton_append]
      rw [e] at ih
      refine Ev.step (fun k => ?_) ih
      simp only [code_Num.l0]
      rw [if_pos (by omega), if_pos (by omega), hv, hq]
theorem code_num (n : Nat) (hn : n < 18446744073709551616) : Ev (fun k => code_Num.f k (n : Int)) (B (enc n)) := by
  have := code_num_loop 10 n [] (by omega) (by omega) (by simp)
  simpa [code_Num.f] using this
theorem enc_len : ∀ (d n : Nat), n < 128 ^ d → 0 < d → (enc n).length ≤ d
  | 0, n, hn, hd => absurd hd (by omega)
  | d + 1, n, hn, hd => by
    by_cases h : n < 128
    · rw [enc_lt h]; simp
    · have hd0 : 0 < d := by
        rcases Nat.eq_zero_or_pos d with rfl | h0
        · simp at hn; omega
        · exact h0
      have hn' : n / 128 < 128 ^ d := by
        rw [Nat.pow_succ] at hn
        exact Nat.div_lt_of_lt_mul (by rw [Nat.mul_comm]; exact hn)
      rw [enc_ge h]
      have := enc_len d (n / 128) hn' hd0
      simp
      omega
theorem enc_len10 {n : Nat} (hn : n < 18446744073709551616) : (enc n).length ≤ 10 := enc_len 10 n (by omega) (by omega)
theorem code_text (s : ByteArray) (hs : s.size ≤ 9223372036854770000) : Ev (fun k => code_Text.f k s) (B (encT s.toList)) := by
  unfold code_Text.f
  have := enc_len10 (n := s.size) (by omega)
  rw [u64_in (by omega) (by omega)]
  refine Ev.bind (code_num s.size (by omega)) (Ev.pos (by rw [size_B]; omega) ?_)
  have e : B (enc s.size) ++ s = B (encT s.toList) := ext_toList (by rw [toList_append]; simp [encT, toList_length])
  rw [e]
  exact Ev.now _
/-- How long texts are, laid. -/
def total : List ByteArray → Nat
  | [] => 0
  | s :: l => s.size + 10 + total l
theorem encT_len {x : List UInt8} (hx : x.length < 18446744073709551616) : (encT x).length ≤ x.length + 10 := by
  rw [encT, List.length_append]
  have := enc_len10 hx
  omega
theorem code_list_go : ∀ (l : List ByteArray) (out : List Int), out.length + total l ≤ 140737488355328 → Ev (fun k => code_List.go k l out) (B ((out.map fun x => UInt8.ofNat x.toNat) ++ ((l.map ByteArray.toList).map encT).flatten))
  | [], out, _ => by
    refine Ev.congr (fun k => ?_) (Ev.now _)
    rw [code_List.go, strOfNums_B]
    simp
  | s :: l, out, h => by
    rw [total] at h
    have hb : (bytesOf (B (encT s.toList))).length ≤ s.size + 10 := by
      rw [bytesOf_length, size_B]
      have := encT_len (x := s.toList) (by rw [toList_length]; omega)
      rw [toList_length] at this
      exact this
    have ih := code_list_go l (out ++ bytesOf (B (encT s.toList))) (by rw [List.length_append]; omega)
    have e : (bytesOf (B (encT s.toList))).map (fun x : Int => UInt8.ofNat x.toNat) = encT s.toList := by
      have h1 := strOfNums_bytesOf (encT s.toList)
      rw [strOfNums_B] at h1
      have h2 := B_inj h1
      rw [bytesOf_eq, toList_B]
      exact h2
    rw [List.map_append, e, List.append_assoc] at ih
    unfold code_List.go
    refine Ev.bind (code_text s (by omega)) (Ev.pos ?_ ?_)
    · rw [bytesOf_length] at hb
      omega
    · simpa using ih
theorem code_list (l : List ByteArray) (hl : l.length < 18446744073709551616) (ht : total l + 10 ≤ 140737488355328) : Ev (fun k => code_List.f k l) (B (encL (l.map ByteArray.toList))) := by
  unfold code_List.f
  have h10 := enc_len10 (n := l.length) hl
  rw [u64_in (by omega) (by omega)]
  refine Ev.bind (code_num l.length hl) (Ev.pos (by rw [size_B]; omega) ?_)
  have := code_list_go l (bytesOf (B (enc l.length))) (by rw [bytesOf_length, size_B]; omega)
  have e : (bytesOf (B (enc l.length))).map (fun x : Int => UInt8.ofNat x.toNat) = enc l.length := by
    have h1 := strOfNums_bytesOf (enc l.length)
    rw [strOfNums_B] at h1
    have h2 := B_inj h1
    rw [bytesOf_eq, toList_B]
    exact h2
  rw [e] at this
  simpa [encL] using this

/-! ### the reference lays -/
theorem ref_num : ∀ (d n : Nat), n < 128 ^ d → 0 < d → d ≤ 100 → n < 18446744073709551616 → Ev (fun k => rafterref01_Num.f k (n : Int)) (B (enc n))
  | 0, n, hn, hd, _, _ => absurd hd (by omega)
  | d + 1, n, hn, hd, h100, hf => by
    by_cases h : n < 128
    · refine Ev.step (f := fun k => some _) (fun k => ?_) (Ev.now _)
      simp only [rafterref01_Num.f]
      rw [if_pos (by omega), strOfNums_B, enc_lt h]
      have : ((n : Int) % 256).toNat = n := by omega
      simp [this]
    · have hd0 : 0 < d := by
        rcases Nat.eq_zero_or_pos d with rfl | h0
        · simp at hn; omega
        · exact h0
      have hn' : n / 128 < 128 ^ d := by
        rw [Nat.pow_succ] at hn
        exact Nat.div_lt_of_lt_mul (by rw [Nat.mul_comm]; exact hn)
      have hq : IntKind.u64.wrap (Int.tdiv (n : Int) 128) = ((n / 128 : Nat) : Int) := by
        rw [Int.tdiv_eq_ediv_of_nonneg (by omega), u64_in (by omega) (by omega)]
        omega
      have hm : (IntKind.u64.wrap (128 + Int.tmod (n : Int) 128)) % 256 = ((128 + n % 128 : Nat) : Int) := by
        rw [Int.tmod_eq_emod_of_nonneg (by omega), u64_in (by omega) (by omega)]
        omega
      have ih := ref_num d (n / 128) hn' hd0 (by omega) (by omega)
      have hlen := enc_len d (n / 128) hn' hd0
      refine Ev.step (f := fun k => (rafterref01_Num.f k ((n / 128 : Nat) : Int)).bind fun t => if (strOfNums [((128 + n % 128 : Nat) : Int)]).size + t.size ≤ 9223372036854775807 then some (strOfNums [((128 + n % 128 : Nat) : Int)] ++ t) else none) (fun k => ?_) ?_
      · simp only [rafterref01_Num.f]
        rw [if_neg (by omega), hm, hq]
        rfl
      · refine Ev.bind ih (Ev.pos ?_ ?_)
        · rw [strOfNums_B, size_B, size_B]
          simp
          omega
        · rw [strOfNums_B, B_append, enc_ge h]
          exact Ev.now _
theorem ref_num' (n : Nat) (hn : n < 18446744073709551616) : Ev (fun k => rafterref01_Num.f k (n : Int)) (B (enc n)) := ref_num 10 n (by omega) (by omega) (by omega) hn
theorem ref_text (s : ByteArray) (hs : s.size ≤ 9223372036854770000) : Ev (fun k => rafterref01_Text.f k s) (B (encT s.toList)) := by
  unfold rafterref01_Text.f
  have := enc_len10 (n := s.size) (by omega)
  rw [u64_in (by omega) (by omega)]
  refine Ev.bind (ref_num' s.size (by omega)) (Ev.pos (by rw [size_B]; omega) ?_)
  have e : B (enc s.size) ++ s = B (encT s.toList) := ext_toList (by rw [toList_append]; simp [encT, toList_length])
  rw [e]
  exact Ev.now _
theorem rdOf_cons {l : List ByteArray} {i : Nat} {s : ByteArray} {t : List ByteArray} (h : l.drop i = s :: t) : rdOf ByteArray.empty l (i : Int) = s := by
  have : l[i]? = some s := by
    have := congrArg (fun l => l[0]?) h
    simpa using this
  rw [rdOf, Int.toNat_natCast, List.getD_eq_getElem?_getD, this]
  rfl
theorem drop_cons_lt {α : Type} {l : List α} {i : Nat} {s : α} {t : List α} (h : l.drop i = s :: t) : i < l.length := by
  rcases Nat.lt_or_ge i l.length with h' | h'
  · exact h'
  · rw [List.drop_eq_nil_of_le h'] at h; cases h
theorem drop_cons_succ {α : Type} {l : List α} {i : Nat} {s : α} {t : List α} (h : l.drop i = s :: t) : l.drop (i + 1) = t := by
  rw [← List.drop_drop, h]
  rfl
theorem ref_list_loop (l : List ByteArray) (hl : l.length ≤ 9223372036854775806) : ∀ (t : List ByteArray) (i : Nat) (out : ByteArray), l.drop i = t → out.size + total t ≤ 9223372036854770000 → Ev (fun k => rafterref01_List.l0 k l out (i : Int)) (B (out.toList ++ ((t.map ByteArray.toList).map encT).flatten))
  | [], i, out, ht, ho => by
    have hge := List.drop_eq_nil_iff.1 ht
    refine Ev.step (f := fun k => some _) (fun k => ?_) (Ev.now _)
    simp only [rafterref01_List.l0]
    rw [if_neg (by omega)]
    simp
  | s :: t, i, out, ht, ho => by
    have hlt := drop_cons_lt ht
    rw [total] at ho
    have hw : wrap64 ((i : Int) + 1) = ((i + 1 : Nat) : Int) := by rw [wrap64_in (by omega) (by omega)]; omega
    have hT := encT_len (x := s.toList) (by rw [toList_length]; omega)
    rw [toList_length] at hT
    have ih := ref_list_loop l hl t (i + 1) (out ++ B (encT s.toList)) (drop_cons_succ ht) (by rw [ByteArray.size_append, size_B]; omega)
    refine Ev.step (f := fun k => (rafterref01_Text.f k s).bind fun t181 => (if out.size + t181.size ≤ 9223372036854775807 then (rafterref01_List.l0 k l (out ++ t181) ((i + 1 : Nat) : Int)) else (none))) (fun k => ?_) ?_
    · simp only [rafterref01_List.l0]
      rw [if_pos (by omega), if_pos (by omega), rdOf_cons ht, hw]
    · refine Ev.bind (ref_text s (by omega)) (Ev.pos (by rw [size_B]; omega) ?_)
      rw [toList_append] at ih
      simpa using ih
theorem ref_list (l : List ByteArray) (hl : l.length ≤ 9223372036854775806) (ht : total l + 10 ≤ 9223372036854770000) : Ev (fun k => rafterref01_List.f k l) (B (encL (l.map ByteArray.toList))) := by
  unfold rafterref01_List.f
  have h10 := enc_len10 (n := l.length) (by omega)
  rw [u64_in (by omega) (by omega)]
  refine Ev.bind (ref_num' l.length (by omega)) ?_
  have := ref_list_loop l hl l 0 (B (enc l.length)) (by simp) (by rw [size_B]; omega)
  simpa [encL] using this
theorem ref_same_loop (a b : List ByteArray) (hl : a.length ≤ 9223372036854775806) (hab : a.length = b.length) : ∀ (t u : List ByteArray) (i : Nat), a.drop i = t → b.drop i = u → Ev (fun k => rafterref01_Same.l0 k a b (i : Int)) (decide (t = u))
  | [], u, i, ht, hu => by
    have hge := List.drop_eq_nil_iff.1 ht
    have : u = [] := by rw [← hu]; exact List.drop_eq_nil_iff.2 (by omega)
    subst this
    refine Ev.step (f := fun k => some true) (fun k => ?_) (Ev.now _)
    simp only [rafterref01_Same.l0]
    rw [if_neg (by omega)]
  | x :: t, [], i, ht, hu => by
    have hlt := drop_cons_lt ht
    have hge := List.drop_eq_nil_iff.1 hu
    omega
  | x :: t, y :: u, i, ht, hu => by
    have hlt := drop_cons_lt ht
    have hlt' := drop_cons_lt hu
    have hw : wrap64 ((i : Int) + 1) = ((i + 1 : Nat) : Int) := by rw [wrap64_in (by omega) (by omega)]; omega
    by_cases h : x = y
    · subst h
      have ih := ref_same_loop a b hl hab t u (i + 1) (drop_cons_succ ht) (drop_cons_succ hu)
      have e : decide (x :: t = x :: u) = decide (t = u) := by simp
      rw [e]
      refine Ev.step (fun k => ?_) ih
      simp only [rafterref01_Same.l0]
      rw [if_pos (by omega), if_pos (by omega), if_pos (by omega), rdOf_cons ht, rdOf_cons hu, if_pos rfl, hw]
    · have e : decide (x :: t = y :: u) = false := by simp [h]
      rw [e]
      refine Ev.step (f := fun k => some false) (fun k => ?_) (Ev.now _)
      simp only [rafterref01_Same.l0]
      rw [if_pos (by omega), if_pos (by omega), if_pos (by omega), rdOf_cons ht, rdOf_cons hu, if_neg (fun e => h (ext_toList e))]
theorem ref_same (a b : List ByteArray) (hl : a.length ≤ 9223372036854775806) : Ev (fun k => rafterref01_Same.f k a b) (decide (a = b)) := by
  unfold rafterref01_Same.f
  by_cases h : a.length = b.length
  · exact Ev.pos (by omega) (ref_same_loop a b hl h a b 0 (by simp) (by simp))
  · have e : decide (a = b) = false := decide_eq_false (fun e => h (by rw [e]))
    rw [e]
    exact Ev.neg (by omega) (Ev.now _)

/-! ### the reference reads -/
end Go.Proofs.YtigpnhgheameoaaDoor.Plain
