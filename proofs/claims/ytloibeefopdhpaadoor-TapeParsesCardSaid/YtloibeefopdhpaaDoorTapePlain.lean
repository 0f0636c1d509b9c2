-- Words of the kit's print (as it laid them for this seat); what this claim does not use is left out.
import Derived.Test.YtloibeefopdhpaaDoorRefMask
import Derived.Test.YtloibeefopdhpaaDoorSplit
import Derived.Test.YtloibeefopdhpaaDoorG18
set_option linter.unusedVariables false
namespace Go.Proofs.YtloibeefopdhpaaDoor.Plain
open Go.RowKit Go.Proofs.YtloibeefopdhpaaDoor.G Go.Proofs.YtloibeefopdhpaaDoorW.PrintWords Go.Proofs.YtloibeefopdhpaaDoorW.PrintLast Go.Proofs.YtloibeefopdhpaaDoorW.PrintMore
theorem of256 {α : Type} {f g : Nat → α} (h : (List.range 256).map f = (List.range 256).map g) (n : Nat) (hn : n < 256) : f n = g n := by
  have := congrArg (fun l => l[n]?) h
  simpa [List.getElem?_map, List.getElem?_range hn] using this
def ints8 (l : List UInt8) : List Int := l.map fun b => (b.toNat : Int)
theorem ints8_length (l : List UInt8) : (ints8 l).length = l.length := List.length_map _
theorem ints8_mem {l : List UInt8} {x : Int} (h : x ∈ ints8 l) : 0 ≤ x ∧ x ≤ 255 := by
  obtain ⟨c, _, rfl⟩ := List.mem_map.1 h
  have := c.toNat_lt
  omega
theorem ints8_nil {l : List UInt8} : ints8 l = [] ↔ l = [] := List.map_eq_nil_iff
def maskB (l : List UInt8) : List UInt8 := if l = [] then [45] else l.flatMap fun c => [hexd (c.toNat / 16), hexd (c.toNat % 16)]
theorem maskI_ints8 (l : List UInt8) : maskI (ints8 l) = l.flatMap fun c => [hexd (c.toNat / 16), hexd (c.toNat % 16)] := by
  rw [maskI, ints8, List.flatMap_map]
  rfl
theorem refMask_f (l : List UInt8) (hl : l.length ≤ 1000000000) : rafterref40_Mask.f (ints8 l) = some (B (maskB l)) := by
  rw [rafterref40_Mask.f, if_pos ⟨fun x hx => ints8_mem hx, by rw [ints8_length]; exact hl⟩, maskI_ints8, maskB]
  by_cases h : l = []
  · rw [if_pos h, if_pos (ints8_nil.2 h)]; rfl
  · rw [if_neg h, if_neg (fun e => h (ints8_nil.1 e))]
theorem and15 (n : Nat) (hn : n < 256) : Go.bits .and .u8 (n : Int) 15 = ((n % 16 : Nat) : Int) :=
  of256 (f := fun n => Go.bits .and .u8 (n : Int) 15) (g := fun n => ((n % 16 : Nat) : Int)) (by kernel_rfl) n hn
theorem or_two (x y : Nat) (hx : x < 16) (hy : y < 16) : Go.bits .or .u8 (((x : Int) * 16) % 256) (y : Int) = ((UInt8.ofNat (16 * x + y)).toNat : Int) := by
  have h := of256 (f := fun n => Go.bits .or .u8 ((((n / 16 : Nat) : Int) * 16) % 256) ((n % 16 : Nat) : Int)) (g := fun n => ((UInt8.ofNat n).toNat : Int)) (by kernel_rfl) (16 * x + y) (by omega)
  rwa [show (16 * x + y) / 16 = x by omega, show (16 * x + y) % 16 = y by omega] at h
theorem rd_ints {l : List UInt8} {i : Nat} {c : UInt8} {t : List UInt8} (h : l.drop i = c :: t) : rd (ints8 l) (i : Int) = (c.toNat : Int) := by
  have hi : i < l.length := by
    rcases Nat.lt_or_ge i l.length with h' | h'
    · exact h'
    · rw [List.drop_eq_nil_of_le h'] at h; cases h
  have e : l[i] = c := by
    rw [List.drop_eq_getElem_cons hi] at h
    exact (List.cons.inj h).1
  simp [rd, ints8, hi, e]
theorem drop_ltL {α : Type} {l : List α} {i : Nat} {c : α} {t : List α} (h : l.drop i = c :: t) : i < l.length := by
  rcases Nat.lt_or_ge i l.length with h' | h'
  · exact h'
  · rw [List.drop_eq_nil_of_le h'] at h; cases h
theorem drop_succL {α : Type} {l : List α} {i : Nat} {c : α} {t : List α} (h : l.drop i = c :: t) : l.drop (i + 1) = t := by
  rw [← List.drop_drop, h]
  rfl
theorem mask_loop (l : List UInt8) (hl : l.length ≤ 1000000) : ∀ (t : List UInt8) (i : Nat) (out : List UInt8), l.drop i = t → out.length ≤ 2 * i →
    Ev (fun k => tape_Mask.l0 k (B out) (ints8 l) (l.length : Int) (i : Int)) (B (out ++ t.flatMap fun c => [hexd (c.toNat / 16), hexd (c.toNat % 16)]))
  | [], i, out, ht, ho => by
    have hge := List.drop_eq_nil_iff.1 ht
    refine Ev.step (f := fun k => some _) (fun k => ?_) (Ev.now _)
    simp only [tape_Mask.l0]
    rw [if_neg (by omega)]
    simp
  | c :: t, i, out, ht, ho => by
    have hlt := drop_ltL ht
    have hw : wrap64 ((i : Int) + 1) = ((i + 1 : Nat) : Int) := by rw [wrap64_in (by omega) (by omega)]; omega
    have ih := mask_loop l hl t (i + 1) (out ++ [hexd (c.toNat / 16), hexd (c.toNat % 16)]) (drop_succL ht) (by rw [List.length_append]; simp; omega)
    rw [List.append_assoc, ← List.flatMap_cons (f := fun c : UInt8 => [hexd (c.toNat / 16), hexd (c.toNat % 16)]), ← B_append] at ih
    refine Ev.step (fun k => ?_) ih
    have hc := c.toNat_lt
    have h2 := two_hex c.toNat hc
    have hz : (B out).size = out.length := size_B out
    have hs2 : (hexM.extract (c.toNat / 16) (c.toNat / 16 + 1)).size + (hexM.extract (c.toNat % 16) (c.toNat % 16 + 1)).size = 2 := by
      rw [← ByteArray.size_append, h2, size_B]; rfl
    simp only [tape_Mask.l0]
    rw [if_pos (by omega), if_pos (by omega), if_pos (by rw [ints8_length]; omega), rd_ints ht, and15 _ hc, hw,
      show ((c.toNat : Int) / 16) = ((c.toNat / 16 : Nat) : Int) by omega, show (((c.toNat / 16 : Nat) : Int) + 1) % 256 = ((c.toNat / 16 + 1 : Nat) : Int) by omega,
      show (((c.toNat % 16 : Nat) : Int) + 1) % 256 = ((c.toNat % 16 + 1 : Nat) : Int) by omega, Int.toNat_natCast, Int.toNat_natCast, Int.toNat_natCast, Int.toNat_natCast,
      if_pos (by omega), if_pos (by omega), if_pos (by omega), if_pos (by omega), if_pos (by omega), if_pos (by omega)]
    rw [show (⟨#[48, 49, 50, 51, 52, 53, 54, 55, 56, 57, 97, 98, 99, 100, 101, 102]⟩ : ByteArray) = hexM from rfl, h2, if_pos (by omega), if_pos (by rw [hz, size_B]; simp; omega)]
theorem mask_ev (l : List UInt8) (hl : l.length ≤ 1000000) : Ev (fun k => tape_Mask.f k (ints8 l)) (B (maskB l)) := by
  unfold tape_Mask.f maskB
  by_cases h : l = []
  · subst h
    exact Ev.pos rfl (Ev.now _)
  · have hp := List.length_pos_iff.2 h
    refine Ev.neg (by rw [ints8_length]; omega) ?_
    have := mask_loop l hl l 0 [] rfl (by simp)
    rw [if_neg h, ints8_length]
    exact this
theorem tdigit_f (c : UInt8) : tape_digit.f (c.toNat : Int) = some ((digN c : Nat) : Int) := by
  have hd := digN_lt c
  have he : (c.toNat : Int).toNat.toUInt8 = c := by simp
  unfold tape_digit.f
  rw [strings_IndexByte.f, Option.bind_some, he, show (⟨#[48, 49, 50, 51, 52, 53, 54, 55, 56, 57, 97, 98, 99, 100, 101, 102]⟩ : ByteArray).toList = hexL from toList_B hexL]
  congr 1
  unfold digN mx at *
  split <;> omega
def unmL : List UInt8 → List UInt8
  | a :: b :: t => UInt8.ofNat (16 * digN a + digN b) :: unmL t
  | _ => []
theorem unmL_length : ∀ (n : Nat) (l : List UInt8), l.length ≤ n → (unmL l).length ≤ l.length
  | 0, l, h => by
    obtain rfl : l = [] := List.length_eq_zero_iff.1 (by omega)
    simp [unmL]
  | n + 1, [], h => by simp [unmL]
  | n + 1, [a], h => by simp [unmL]
  | n + 1, a :: b :: t, h => by
    simp only [List.length_cons] at h
    have := unmL_length n t (by omega)
    simp only [unmL, List.length_cons]
    omega
def unmR (s : List UInt8) : List Int × Int := if maskB (unmL s) = s then (ints8 (unmL s), 0) else ([], 17)
theorem unmask_loop (s : ByteArray) (hs : s.size ≤ 100000) : ∀ (n : Nat) (t : List UInt8) (i : Nat) (acc : List UInt8), t.length ≤ n → s.toList.drop i = t → acc.length ≤ i → i ≤ s.size →
    Ev (fun k => tape_Unmask.l0 k s (ints8 acc) (i : Int)) (if maskB (acc ++ unmL t) = s.toList then (ints8 (acc ++ unmL t), 0) else ([], 17)) := by
  intro n
  induction n with
  | zero =>
    intro t i acc hn ht ha hi
    obtain rfl : t = [] := List.length_eq_zero_iff.1 (by omega)
    have hge := drop_nil ht
    have hw : wrap64 ((i : Int) + 1) = ((i + 1 : Nat) : Int) := by rw [wrap64_in (by omega) (by omega)]; omega
    refine Ev.step (f := fun k => (tape_Mask.f k (ints8 acc)).bind fun t571 => if t571.toList = s.toList then some (ints8 acc, (0 : Int)) else some (([] : List Int), (17 : Int))) (fun k => ?_) ?_
    · simp only [tape_Unmask.l0]
      rw [hw, if_neg (by omega)]
    · refine Ev.bind (mask_ev acc (by omega)) ?_
      simp only [toList_B, unmL, List.append_nil]
      by_cases h : maskB acc = s.toList
      · simp only [if_pos h]; exact Ev.now _
      · simp only [if_neg h]; exact Ev.now _
  | succ n ih =>
    intro t i acc hn ht ha hi
    have hlen : s.size = i + t.length := by
      have := congrArg List.length ht
      rw [List.length_drop, toList_length] at this
      omega
    have hw : wrap64 ((i : Int) + 1) = ((i + 1 : Nat) : Int) := by rw [wrap64_in (by omega) (by omega)]; omega
    have hw2 : wrap64 ((i : Int) + 2) = ((i + 2 : Nat) : Int) := by rw [wrap64_in (by omega) (by omega)]; omega
    have done : ∀ t : List UInt8, unmL t = [] → ¬ i + 1 < s.size → Ev (fun k => tape_Unmask.l0 k s (ints8 acc) (i : Int)) (if maskB (acc ++ unmL t) = s.toList then (ints8 (acc ++ unmL t), 0) else ([], 17)) := by
      intro t ht' hge
      refine Ev.step (f := fun k => (tape_Mask.f k (ints8 acc)).bind fun t571 => if t571.toList = s.toList then some (ints8 acc, (0 : Int)) else some (([] : List Int), (17 : Int))) (fun k => ?_) ?_
      · simp only [tape_Unmask.l0]
        rw [hw, if_neg (by omega)]
      · refine Ev.bind (mask_ev acc (by omega)) ?_
        simp only [toList_B, ht', List.append_nil]
        by_cases h : maskB acc = s.toList
        · simp only [if_pos h]; exact Ev.now _
        · simp only [if_neg h]; exact Ev.now _
    match t, hn, ht, hlen with
    | [], hn, ht, hlen => exact done [] rfl (by simp at hlen; omega)
    | [a], hn, ht, hlen => exact done [a] rfl (by simp at hlen; omega)
    | a :: b :: t, hn, ht, hlen =>
      simp only [List.length_cons] at hn hlen
      have ht2 := drop_succ (drop_succ ht)
      have hr := ih t (i + 2) (acc ++ [UInt8.ofNat (16 * digN a + digN b)]) (by omega) ht2 (by rw [List.length_append]; simp; omega) (by omega)
      rw [List.append_assoc] at hr
      refine Ev.step (fun k => ?_) hr
      have hb1 := bt_cons ht
      have hb2 := bt_cons (drop_succ ht)
      simp only [tape_Unmask.l0]
      rw [hw, if_pos (by omega), if_pos (by omega), if_pos (by omega), hb1, hb2, tdigit_f, tdigit_f, Option.bind_some, if_pos (by omega), Option.bind_some, if_pos (by rw [ints8_length]; omega), hw2, or_two _ _ (digN_lt a) (digN_lt b)]
      simp [ints8]
theorem unmask_ev (s : ByteArray) (hs : s.size ≤ 100000) : Ev (fun k => tape_Unmask.f k s) (unmR s.toList) :=
  unmask_loop s hs s.toList.length s.toList 0 [] (Nat.le_refl _) rfl (Nat.le_refl _) (Nat.zero_le _)
def noth (x : List UInt8) : Bool := match x with | [] => true | c :: _ => c == 35
def plainS : List (List UInt8) → List UInt8
  | [] => []
  | [x] => x
  | x :: y :: l => (if noth x = true then [] else x ++ [10]) ++ plainS (y :: l)
theorem plainS_cons (x : List UInt8) {l : List (List UInt8)} (h : l ≠ []) : plainS (x :: l) = (if noth x = true then [] else x ++ [10]) ++ plainS l := by
  cases l with
  | nil => exact absurd rfl h
  | cons y l => rfl
def flatP (l : List (List UInt8)) : List UInt8 := l.flatMap fun x => if noth x = true then [] else x ++ [10]
def sumP (l : List (List UInt8)) : Nat := (l.map fun x => x.length + 1).sum
theorem split_last : ∀ l : List (List UInt8), l ≠ [] → ∃ L z, l = L ++ [z] ∧ plainS l = flatP L ++ z ∧ sumP L + z.length = (joinL 10 l).length
  | [], h => absurd rfl h
  | [x], _ => ⟨[], x, rfl, rfl, by simp [sumP, joinL]⟩
  | x :: y :: l, _ => by
    obtain ⟨L, z, h1, h2, h3⟩ := split_last (y :: l) (by simp)
    refine ⟨x :: L, z, by rw [h1]; rfl, ?_, ?_⟩
    · rw [plainS_cons x (by simp), h2, flatP, flatP, List.flatMap_cons, List.append_assoc]
    · rw [joinL_cons 10 x (by simp), List.length_append, List.length_cons, ← h3, sumP, sumP, List.map_cons, List.sum_cons]
      omega
theorem nothing_f (x : List UInt8) : tape_nothing.f (B x) = some (noth x) := by
  unfold tape_nothing.f
  rw [toList_B, size_B]
  cases x with
  | nil => rfl
  | cons c x =>
    rw [if_neg (by simp), if_pos (by rw [List.length_cons]; omega)]
    have : bt (B (c :: x)) ((0 : Nat) : Int) = (c.toNat : Int) := bt_cons (s := B (c :: x)) (i := 0) (by rw [toList_B]; rfl)
    rw [show (0 : Int) = ((0 : Nat) : Int) from rfl, this]
    congr 1
    show ((c.toNat : Int) == 35) = (c == 35)
    by_cases h : c = 35
    · subst h; rfl
    · rw [beq_eq_false_iff_ne.2 h, beq_eq_false_iff_ne.2]
      intro e
      exact h (UInt8.toNat_inj.1 (by show c.toNat = 35; omega))
theorem refPlain_loop (s : ByteArray) (hs : s.size ≤ 100000) : ∀ (t cur : List UInt8) (a : Nat) (out : List UInt8), s.toList.drop a = cur ++ t → (10 : UInt8) ∉ cur → out.length ≤ a → a ≤ s.size →
    Ev (fun k => rafterref40_Plain.l0 k s (B out) (a : Int) ((a + cur.length : Nat) : Int)) (B (out ++ plainS (splitL 10 (cur ++ t))))
  | [], cur, a, out, ht, hc, ho, ha => by
    have hlen : s.size = a + cur.length := by
      have := congrArg List.length ht
      rw [List.length_drop, toList_length, List.append_nil] at this
      omega
    rw [List.append_nil] at ht
    refine Ev.step (f := fun k => some _) (fun k => ?_) (Ev.now _)
    simp only [rafterref40_Plain.l0]
    rw [if_neg (by omega), if_pos (by omega), if_pos (by omega), Int.toNat_natCast, extract_drop, ht, if_pos (by rw [size_B, size_B]; omega), B_append, List.append_nil, splitL_miss hc]
    rfl
  | c :: t, cur, a, out, ht, hc, ho, ha => by
    have hlen : s.size = a + cur.length + 1 + t.length := by
      have := congrArg List.length ht
      rw [List.length_drop, toList_length, List.length_append, List.length_cons] at this
      omega
    have hw : wrap64 (((a + cur.length : Nat) : Int) + 1) = ((a + cur.length + 1 : Nat) : Int) := by rw [wrap64_in (by omega) (by omega)]; omega
    have hd : s.toList.drop (a + cur.length) = c :: t := by rw [← List.drop_drop, ht, List.drop_left]
    have hb := bt_cons hd
    by_cases h10 : c = 10
    · subst h10
      have ht' := drop_succ hd
      rw [splitL_hit hc, plainS_cons _ (splitL_ne 10 _)]
      have hc10 : (((10 : UInt8).toNat : Nat) : Int) = 10 := rfl
      cases cur with
      | nil =>
        have ih := refPlain_loop s hs t [] (a + 1) out (by simpa using ht') (by simp) (by omega) (by omega)
        simp only [List.length_nil, Nat.add_zero, List.nil_append] at *
        rw [show (if noth [] = true then ([] : List UInt8) else [10]) = [] from rfl, List.nil_append]
        refine Ev.step (fun k => ?_) ih
        simp only [rafterref40_Plain.l0]
        rw [if_pos (by omega), if_pos (by omega), hb, if_pos hc10, if_neg (by omega), hw]
      | cons e cur =>
        have hb0 : bt s (a : Int) = (e.toNat : Int) := bt_cons (by rw [ht]; rfl)
        by_cases he : e = 35
        · have ih := refPlain_loop s hs t [] (a + (e :: cur).length + 1) out (by simpa using ht') (by simp) (by simp; omega) (by omega)
          rw [show noth (e :: cur) = true by simp [noth, he], if_pos rfl, List.nil_append]
          simp only [List.length_nil, Nat.add_zero, List.nil_append] at ih
          refine Ev.step (fun k => ?_) ih
          simp only [rafterref40_Plain.l0]
          rw [if_pos (by omega), if_pos (by omega), hb, if_pos hc10, if_pos (by simp; omega), if_pos (by omega), if_pos (by omega), hb0, if_pos (by rw [he]; rfl), hw]
        · have ih := refPlain_loop s hs t [] (a + (e :: cur).length + 1) (out ++ ((e :: cur) ++ [10])) (by simpa using ht') (by simp) (by simp at *; omega) (by omega)
          rw [show noth (e :: cur) = false by simp [noth, he], if_neg (by decide), ← List.append_assoc]
          simp only [List.length_nil, Nat.add_zero, List.nil_append] at ih
          refine Ev.step (fun k => ?_) ih
          have hex : s.extract a (a + (e :: cur).length + 1) = B ((e :: cur) ++ [10]) := by
            rw [extract_mid, ht, show a + (e :: cur).length + 1 - a = ((e :: cur) ++ [10]).length by simp; omega, show (e :: cur) ++ 10 :: t = ((e :: cur) ++ [10]) ++ t by simp, List.take_left]
          simp only [rafterref40_Plain.l0]
          rw [if_pos (by omega), if_pos (by omega), hb, if_pos hc10, if_pos (by simp; omega), if_pos (by omega), if_pos (by omega), hb0, if_neg (fun h => he (UInt8.toNat_inj.1 (by show e.toNat = 35; omega))), hw, if_pos (by omega), if_pos (by omega), Int.toNat_natCast, Int.toNat_natCast, hex, if_pos (by rw [size_B, size_B]; simp at *; omega), B_append]
    · have ih := refPlain_loop s hs t (cur ++ [c]) a out (by rw [ht]; simp) (by simp; exact ⟨hc, fun e => h10 e.symm⟩) ho ha
      rw [show cur ++ [c] ++ t = cur ++ c :: t by simp, show a + (cur ++ [c]).length = a + cur.length + 1 by simp; omega] at ih
      refine Ev.step (fun k => ?_) ih
      simp only [rafterref40_Plain.l0]
      rw [if_pos (by omega), if_pos (by omega), hb, if_neg (fun h => h10 (UInt8.toNat_inj.1 (by show c.toNat = 10; omega))), hw]
theorem refPlain_ev (s : ByteArray) (hs : s.size ≤ 100000) : Ev (fun k => rafterref40_Plain.f k s) (B (plainS (splitL 10 s.toList))) :=
  refPlain_loop s hs s.toList [] 0 [] rfl (by simp) (Nat.le_refl _) (Nat.zero_le _)
end Go.Proofs.YtloibeefopdhpaaDoor.Plain
