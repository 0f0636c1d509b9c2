/- Ids and their texts, plain: names, which ids may be, digits, texts; the program's and the reference's texts are the same, and tell ids apart. -/
import Derived.Test.YtmimejckcknjfaaDoorClashRow
import Derived.Test.YtmimejckcknjfaaDoorG34
import Derived.Test.YtmimejckcknjfaaDoorG41
set_option linter.unusedVariables false
namespace Go.Proofs.YtmimejckcknjfaaDoor.Plain
open Go.RowKit Go.Proofs.YtmimejckcknjfaaDoor.G Go.Proofs.YtmimejckcknjfaaDoorW.PrintWords Go.Proofs.YtmimejckcknjfaaDoorW.PrintLast Go.Proofs.YtmimejckcknjfaaDoorW.PrintMore

abbrev TId := S23
def signs : ByteArray := (⟨#[97, 98, 99, 100, 101, 102, 103, 104, 105, 106, 107, 108, 109, 110, 111, 112, 113, 114, 115, 116, 117, 118, 119, 120, 121, 122, 48, 49, 50, 51, 52, 53, 54, 55, 56, 57, 46, 95, 45]⟩ : ByteArray)
theorem signs_size : signs.size = 39 := rfl
theorem letter_loop (c : UInt8) : ∀ (t : List UInt8) (i : Nat), signs.toList.drop i = t → Ev (fun k => rafterref02_letter.l0 k (c.toNat : Int) signs (i : Int)) (decide (c ∈ t))
  | [], i, ht => by
    have hge := drop_nil ht
    refine Ev.step (f := fun k => some _) (fun k => ?_) (Ev.now _)
    simp only [rafterref02_letter.l0]
    rw [if_neg (by omega)]
    rfl
  | b :: t, i, ht => by
    have hlt := drop_lt ht
    have hb := bt_cons ht
    have hz := signs_size
    have hw : wrap64 ((i : Int) + 1) = ((i + 1 : Nat) : Int) := by rw [wrap64_in (by omega) (by omega)]; omega
    by_cases e : b = c
    · refine Ev.step (f := fun k => some _) (fun k => ?_) (Ev.now _)
      simp only [rafterref02_letter.l0]
      rw [if_pos (by omega), if_pos (by omega), hb, if_pos (by rw [e])]
      rw [e]
      simp
    · have ih := letter_loop c t (i + 1) (drop_succ ht)
      have e2 : decide (c ∈ b :: t) = decide (c ∈ t) := by
        have : c ≠ b := fun h => e h.symm
        simp [this]
      rw [e2]
      refine Ev.step (fun k => ?_) ih
      simp only [rafterref02_letter.l0]
      rw [if_pos (by omega), if_pos (by omega), hb, if_neg (fun h => e (UInt8.toNat_inj.1 (by omega))), hw]
theorem letter_all : ∀ n : Fin 256, decide (UInt8.ofNat n.val ∈ signs.toList) = letter (UInt8.ofNat n.val) := by decide +kernel
theorem letter_mem (c : UInt8) : decide (c ∈ signs.toList) = letter c := by
  have h := letter_all ⟨c.toNat, c.toNat_lt⟩
  rwa [show UInt8.ofNat c.toNat = c from UInt8.toNat_inj.1 (by simp)] at h
theorem letter_ev (c : UInt8) : Ev (fun k => rafterref02_letter.f k (c.toNat : Int)) (letter c) := by
  rw [← letter_mem]
  exact letter_loop c signs.toList 0 rfl
theorem right_loop (s : ByteArray) (hs : s.size ≤ 9000000000000000000) : ∀ (t : List UInt8) (i : Nat), s.toList.drop i = t → Ev (fun k => rafterref02_Right.l0 k s (i : Int)) (t.all letter && (decide (1 ≤ s.size) && decide (s.size ≤ 40) && s.toList != [46] && s.toList != [46, 46]))
  | [], i, ht => by
    have hge := drop_nil ht
    refine Ev.step (f := fun k => some _) (fun k => ?_) (Ev.now _)
    simp only [rafterref02_Right.l0]
    rw [if_neg (by omega)]
    by_cases h1 : 1 ≤ s.size
    · rw [if_pos (by omega), decide_eq_true h1]
      by_cases h2 : s.size ≤ 40
      · rw [if_pos (by omega), decide_eq_true h2]
        by_cases h3 : s.toList = [46]
        · rw [if_pos h3, h3]; rfl
        · rw [if_neg h3]
          simp [h3]
      · rw [if_neg (by omega), decide_eq_false h2]; rfl
    · rw [if_neg (by omega), decide_eq_false h1]; rfl
  | b :: t, i, ht => by
    have hlt := drop_lt ht
    have hb := bt_cons ht
    have hw : wrap64 ((i : Int) + 1) = ((i + 1 : Nat) : Int) := by rw [wrap64_in (by omega) (by omega)]; omega
    refine Ev.step (f := fun k => (rafterref02_letter.f k (b.toNat : Int)).bind fun t178 => (if t178 = true then (rafterref02_Right.l0 k s ((i + 1 : Nat) : Int)) else (some false))) (fun k => ?_) ?_
    · simp only [rafterref02_Right.l0]
      rw [if_pos (by omega), if_pos (by omega), hb, hw]
    · refine Ev.bind (letter_ev b) ?_
      rw [List.all_cons]
      cases h : letter b with
      | true => exact Ev.pos rfl (right_loop s hs t (i + 1) (drop_succ ht))
      | false => exact Ev.neg (by decide) (Ev.now _)
theorem nameOk_eq (s : ByteArray) : (s.toList.all letter && (decide (1 ≤ s.size) && decide (s.size ≤ 40) && s.toList != [46] && s.toList != [46, 46])) = nameOk s.toList := by
  unfold nameOk
  have e : decide (1 ≤ s.size) = (s.toList != []) := by
    rw [Bool.eq_iff_iff]
    simp only [decide_eq_true_eq, bne_iff_ne]
    rw [← toList_length]
    constructor
    · intro h e
      rw [e] at h
      simp at h
    · intro h
      exact List.length_pos_iff.2 h
  rw [e, toList_length]
  cases s.toList.all letter <;> simp
theorem right_ev (s : ByteArray) (hs : s.size ≤ 9000000000000000000) : Ev (fun k => rafterref02_Right.f k s) (nameOk s.toList) := by
  have := right_loop s hs s.toList 0 rfl
  rw [nameOk_eq] at this
  exact Ev.congr (fun k => by rw [rafterref02_Right.f]; rfl) this

/-! ### which ids may be -/
def rightI (x : TId) : Bool := if x.f0.toList = [] then decide (0 ≤ x.f1) && decide (x.f1 ≤ 2) else nameOk x.f0.toList && (decide (0 ≤ x.f1) && decide (x.f1 ≤ 1048576))
def madeI (x : TId) : Bool := rightI x && x.f0.toList != []
def orI (x : TId) (n : Int) : Bool := madeI x || (x.f0.toList == [] && x.f1 == n)
theorem rightI_ev (x : TId) (hs : x.f0.size ≤ 9000000000000000000) : Ev (fun k => rafterref11_Right.f k x.f0 x.f1) (rightI x) := by
  unfold rafterref11_Right.f rightI
  by_cases h : x.f0.toList = []
  · refine Ev.pos h ?_
    rw [if_pos h]
    by_cases h0 : x.f1 ≥ 0
    · rw [decide_eq_true h0]
      exact Ev.pos h0 (Ev.now _)
    · rw [decide_eq_false h0]
      exact Ev.neg h0 (Ev.now _)
  · refine Ev.neg h ?_
    rw [if_neg h]
    refine Ev.bind (right_ev x.f0 hs) ?_
    cases nameOk x.f0.toList with
    | false => exact Ev.neg (by decide) (Ev.now _)
    | true =>
      refine Ev.pos rfl ?_
      by_cases h0 : x.f1 ≥ 0
      · rw [decide_eq_true h0]
        exact Ev.pos h0 (Ev.now _)
      · rw [decide_eq_false h0]
        exact Ev.neg h0 (Ev.now _)
theorem rightI_of_made {x : TId} (h : madeI x = true) : rightI x = true := by
  unfold madeI at h
  exact (Bool.and_eq_true_iff.1 h).1
theorem rightI_of_or {x : TId} (h : orI x 0 = true) : rightI x = true := by
  unfold orI at h
  rcases Bool.or_eq_true_iff.1 h with h | h
  · exact rightI_of_made h
  · obtain ⟨h1, h2⟩ := Bool.and_eq_true_iff.1 h
    unfold rightI
    rw [if_pos (eq_of_beq h1), eq_of_beq h2]
    rfl

/-! ### digits -/
def tens : ByteArray := (⟨#[48, 49, 50, 51, 52, 53, 54, 55, 56, 57]⟩ : ByteArray)
def oneD (d : Nat) : ByteArray := tens.extract d (d + 1)
def digB (n : Nat) : ByteArray := if h : n < 10 then oneD n else digB (n / 10) ++ oneD (n % 10)
termination_by n
decreasing_by omega
theorem oneD_list : ∀ d : Fin 10, (oneD d.val).toList = [UInt8.ofNat (48 + d.val)] := by decide +kernel
theorem oneD_toList (d : Nat) (h : d < 10) : (oneD d).toList = [UInt8.ofNat (48 + d)] := oneD_list ⟨d, h⟩
theorem oneD_size (d : Nat) (h : d < 10) : (oneD d).size = 1 := by rw [← toList_length, oneD_toList d h]; rfl
theorem digB_low {n : Nat} (h : n < 10) : digB n = oneD n := by rw [digB, dif_pos h]
theorem digB_high {n : Nat} (h : ¬ n < 10) : digB n = digB (n / 10) ++ oneD (n % 10) := by rw [digB, dif_neg h]
theorem digB_size (n : Nat) : (digB n).size ≤ n + 1 := by
  induction n using Nat.strongRecOn with
  | _ n ih =>
    by_cases h : n < 10
    · rw [digB_low h, oneD_size n h]; omega
    · rw [digB_high h, ByteArray.size_append, oneD_size _ (by omega)]
      have := ih (n / 10) (by omega)
      omega
theorem digits_some (n : Nat) (hn : n ≤ 9000000000000000000) : Ev (fun k => rafterref11_Digits.f k (n : Int)) (digB n) := by
  induction n using Nat.strongRecOn with
  | _ n ih =>
    have one : ∀ d : Nat, d < 10 → Ev (fun k => rafterref11_Digits.f k (d : Int)) (oneD d) := fun d hd => by
      refine Ev.step (f := fun k => some (oneD d)) (fun k => ?_) (Ev.now _)
      simp only [rafterref11_Digits.f]
      rw [if_pos (by omega), if_pos (by omega), wrap64_in (by omega) (by omega), if_pos (by omega), if_pos (by omega)]
      rfl
    by_cases h : n < 10
    · rw [digB_low h]
      exact one n h
    · rw [digB_high h]
      have e1 : wrap64 (Int.tdiv (n : Int) 10) = ((n / 10 : Nat) : Int) := by
        rw [Int.tdiv_eq_ediv_of_nonneg (by omega), wrap64_in (by omega) (by omega)]
        omega
      have e2 : Int.tmod (n : Int) 10 = ((n % 10 : Nat) : Int) := by
        rw [Int.tmod_eq_emod_of_nonneg (by omega)]
        omega
      have hz := digB_size (n / 10)
      have hz2 := oneD_size (n % 10) (by omega)
      refine Ev.step (f := fun k => (rafterref11_Digits.f k ((n / 10 : Nat) : Int)).bind fun t206 => ((rafterref11_Digits.f k ((n % 10 : Nat) : Int)).bind fun t207 => (if t206.size + t207.size ≤ 9223372036854775807 then (some (t206 ++ t207)) else (none)))) (fun k => ?_) ?_
      · simp only [rafterref11_Digits.f]
        rw [if_neg (by omega), e1, e2]
      · exact Ev.bind (ih (n / 10) (by omega) (by omega)) (Ev.bind (one (n % 10) (by omega)) (Ev.pos (by omega) (Ev.now _)))
theorem decimal_some (n : Nat) (hn : n ≤ 9000000000000000000) : ∀ s : ByteArray, n + s.size ≤ 9000000000000000000 → Ev (fun k => ident_decimal.l0 k (n : Int) s) (digB n ++ s) := by
  induction n using Nat.strongRecOn with
  | _ n ih =>
    intro s hs
    by_cases h : n < 10
    · rw [digB_low h]
      have hz := oneD_size n h
      refine Ev.step (f := fun k => some (oneD n ++ s)) (fun k => ?_) (Ev.now _)
      simp only [ident_decimal.l0]
      have e3 : (⟨#[48, 49, 50, 51, 52, 53, 54, 55, 56, 57]⟩ : ByteArray).extract ((n : Int)).toNat (((n : Int) + 1)).toNat = oneD n := by
        unfold oneD tens
        congr 1 <;> omega
      rw [if_neg (by omega), if_pos (by omega), wrap64_in (by omega) (by omega), if_pos (by omega), if_pos (by omega), e3, if_pos (by omega)]
    · rw [digB_high h]
      have e1 : wrap64 (Int.tdiv (n : Int) 10) = ((n / 10 : Nat) : Int) := by
        rw [Int.tdiv_eq_ediv_of_nonneg (by omega), wrap64_in (by omega) (by omega)]
        omega
      have e2 : Int.tmod (n : Int) 10 = ((n % 10 : Nat) : Int) := by
        rw [Int.tmod_eq_emod_of_nonneg (by omega)]
        omega
      have hz2 := oneD_size (n % 10) (by omega)
      have e3 : (⟨#[48, 49, 50, 51, 52, 53, 54, 55, 56, 57]⟩ : ByteArray).extract (((n % 10 : Nat) : Int)).toNat ((((n % 10 : Nat) : Int) + 1)).toNat = oneD (n % 10) := by
        unfold oneD tens
        congr 1 <;> omega
      have hi := ih (n / 10) (by omega) (by omega) (oneD (n % 10) ++ s) (by rw [ByteArray.size_append]; omega)
      rw [ByteArray.append_assoc]
      refine Ev.step (fun k => ?_) hi
      simp only [ident_decimal.l0]
      rw [if_pos (by omega), e2, if_pos (by omega), wrap64_in (by omega) (by omega), if_pos (by omega), if_pos (by omega), e3, if_pos (by omega), e1]

/-! ### texts -/
def textI (x : TId) : ByteArray := (x.f0 ++ (⟨#[35]⟩ : ByteArray)) ++ digB x.f1.toNat
theorem rightI_n {x : TId} (h : rightI x = true) : 0 ≤ x.f1 ∧ x.f1 ≤ 1048576 := by
  unfold rightI at h
  by_cases e : x.f0.toList = []
  · rw [if_pos e] at h
    simp only [Bool.and_eq_true, decide_eq_true_eq] at h
    omega
  · rw [if_neg e] at h
    simp only [Bool.and_eq_true, decide_eq_true_eq] at h
    omega
theorem size35 (s : ByteArray) : (s ++ (⟨#[35]⟩ : ByteArray)).size = s.size + 1 := by rw [ByteArray.size_append]; rfl
theorem refText_ev (x : TId) (hs : x.f0.size ≤ 9000000000000000000) (h : rightI x = true) : Ev (fun k => rafterref11_Text.f k x.f0 x.f1) (textI x) := by
  obtain ⟨h0, h1⟩ := rightI_n h
  have hz := digB_size x.f1.toNat
  unfold rafterref11_Text.f
  have hr := rightI_ev x hs
  rw [h] at hr
  have hd := digits_some x.f1.toNat (by omega)
  rw [Int.toNat_of_nonneg h0] at hd
  refine Ev.bind hr (Ev.pos rfl (Ev.pos (by omega) (Ev.bind hd (Ev.pos ?_ (Ev.now _)))))
  rw [size35]
  omega
theorem identRight_some (x : TId) (h : rightI x = true) : ident_Right.f x.f0 x.f1 = some true := by
  obtain ⟨h0, h1⟩ := rightI_n h
  unfold rightI at h
  unfold ident_Right.f
  by_cases e : x.f0.toList = []
  · rw [if_pos e] at h ⊢
    simp only [Bool.and_eq_true, decide_eq_true_eq] at h
    rcases (show x.f1 = 0 ∨ x.f1 = 1 ∨ x.f1 = 2 by omega) with q | q | q <;> rw [q] <;> simp [ident_Root.f, ident_Begin.f, ident_End.f, e] <;> rfl
  · rw [if_neg e] at h ⊢
    simp only [Bool.and_eq_true, decide_eq_true_eq] at h
    unfold name_Right.f
    rw [h.1, Option.bind_some, if_pos rfl, if_pos (by omega), decide_eq_true h1]
theorem identText_ev (x : TId) (hs : x.f0.size ≤ 9000000000000000000) (h : rightI x = true) : Ev (fun k => ident_Text.f k x.f0 x.f1) (textI x) := by
  obtain ⟨h0, h1⟩ := rightI_n h
  have hz := digB_size x.f1.toNat
  unfold ident_Text.f
  have hd := decimal_some x.f1.toNat (by omega) (⟨#[]⟩ : ByteArray) (by show _ + 0 ≤ _; omega)
  rw [Int.toNat_of_nonneg h0, show digB x.f1.toNat ++ (⟨#[]⟩ : ByteArray) = digB x.f1.toNat from ByteArray.append_empty] at hd
  refine Ev.congr (fun k => by rw [identRight_some x h, Option.bind_some, if_pos rfl]) (Ev.pos (by omega) (Ev.bind (g := fun k => ident_decimal.f k x.f1) hd (Ev.pos ?_ (Ev.now _))))
  rw [size35]
  omega

/-! ### texts tell ids apart -/
def valL (l : List UInt8) : Nat := l.foldl (fun a c => 10 * a + (c.toNat - 48)) 0
theorem valL_snoc (l : List UInt8) (c : UInt8) : valL (l ++ [c]) = 10 * valL l + (c.toNat - 48) := by simp [valL]
theorem valL_dig (n : Nat) : valL (digB n).toList = n := by
  induction n using Nat.strongRecOn with
  | _ n ih =>
    have hc : ∀ d : Nat, d < 10 → (UInt8.ofNat (48 + d)).toNat - 48 = d := fun d hd => by
      rw [UInt8.toNat_ofNat']
      omega
    by_cases h : n < 10
    · rw [digB_low h, oneD_toList n h]
      show 10 * 0 + _ = _
      rw [hc n h]
      omega
    · rw [digB_high h, toList_append, oneD_toList _ (by omega), valL_snoc, ih (n / 10) (by omega), hc _ (by omega)]
      omega
theorem split35 : ∀ (p q d e : List UInt8), (35 : UInt8) ∉ p → (35 : UInt8) ∉ q → p ++ 35 :: d = q ++ 35 :: e → p = q ∧ d = e
  | [], [], d, e, _, _, h => ⟨rfl, (List.cons.inj h).2⟩
  | [], b :: q, d, e, _, hq, h => absurd (List.cons.inj h).1 (fun x => hq (by rw [x]; exact List.mem_cons_self))
  | a :: p, [], d, e, hp, _, h => absurd (List.cons.inj h).1 (fun x => hp (by rw [x]; exact List.mem_cons_self))
  | a :: p, b :: q, d, e, hp, hq, h => by
    obtain ⟨h1, h2⟩ := List.cons.inj h
    obtain ⟨h3, h4⟩ := split35 p q d e (fun x => hp (List.mem_cons_of_mem _ x)) (fun x => hq (List.mem_cons_of_mem _ x)) h2
    exact ⟨by rw [h1, h3], h4⟩
theorem no35 {x : TId} (h : rightI x = true) : (35 : UInt8) ∉ x.f0.toList := by
  intro hm
  unfold rightI at h
  by_cases e : x.f0.toList = []
  · rw [e] at hm; cases hm
  · rw [if_neg e] at h
    have hn := (Bool.and_eq_true_iff.1 h).1
    unfold nameOk at hn
    have ha := (Bool.and_eq_true_iff.1 hn).2
    have := List.all_eq_true.1 ha _ hm
    revert this
    decide
theorem textI_list (x : TId) : (textI x).toList = x.f0.toList ++ 35 :: (digB x.f1.toNat).toList := by
  unfold textI
  rw [toList_append, toList_append, List.append_assoc, show (⟨#[35]⟩ : ByteArray).toList = [35] by rw [ByteArray.toList_eq]]
  rfl
/-- The texts of two ids that may be are the same just where the ids are. -/
theorem textI_same {x y : TId} (hx : rightI x = true) (hy : rightI y = true) : ((textI x).toList == (textI y).toList) = sameI x y := by
  rw [Bool.eq_iff_iff]
  unfold sameI
  rw [beq_iff_eq, Bool.and_eq_true_iff, beq_iff_eq, beq_iff_eq, textI_list, textI_list]
  constructor
  · intro h
    obtain ⟨h1, h2⟩ := split35 _ _ _ _ (no35 hx) (no35 hy) h
    refine ⟨h1, ?_⟩
    have := congrArg valL h2
    rw [valL_dig, valL_dig] at this
    have a := rightI_n hx
    have b := rightI_n hy
    omega
  · rintro ⟨h1, h2⟩
    rw [h1, h2]
end Go.Proofs.YtmimejckcknjfaaDoor.Plain
