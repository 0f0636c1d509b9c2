-- Words of the kit's print (as it laid them for this seat); what this claim does not use is left out.
import Derived.Test.YtloibeefopdhpaaDoorG10
import Derived.Lib.IndexLaws
set_option linter.unusedVariables false
namespace Go.Proofs.YtloibeefopdhpaaDoor.Plain
open Go.RowKit Go.Proofs.YtloibeefopdhpaaDoor.G Go.Proofs.YtloibeefopdhpaaDoorW.PrintWords Go.Proofs.YtloibeefopdhpaaDoorW.PrintLast Go.Proofs.YtloibeefopdhpaaDoorW.PrintMore
def splitL (c : UInt8) : List UInt8 → List (List UInt8)
  | [] => [[]]
  | b :: l => if b = c then [] :: splitL c l else match splitL c l with | [] => [[b]] | x :: xs => (b :: x) :: xs
theorem splitL_ne (c : UInt8) : ∀ l, splitL c l ≠ []
  | [] => by simp [splitL]
  | b :: l => by
    unfold splitL
    split
    · simp
    · split <;> simp
theorem splitL_length (c : UInt8) : ∀ l : List UInt8, (splitL c l).length = l.count c + 1
  | [] => by simp [splitL]
  | b :: l => by
    have ih := splitL_length c l
    unfold splitL
    by_cases h : b = c
    · rw [if_pos h, List.length_cons, ih, h, List.count_cons_self]
    · rw [if_neg h, List.count_cons_of_ne h]
      split
      · rename_i e
        exact absurd e (splitL_ne c l)
      · rename_i x xs e
        rw [e] at ih
        exact ih
theorem splitL_miss {c : UInt8} : ∀ {l : List UInt8}, c ∉ l → splitL c l = [l]
  | [], _ => rfl
  | b :: l, h => by
    have h1 : b ≠ c := fun e => h (by rw [e]; exact List.mem_cons_self)
    have h2 : c ∉ l := fun e => h (List.mem_cons_of_mem _ e)
    unfold splitL
    rw [if_neg h1, splitL_miss h2]
theorem splitL_hit {c : UInt8} : ∀ {a l : List UInt8}, c ∉ a → splitL c (a ++ c :: l) = a :: splitL c l
  | [], l, _ => by
    rw [List.nil_append, splitL, if_pos rfl]
  | b :: a, l, h => by
    have h1 : b ≠ c := fun e => h (by rw [e]; exact List.mem_cons_self)
    have h2 : c ∉ a := fun e => h (List.mem_cons_of_mem _ e)
    rw [List.cons_append, splitL, if_neg h1, splitL_hit h2]
def joinL (c : UInt8) : List (List UInt8) → List UInt8
  | [] => []
  | [x] => x
  | x :: y :: l => x ++ c :: joinL c (y :: l)
theorem joinL_cons (c : UInt8) (x : List UInt8) {l : List (List UInt8)} (h : l ≠ []) : joinL c (x :: l) = x ++ c :: joinL c l := by
  cases l with
  | nil => exact absurd rfl h
  | cons y l => rfl
theorem joinL_splitL (c : UInt8) : ∀ l : List UInt8, joinL c (splitL c l) = l
  | [] => rfl
  | b :: l => by
    have ih := joinL_splitL c l
    unfold splitL
    split
    · rename_i h
      rw [joinL_cons c _ (splitL_ne c l), ih, h]
      rfl
    · split
      · rename_i e
        exact absurd e (splitL_ne c l)
      · rename_i x xs e
        rw [e] at ih
        cases xs with
        | nil =>
          simp only [joinL] at ih ⊢
          rw [ih]
        | cons y ys =>
          simp only [joinL] at ih ⊢
          rw [← ih]
          rfl
theorem splitL_joinL (c : UInt8) : ∀ (l : List (List UInt8)), l ≠ [] → (∀ x ∈ l, c ∉ x) → splitL c (joinL c l) = l
  | [], h, _ => absurd rfl h
  | [x], _, h => splitL_miss (h x (by simp))
  | x :: y :: l, _, h => by
    rw [joinL, splitL_hit (h x (by simp)), splitL_joinL c (y :: l) (by simp) (fun z hz => h z (by simp [hz]))]
theorem indexByte_hit {c : UInt8} : ∀ {a l : List UInt8}, c ∉ a → Lib.indexByte (a ++ c :: l) c = (a.length : Int)
  | [], l, _ => by
    rw [List.nil_append]
    unfold Lib.indexByte
    simp
  | b :: a, l, h => by
    have h1 : (b == c) = false := by
      have : b ≠ c := fun e => h (by rw [e]; exact List.mem_cons_self)
      simpa using this
    have h2 := indexByte_hit (l := l) (fun e => h (List.mem_cons_of_mem b e))
    rw [List.cons_append]
    unfold Lib.indexByte
    rw [h1, h2]
    have h3 : (((a.length : Int)) == -1) = false := by simp
    rw [h3]
    simp
theorem first_at {c : UInt8} : ∀ {l : List UInt8}, c ∈ l → ∃ a r, l = a ++ c :: r ∧ c ∉ a
  | [], h => by simp at h
  | b :: l, h => by
    by_cases e : b = c
    · exact ⟨[], l, by rw [e]; rfl, by simp⟩
    · have h' : c ∈ l := by
        rcases List.mem_cons.1 h with h | h
        · exact absurd h.symm e
        · exact h
      obtain ⟨a, r, h1, h2⟩ := first_at h'
      refine ⟨b :: a, r, by rw [h1]; rfl, fun h3 => ?_⟩
      rcases List.mem_cons.1 h3 with h3 | h3
      · exact e h3.symm
      · exact h2 h3
theorem gen_loop (c : UInt8) (N : Nat) (hN : N ≤ 17592186044416) : ∀ (m : Nat) (s : ByteArray) (i : Nat) (out : List ByteArray), s.toList.count c = m → out.length = N → i + m + 1 = N → s.size ≤ 9223372036854775000 →
    Ev (fun k => strings_genSplit.l0 k s (B [c]) 0 ((N - 1 : Nat) : Int) out (i : Int)) (out.take i ++ (splitL c s.toList).map B)
  | 0, s, i, out, hm, ho, hi, hs => by
    have hw : wrap64 ((i : Int) + 1) = ((i + 1 : Nat) : Int) := by rw [wrap64_in (by omega) (by omega)]; omega
    refine Ev.step (f := fun k => some _) (fun k => ?_) (Ev.now _)
    simp only [strings_genSplit.l0]
    rw [if_neg (by omega), if_pos (by omega), if_pos (by omega), hw, if_pos (by omega), if_pos (by omega), Int.toNat_natCast, Int.toNat_natCast, splitL_miss (List.count_eq_zero.1 hm)]
    congr 1
    have : i < out.length := by omega
    rw [List.take_add_one, List.getElem?_set_self this, List.take_set_of_le (Nat.le_refl i)]
    simp
  | m + 1, s, i, out, hm, ho, hi, hs => by
    have hmem : c ∈ s.toList := List.count_pos_iff.1 (by omega)
    obtain ⟨a, r, hsl, ha⟩ := first_at hmem
    have hlen : s.size = a.length + 1 + r.length := by rw [← toList_length, hsl]; simp; omega
    have q2 : i + 1 + m + 1 = N := by omega
    have q3 := Aside0.mk (show (B r).size ≤ 9223372036854775000 by clear hm; have := size_B r; omega)
    have hx : strings_Index.f s (B [c]) = some (a.length : Int) := by
      unfold strings_Index.f
      rw [toList_B, hsl]
      simp only
      rw [indexByte_hit ha]
    have hw : wrap64 ((i : Int) + 1) = ((i + 1 : Nat) : Int) := by rw [wrap64_in (by omega) (by omega)]; omega
    have hw0 : wrap64 ((a.length : Int) + 0) = (a.length : Int) := by rw [Int.add_zero, wrap64_in (by omega) (by omega)]
    have hw1 : wrap64 ((a.length : Int) + ((B [c]).size : Int)) = ((a.length + 1 : Nat) : Int) := by rw [size_B, wrap64_in (by simp; omega) (by simp; omega)]; simp
    have e1 : s.extract 0 a.length = B a := by rw [extract_take, hsl, List.take_left]
    have e2 : s.extract (a.length + 1) s.size = B r := by
      rw [extract_drop, hsl]
      congr 1
      have : a ++ c :: r = (a ++ [c]) ++ r := by simp
      rw [this, show a.length + 1 = (a ++ [c]).length by simp]
      exact List.drop_left
    have hc : (B r).toList.count c = m := by
      rw [hsl, List.count_append, List.count_cons_self, List.count_eq_zero.2 ha] at hm
      rw [toList_B]
      omega
    have hil : i < out.length := by clear hc hm q3; omega
    have ih := gen_loop c N hN m (B r) (i + 1) (out.set i (B a)) hc (by rw [List.length_set]; exact ho) q2 q3.out
    have e3 : (out.set i (B a)).take (i + 1) ++ (splitL c (B r).toList).map B = out.take i ++ (splitL c s.toList).map B := by
      rw [List.take_add_one, List.getElem?_set_self hil, List.take_set_of_le (Nat.le_refl i), hsl, splitL_hit ha, toList_B]
      simp
    rw [e3] at ih
    clear q3 hc hm
    have k1 : (a.length : Int) ≤ (s.size : Int) := by omega
    have k2 : ((a.length + 1 : Nat) : Int) ≤ (s.size : Int) := by omega
    refine Ev.step (fun k => ?_) ih
    simp only [strings_genSplit.l0]
    rw [if_pos (by omega), hx, Option.bind_some, if_neg (by omega), hw0, if_pos (by omega), if_pos (by omega), if_pos (by omega), if_pos (by omega), hw1, if_pos (by omega), if_pos (by omega), Int.toNat_natCast, Int.toNat_natCast, Int.toNat_natCast, e1, e2, hw]
theorem split_ev (c : UInt8) (s : ByteArray) (hs : s.size ≤ 17592186044415) : Ev (fun k => strings_Split.f k s (B [c])) ((splitL c s.toList).map B) := by
  have hcount : s.toList.count c ≤ s.size := by rw [← toList_length]; exact List.count_le_length
  have hc : strings_Count.f s (B [c]) = some ((s.toList.count c : Nat) : Int) := by
    unfold strings_Count.f
    rw [toList_B]
  have hw : wrap64 (((s.toList.count c : Nat) : Int) + 1) = ((s.toList.count c + 1 : Nat) : Int) := by rw [wrap64_in (by omega) (by omega)]; omega
  have hw2 : wrap64 ((s.size : Int) + 1) = ((s.size + 1 : Nat) : Int) := by rw [wrap64_in (by omega) (by omega)]; omega
  have hmn : mn ((s.toList.count c + 1 : Nat) : Int) ((s.size + 1 : Nat) : Int) = ((s.toList.count c + 1 : Nat) : Int) := by unfold mn; split <;> omega
  have hw3 : wrap64 (((s.toList.count c + 1 : Nat) : Int) - 1) = ((s.toList.count c + 1 - 1 : Nat) : Int) := by rw [wrap64_in (by omega) (by omega)]; omega
  have h := gen_loop c (s.toList.count c + 1) (by omega) (s.toList.count c) s 0 (List.replicate (s.toList.count c + 1) ⟨#[]⟩) rfl (by simp) (by omega) (by omega)
  rw [List.take_zero, List.nil_append] at h
  unfold strings_Split.f strings_genSplit.f
  refine Ev.bind (a := (splitL c s.toList).map B) ?_ (Ev.now _)
  refine Ev.neg (by decide) (Ev.neg (by rw [toList_B]; simp) (Ev.pos (by decide) ?_))
  refine Ev.congr (f := fun k => strings_genSplit.j0 k s (B [c]) 0 ((s.toList.count c + 1 : Nat) : Int)) (fun k => by rw [hc, Option.bind_some, hw]) ?_
  refine Ev.step (fun k => ?_) h
  simp only [strings_genSplit.j0]
  rw [hw2, hmn, if_pos (by omega), if_pos (by rw [Int.toNat_natCast]; omega), hw3, Int.toNat_natCast]
  rfl
end Go.Proofs.YtloibeefopdhpaaDoor.Plain
