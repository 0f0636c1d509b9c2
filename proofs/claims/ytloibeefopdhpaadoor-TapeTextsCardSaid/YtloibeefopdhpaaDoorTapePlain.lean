-- Words of the kit's print (as it laid them for this seat); what this claim does not use is left out.
import Derived.Test.YtloibeefopdhpaaDoorG5
import Derived.Lib.IndexLaws
import Derived.Test.YtloibeefopdhpaaDoorRefMask
import Derived.Test.YtloibeefopdhpaaDoorG2
set_option linter.unusedVariables false
namespace Go.Proofs.YtloibeefopdhpaaDoor.Plain
open Go.RowKit Go.Proofs.YtloibeefopdhpaaDoor.G Go.Proofs.YtloibeefopdhpaaDoorW.PrintWords Go.Proofs.YtloibeefopdhpaaDoorW.PrintLast Go.Proofs.YtloibeefopdhpaaDoorW.PrintMore
def splitL (c : UInt8) : List UInt8 → List (List UInt8)
  | [] => [[]]
  | b :: l => if b = c then [] :: splitL c l else match splitL c l with | [] => [[b]] | x :: xs => (b :: x) :: xs
theorem splitL_miss {c : UInt8} : ∀ {l : List UInt8}, c ∉ l → splitL c l = [l]
  | [], _ => rfl
  | b :: l, h => by
    have h1 : b ≠ c := fun e => h (by rw [e]; exact List.mem_cons_self)
    have h2 : c ∉ l := fun e => h (List.mem_cons_of_mem _ e)
    unfold splitL
    rw [if_neg h1, splitL_miss h2]
theorem splitL_hit {c : UInt8} : ∀ {a l : List UInt8}, c ∉ a → splitL c (a ++ c :: l) = a :: splitL c l
  | [], l, _ => by
    rw [List.nil_append, splitL, if_pos rfl]
  | b :: a, l, h => by
    have h1 : b ≠ c := fun e => h (by rw [e]; exact List.mem_cons_self)
    have h2 : c ∉ a := fun e => h (List.mem_cons_of_mem _ e)
    rw [List.cons_append, splitL, if_neg h1, splitL_hit h2]
def joinL (c : UInt8) : List (List UInt8) → List UInt8
  | [] => []
  | [x] => x
  | x :: y :: l => x ++ c :: joinL c (y :: l)
theorem joinL_cons (c : UInt8) (x : List UInt8) {l : List (List UInt8)} (h : l ≠ []) : joinL c (x :: l) = x ++ c :: joinL c l := by
  cases l with
  | nil => exact absurd rfl h
  | cons y l => rfl
theorem splitL_joinL (c : UInt8) : ∀ (l : List (List UInt8)), l ≠ [] → (∀ x ∈ l, c ∉ x) → splitL c (joinL c l) = l
  | [], h, _ => absurd rfl h
  | [x], _, h => splitL_miss (h x (by simp))
  | x :: y :: l, _, h => by
    rw [joinL, splitL_hit (h x (by simp)), splitL_joinL c (y :: l) (by simp) (fun z hz => h z (by simp [hz]))]
theorem indexByte_hit {c : UInt8} : ∀ {a l : List UInt8}, c ∉ a → Lib.indexByte (a ++ c :: l) c = (a.length : Int)
  | [], l, _ => by
    rw [List.nil_append]
    unfold Lib.indexByte
    simp
  | b :: a, l, h => by
    have h1 : (b == c) = false := by
      have : b ≠ c := fun e => h (by rw [e]; exact List.mem_cons_self)
      simpa using this
    have h2 := indexByte_hit (l := l) (fun e => h (List.mem_cons_of_mem b e))
    rw [List.cons_append]
    unfold Lib.indexByte
    rw [h1, h2]
    have h3 : (((a.length : Int)) == -1) = false := by simp
    rw [h3]
    simp
theorem first_at {c : UInt8} : ∀ {l : List UInt8}, c ∈ l → ∃ a r, l = a ++ c :: r ∧ c ∉ a
  | [], h => by simp at h
  | b :: l, h => by
    by_cases e : b = c
    · exact ⟨[], l, by rw [e]; rfl, by simp⟩
    · have h' : c ∈ l := by
        rcases List.mem_cons.1 h with h | h
        · exact absurd h.symm e
        · exact h
      obtain ⟨a, r, h1, h2⟩ := first_at h'
      refine ⟨b :: a, r, by rw [h1]; rfl, fun h3 => ?_⟩
      rcases List.mem_cons.1 h3 with h3 | h3
      · exact e h3.symm
      · exact h2 h3
theorem gen_loop (c : UInt8) (N : Nat) (hN : N ≤ 17592186044416) : ∀ (m : Nat) (s : ByteArray) (i : Nat) (out : List ByteArray), s.toList.count c = m → out.length = N → i + m + 1 = N → s.size ≤ 9223372036854775000 →
    Ev (fun k => strings_genSplit.l0 k s (B [c]) 0 ((N - 1 : Nat) : Int) out (i : Int)) (out.take i ++ (splitL c s.toList).map B)
  | 0, s, i, out, hm, ho, hi, hs => by
    have hw : wrap64 ((i : Int) + 1) = ((i + 1 : Nat) : Int) := by rw [wrap64_in (by omega) (by omega)]; omega
    refine Ev.step (f := fun k => some _) (fun k => ?_) (Ev.now _)
    simp only [strings_genSplit.l0]
    rw [if_neg (by omega), if_pos (by omega), if_pos (by omega), hw, if_pos (by omega), if_pos (by omega), Int.toNat_natCast, Int.toNat_natCast, splitL_miss (List.count_eq_zero.1 hm)]
    congr 1
    have : i < out.length := by omega
    rw [List.take_add_one, List.getElem?_set_self this, List.take_set_of_le (Nat.le_refl i)]
    simp
  | m + 1, s, i, out, hm, ho, hi, hs => by
    have hmem : c ∈ s.toList := List.count_pos_iff.1 (by omega)
    obtain ⟨a, r, hsl, ha⟩ := first_at hmem
    have hlen : s.size = a.length + 1 + r.length := by rw [← toList_length, hsl]; simp; omega
    have q2 : i + 1 + m + 1 = N := by omega
    have q3 := Aside0.mk (show (B r).size ≤ 9223372036854775000 by clear hm; have := size_B r; omega)
    have hx : strings_Index.f s (B [c]) = some (a.length : Int) := by
      unfold strings_Index.f
      rw [toList_B, hsl]
      simp only
      rw [indexByte_hit ha]
    have hw : wrap64 ((i : Int) + 1) = ((i + 1 : Nat) : Int) := by rw [wrap64_in (by omega) (by omega)]; omega
    have hw0 : wrap64 ((a.length : Int) + 0) = (a.length : Int) := by rw [Int.add_zero, wrap64_in (by omega) (by omega)]
    have hw1 : wrap64 ((a.length : Int) + ((B [c]).size : Int)) = ((a.length + 1 : Nat) : Int) := by rw [size_B, wrap64_in (by simp; omega) (by simp; omega)]; simp
    have e1 : s.extract 0 a.length = B a := by rw [extract_take, hsl, List.take_left]
    have e2 : s.extract (a.length + 1) s.size = B r := by
      rw [extract_drop, hsl]
      congr 1
      have : a ++ c :: r = (a ++ [c]) ++ r := by simp
      rw [this, show a.length + 1 = (a ++ [c]).length by simp]
      exact List.drop_left
    have hc : (B r).toList.count c = m := by
      rw [hsl, List.count_append, List.count_cons_self, List.count_eq_zero.2 ha] at hm
      rw [toList_B]
      omega
    have hil : i < out.length := by clear hc hm q3; omega
    have ih := gen_loop c N hN m (B r) (i + 1) (out.set i (B a)) hc (by rw [List.length_set]; exact ho) q2 q3.out
    have e3 : (out.set i (B a)).take (i + 1) ++ (splitL c (B r).toList).map B = out.take i ++ (splitL c s.toList).map B := by
      rw [List.take_add_one, List.getElem?_set_self hil, List.take_set_of_le (Nat.le_refl i), hsl, splitL_hit ha, toList_B]
      simp
    rw [e3] at ih
    clear q3 hc hm
    have k1 : (a.length : Int) ≤ (s.size : Int) := by omega
    have k2 : ((a.length + 1 : Nat) : Int) ≤ (s.size : Int) := by omega
    refine Ev.step (fun k => ?_) ih
    simp only [strings_genSplit.l0]
    rw [if_pos (by omega), hx, Option.bind_some, if_neg (by omega), hw0, if_pos (by omega), if_pos (by omega), if_pos (by omega), if_pos (by omega), hw1, if_pos (by omega), if_pos (by omega), Int.toNat_natCast, Int.toNat_natCast, Int.toNat_natCast, e1, e2, hw]
theorem split_ev (c : UInt8) (s : ByteArray) (hs : s.size ≤ 17592186044415) : Ev (fun k => strings_Split.f k s (B [c])) ((splitL c s.toList).map B) := by
  have hcount : s.toList.count c ≤ s.size := by rw [← toList_length]; exact List.count_le_length
  have hc : strings_Count.f s (B [c]) = some ((s.toList.count c : Nat) : Int) := by
    unfold strings_Count.f
    rw [toList_B]
  have hw : wrap64 (((s.toList.count c : Nat) : Int) + 1) = ((s.toList.count c + 1 : Nat) : Int) := by rw [wrap64_in (by omega) (by omega)]; omega
  have hw2 : wrap64 ((s.size : Int) + 1) = ((s.size + 1 : Nat) : Int) := by rw [wrap64_in (by omega) (by omega)]; omega
  have hmn : mn ((s.toList.count c + 1 : Nat) : Int) ((s.size + 1 : Nat) : Int) = ((s.toList.count c + 1 : Nat) : Int) := by unfold mn; split <;> omega
  have hw3 : wrap64 (((s.toList.count c + 1 : Nat) : Int) - 1) = ((s.toList.count c + 1 - 1 : Nat) : Int) := by rw [wrap64_in (by omega) (by omega)]; omega
  have h := gen_loop c (s.toList.count c + 1) (by omega) (s.toList.count c) s 0 (List.replicate (s.toList.count c + 1) ⟨#[]⟩) rfl (by simp) (by omega) (by omega)
  rw [List.take_zero, List.nil_append] at h
  unfold strings_Split.f strings_genSplit.f
  refine Ev.bind (a := (splitL c s.toList).map B) ?_ (Ev.now _)
  refine Ev.neg (by decide) (Ev.neg (by rw [toList_B]; simp) (Ev.pos (by decide) ?_))
  refine Ev.congr (f := fun k => strings_genSplit.j0 k s (B [c]) 0 ((s.toList.count c + 1 : Nat) : Int)) (fun k => by rw [hc, Option.bind_some, hw]) ?_
  refine Ev.step (fun k => ?_) h
  simp only [strings_genSplit.j0]
  rw [hw2, hmn, if_pos (by omega), if_pos (by rw [Int.toNat_natCast]; omega), hw3, Int.toNat_natCast]
  rfl
theorem of256 {α : Type} {f g : Nat → α} (h : (List.range 256).map f = (List.range 256).map g) (n : Nat) (hn : n < 256) : f n = g n := by
  have := congrArg (fun l => l[n]?) h
  simpa [List.getElem?_map, List.getElem?_range hn] using this
def ints8 (l : List UInt8) : List Int := l.map fun b => (b.toNat : Int)
theorem ints8_length (l : List UInt8) : (ints8 l).length = l.length := List.length_map _
theorem ints8_mem {l : List UInt8} {x : Int} (h : x ∈ ints8 l) : 0 ≤ x ∧ x ≤ 255 := by
  obtain ⟨c, _, rfl⟩ := List.mem_map.1 h
  have := c.toNat_lt
  omega
theorem ints8_nil {l : List UInt8} : ints8 l = [] ↔ l = [] := List.map_eq_nil_iff
theorem ints8_of (l : List Int) (h : ∀ x ∈ l, 0 ≤ x ∧ x ≤ 255) : ∃ b, l = ints8 b := by
  refine ⟨l.map fun x => UInt8.ofNat x.toNat, ?_⟩
  rw [ints8, List.map_map]
  conv => lhs; rw [← List.map_id l]
  refine List.map_congr_left fun x hx => ?_
  obtain ⟨h0, h1⟩ := h x hx
  obtain ⟨n, rfl⟩ : ∃ n : Nat, x = (n : Int) := ⟨x.toNat, by omega⟩
  show (n : Int) = ((UInt8.ofNat n).toNat : Int)
  have : (UInt8.ofNat n).toNat = n := by simp; omega
  rw [this]
def maskB (l : List UInt8) : List UInt8 := if l = [] then [45] else l.flatMap fun c => [hexd (c.toNat / 16), hexd (c.toNat % 16)]
theorem maskI_ints8 (l : List UInt8) : maskI (ints8 l) = l.flatMap fun c => [hexd (c.toNat / 16), hexd (c.toNat % 16)] := by
  rw [maskI, ints8, List.flatMap_map]
  rfl
theorem refMask_f (l : List UInt8) (hl : l.length ≤ 1000000000) : rafterref40_Mask.f (ints8 l) = some (B (maskB l)) := by
  rw [rafterref40_Mask.f, if_pos ⟨fun x hx => ints8_mem hx, by rw [ints8_length]; exact hl⟩, maskI_ints8, maskB]
  by_cases h : l = []
  · rw [if_pos h, if_pos (ints8_nil.2 h)]; rfl
  · rw [if_neg h, if_neg (fun e => h (ints8_nil.1 e))]
theorem and15 (n : Nat) (hn : n < 256) : Go.bits .and .u8 (n : Int) 15 = ((n % 16 : Nat) : Int) :=
  of256 (f := fun n => Go.bits .and .u8 (n : Int) 15) (g := fun n => ((n % 16 : Nat) : Int)) (by kernel_rfl) n hn
theorem or_two (x y : Nat) (hx : x < 16) (hy : y < 16) : Go.bits .or .u8 (((x : Int) * 16) % 256) (y : Int) = ((UInt8.ofNat (16 * x + y)).toNat : Int) := by
  have h := of256 (f := fun n => Go.bits .or .u8 ((((n / 16 : Nat) : Int) * 16) % 256) ((n % 16 : Nat) : Int)) (g := fun n => ((UInt8.ofNat n).toNat : Int)) (by kernel_rfl) (16 * x + y) (by omega)
  rwa [show (16 * x + y) / 16 = x by omega, show (16 * x + y) % 16 = y by omega] at h
theorem rd_ints {l : List UInt8} {i : Nat} {c : UInt8} {t : List UInt8} (h : l.drop i = c :: t) : rd (ints8 l) (i : Int) = (c.toNat : Int) := by
  have hi : i < l.length := by
    rcases Nat.lt_or_ge i l.length with h' | h'
    · exact h'
    · rw [List.drop_eq_nil_of_le h'] at h; cases h
  have e : l[i] = c := by
    rw [List.drop_eq_getElem_cons hi] at h
    exact (List.cons.inj h).1
  simp [rd, ints8, hi, e]
theorem drop_ltL {α : Type} {l : List α} {i : Nat} {c : α} {t : List α} (h : l.drop i = c :: t) : i < l.length := by
  rcases Nat.lt_or_ge i l.length with h' | h'
  · exact h'
  · rw [List.drop_eq_nil_of_le h'] at h; cases h
theorem drop_succL {α : Type} {l : List α} {i : Nat} {c : α} {t : List α} (h : l.drop i = c :: t) : l.drop (i + 1) = t := by
  rw [← List.drop_drop, h]
  rfl
theorem mask_loop (l : List UInt8) (hl : l.length ≤ 1000000) : ∀ (t : List UInt8) (i : Nat) (out : List UInt8), l.drop i = t → out.length ≤ 2 * i →
    Ev (fun k => tape_Mask.l0 k (B out) (ints8 l) (l.length : Int) (i : Int)) (B (out ++ t.flatMap fun c => [hexd (c.toNat / 16), hexd (c.toNat % 16)]))
  | [], i, out, ht, ho => by
    have hge := List.drop_eq_nil_iff.1 ht
    refine Ev.step (f := fun k => some _) (fun k => ?_) (Ev.now _)
    simp only [tape_Mask.l0]
    rw [if_neg (by omega)]
    simp
  | c :: t, i, out, ht, ho => by
    have hlt := drop_ltL ht
    have hw : wrap64 ((i : Int) + 1) = ((i + 1 : Nat) : Int) := by rw [wrap64_in (by omega) (by omega)]; omega
    have ih := mask_loop l hl t (i + 1) (out ++ [hexd (c.toNat / 16), hexd (c.toNat % 16)]) (drop_succL ht) (by rw [List.length_append]; simp; omega)
    rw [List.append_assoc, ← List.flatMap_cons (f := fun c : UInt8 => [hexd (c.toNat / 16), hexd (c.toNat % 16)]), ← B_append] at ih
    refine Ev.step (fun k => ?_) ih
    have hc := c.toNat_lt
    have h2 := two_hex c.toNat hc
    have hz : (B out).size = out.length := size_B out
    have hs2 : (hexM.extract (c.toNat / 16) (c.toNat / 16 + 1)).size + (hexM.extract (c.toNat % 16) (c.toNat % 16 + 1)).size = 2 := by
      rw [← ByteArray.size_append, h2, size_B]; rfl
    simp only [tape_Mask.l0]
    rw [if_pos (by omega), if_pos (by omega), if_pos (by rw [ints8_length]; omega), rd_ints ht, and15 _ hc, hw,
      show ((c.toNat : Int) / 16) = ((c.toNat / 16 : Nat) : Int) by omega, show (((c.toNat / 16 : Nat) : Int) + 1) % 256 = ((c.toNat / 16 + 1 : Nat) : Int) by omega,
      show (((c.toNat % 16 : Nat) : Int) + 1) % 256 = ((c.toNat % 16 + 1 : Nat) : Int) by omega, Int.toNat_natCast, Int.toNat_natCast, Int.toNat_natCast, Int.toNat_natCast,
      if_pos (by omega), if_pos (by omega), if_pos (by omega), if_pos (by omega), if_pos (by omega), if_pos (by omega)]
    rw [show (⟨#[48, 49, 50, 51, 52, 53, 54, 55, 56, 57, 97, 98, 99, 100, 101, 102]⟩ : ByteArray) = hexM from rfl, h2, if_pos (by omega), if_pos (by rw [hz, size_B]; simp; omega)]
theorem mask_ev (l : List UInt8) (hl : l.length ≤ 1000000) : Ev (fun k => tape_Mask.f k (ints8 l)) (B (maskB l)) := by
  unfold tape_Mask.f maskB
  by_cases h : l = []
  · subst h
    exact Ev.pos rfl (Ev.now _)
  · have hp := List.length_pos_iff.2 h
    refine Ev.neg (by rw [ints8_length]; omega) ?_
    have := mask_loop l hl l 0 [] rfl (by simp)
    rw [if_neg h, ints8_length]
    exact this
theorem tdigit_f (c : UInt8) : tape_digit.f (c.toNat : Int) = some ((digN c : Nat) : Int) := by
  have hd := digN_lt c
  have he : (c.toNat : Int).toNat.toUInt8 = c := by simp
  unfold tape_digit.f
  rw [strings_IndexByte.f, Option.bind_some, he, show (⟨#[48, 49, 50, 51, 52, 53, 54, 55, 56, 57, 97, 98, 99, 100, 101, 102]⟩ : ByteArray).toList = hexL from toList_B hexL]
  congr 1
  unfold digN mx at *
  split <;> omega
def unmL : List UInt8 → List UInt8
  | a :: b :: t => UInt8.ofNat (16 * digN a + digN b) :: unmL t
  | _ => []
theorem unmL_flat : ∀ l : List UInt8, unmL (l.flatMap fun c => [hexd (c.toNat / 16), hexd (c.toNat % 16)]) = l
  | [] => rfl
  | c :: l => by
    have hc := c.toNat_lt
    show unmL (hexd (c.toNat / 16) :: hexd (c.toNat % 16) :: l.flatMap _) = _
    rw [unmL, unmL_flat l, digN_hexd _ (by omega), digN_hexd _ (by omega), show 16 * (c.toNat / 16) + c.toNat % 16 = c.toNat by omega]
    simp
theorem unmL_mask (l : List UInt8) : unmL (maskB l) = l := by
  unfold maskB
  by_cases h : l = []
  · rw [if_pos h, h]; rfl
  · rw [if_neg h, unmL_flat]
def unmR (s : List UInt8) : List Int × Int := if maskB (unmL s) = s then (ints8 (unmL s), 0) else ([], 17)
theorem unmask_loop (s : ByteArray) (hs : s.size ≤ 100000) : ∀ (n : Nat) (t : List UInt8) (i : Nat) (acc : List UInt8), t.length ≤ n → s.toList.drop i = t → acc.length ≤ i → i ≤ s.size →
    Ev (fun k => tape_Unmask.l0 k s (ints8 acc) (i : Int)) (if maskB (acc ++ unmL t) = s.toList then (ints8 (acc ++ unmL t), 0) else ([], 17)) := by
  intro n
  induction n with
  | zero =>
    intro t i acc hn ht ha hi
    obtain rfl : t = [] := List.length_eq_zero_iff.1 (by omega)
    have hge := drop_nil ht
    have hw : wrap64 ((i : Int) + 1) = ((i + 1 : Nat) : Int) := by rw [wrap64_in (by omega) (by omega)]; omega
    refine Ev.step (f := fun k => (tape_Mask.f k (ints8 acc)).bind fun t571 => if t571.toList = s.toList then some (ints8 acc, (0 : Int)) else some (([] : List Int), (17 : Int))) (fun k => ?_) ?_
    · simp only [tape_Unmask.l0]
      rw [hw, if_neg (by omega)]
    · refine Ev.bind (mask_ev acc (by omega)) ?_
      simp only [toList_B, unmL, List.append_nil]
      by_cases h : maskB acc = s.toList
      · simp only [if_pos h]; exact Ev.now _
      · simp only [if_neg h]; exact Ev.now _
  | succ n ih =>
    intro t i acc hn ht ha hi
    have hlen : s.size = i + t.length := by
      have := congrArg List.length ht
      rw [List.length_drop, toList_length] at this
      omega
    have hw : wrap64 ((i : Int) + 1) = ((i + 1 : Nat) : Int) := by rw [wrap64_in (by omega) (by omega)]; omega
    have hw2 : wrap64 ((i : Int) + 2) = ((i + 2 : Nat) : Int) := by rw [wrap64_in (by omega) (by omega)]; omega
    have done : ∀ t : List UInt8, unmL t = [] → ¬ i + 1 < s.size → Ev (fun k => tape_Unmask.l0 k s (ints8 acc) (i : Int)) (if maskB (acc ++ unmL t) = s.toList then (ints8 (acc ++ unmL t), 0) else ([], 17)) := by
      intro t ht' hge
      refine Ev.step (f := fun k => (tape_Mask.f k (ints8 acc)).bind fun t571 => if t571.toList = s.toList then some (ints8 acc, (0 : Int)) else some (([] : List Int), (17 : Int))) (fun k => ?_) ?_
      · simp only [tape_Unmask.l0]
        rw [hw, if_neg (by omega)]
      · refine Ev.bind (mask_ev acc (by omega)) ?_
        simp only [toList_B, ht', List.append_nil]
        by_cases h : maskB acc = s.toList
        · simp only [if_pos h]; exact Ev.now _
        · simp only [if_neg h]; exact Ev.now _
    match t, hn, ht, hlen with
    | [], hn, ht, hlen => exact done [] rfl (by simp at hlen; omega)
    | [a], hn, ht, hlen => exact done [a] rfl (by simp at hlen; omega)
    | a :: b :: t, hn, ht, hlen =>
      simp only [List.length_cons] at hn hlen
      have ht2 := drop_succ (drop_succ ht)
      have hr := ih t (i + 2) (acc ++ [UInt8.ofNat (16 * digN a + digN b)]) (by omega) ht2 (by rw [List.length_append]; simp; omega) (by omega)
      rw [List.append_assoc] at hr
      refine Ev.step (fun k => ?_) hr
      have hb1 := bt_cons ht
      have hb2 := bt_cons (drop_succ ht)
      simp only [tape_Unmask.l0]
      rw [hw, if_pos (by omega), if_pos (by omega), if_pos (by omega), hb1, hb2, tdigit_f, tdigit_f, Option.bind_some, if_pos (by omega), Option.bind_some, if_pos (by rw [ints8_length]; omega), hw2, or_two _ _ (digN_lt a) (digN_lt b)]
      simp [ints8]
theorem unmask_ev (s : ByteArray) (hs : s.size ≤ 100000) : Ev (fun k => tape_Unmask.f k s) (unmR s.toList) :=
  unmask_loop s hs s.toList.length s.toList 0 [] (Nat.le_refl _) rfl (Nat.le_refl _) (Nat.zero_le _)
def noth (x : List UInt8) : Bool := match x with | [] => true | c :: _ => c == 35
def plainS : List (List UInt8) → List UInt8
  | [] => []
  | [x] => x
  | x :: y :: l => (if noth x = true then [] else x ++ [10]) ++ plainS (y :: l)
def flatP (l : List (List UInt8)) : List UInt8 := l.flatMap fun x => if noth x = true then [] else x ++ [10]
def sumP (l : List (List UInt8)) : Nat := (l.map fun x => x.length + 1).sum
theorem nothing_f (x : List UInt8) : tape_nothing.f (B x) = some (noth x) := by
  unfold tape_nothing.f
  rw [toList_B, size_B]
  cases x with
  | nil => rfl
  | cons c x =>
    rw [if_neg (by simp), if_pos (by rw [List.length_cons]; omega)]
    have : bt (B (c :: x)) ((0 : Nat) : Int) = (c.toNat : Int) := bt_cons (s := B (c :: x)) (i := 0) (by rw [toList_B]; rfl)
    rw [show (0 : Int) = ((0 : Nat) : Int) from rfl, this]
    congr 1
    show ((c.toNat : Int) == 35) = (c == 35)
    by_cases h : c = 35
    · subst h; rfl
    · rw [beq_eq_false_iff_ne.2 h, beq_eq_false_iff_ne.2]
      intro e
      exact h (UInt8.toNat_inj.1 (by show c.toNat = 35; omega))
end Go.Proofs.YtloibeefopdhpaaDoor.Plain
