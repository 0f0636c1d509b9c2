/- PathParts in plain words. -/
import Derived.Test.YtigpnhgheameoaaDoorPathMore
import Derived.Test.YtigpnhgheameoaaDoorG10
set_option linter.unusedVariables false
namespace Go.Proofs.YtigpnhgheameoaaDoor.Pure
open Go.RowKit Go.Proofs.YtigpnhgheameoaaDoor.G Go.Proofs.YtigpnhgheameoaaDoor.Plain Go.Proofs.YtigpnhgheameoaaDoorW.PrintWords Go.Proofs.YtigpnhgheameoaaDoorW.PrintLast Go.Proofs.YtigpnhgheameoaaDoorW.PrintMore

theorem rd_B (n : List (List UInt8)) (i : Nat) : rdOf ByteArray.empty (n.map B) (i : Int) = B (n.getD i []) := by
  rw [rdOf, Int.toNat_natCast, List.getD_eq_getElem?_getD, List.getD_eq_getElem?_getD, List.getElem?_map]
  cases n[i]? with
  | none => rfl
  | some x => rfl

/-! ### a list turned round -/
def Turned (X L : List ByteArray) (i : Nat) : Prop := L.length = X.length ∧ ∀ t, t < X.length → L[t]? = if t < i ∨ X.length ≤ t + i then X[X.length - 1 - t]? else X[t]?
theorem Turned.zero (X : List ByteArray) : Turned X X 0 := ⟨rfl, fun t h => by rw [if_neg (by omega)]⟩
theorem Turned.done {X L : List ByteArray} {i : Nat} (h : Turned X L i) (hi : X.length ≤ 2 * i + 1) : L = X.reverse := by
  refine List.ext_getElem? fun t => ?_
  by_cases ht : t < X.length
  · rw [h.2 t ht, List.getElem?_reverse ht]
    by_cases h2 : t < i ∨ X.length ≤ t + i
    · rw [if_pos h2]
    · rw [if_neg h2, show X.length - 1 - t = t by omega]
  · rw [List.getElem?_eq_none (by rw [h.1]; omega), List.getElem?_eq_none (by rw [List.length_reverse]; omega)]
theorem Turned.next {X L : List ByteArray} {i j : Nat} (h : Turned X L i) (hij : i < j) (hj : j = X.length - 1 - i) (h0 : i < X.length) : Turned X ((L.set i (L.getD j ByteArray.empty)).set j (L.getD i ByteArray.empty)) (i + 1) := by
  have hL := h.1
  refine ⟨by rw [List.length_set, List.length_set, h.1], fun t ht => ?_⟩
  have gj : L.getD j ByteArray.empty = X[j]'(by omega) := by
    rw [List.getD_eq_getElem?_getD, h.2 j (by omega), if_neg (by omega), List.getElem?_eq_getElem (by omega)]
    rfl
  have gi : L.getD i ByteArray.empty = X[i]'(by omega) := by
    rw [List.getD_eq_getElem?_getD, h.2 i (by omega), if_neg (by omega), List.getElem?_eq_getElem (by omega)]
    rfl
  rw [gj, gi]
  by_cases e1 : t = j
  · subst e1
    rw [List.getElem?_set_self (by rw [List.length_set]; omega), if_pos (by omega), show X.length - 1 - t = i by omega, List.getElem?_eq_getElem (by omega)]
  · rw [List.getElem?_set_ne (fun e => e1 e.symm)]
    by_cases e2 : t = i
    · subst e2
      rw [List.getElem?_set_self (by omega), if_pos (by omega), show X.length - 1 - t = j by omega, List.getElem?_eq_getElem (by omega)]
    · rw [List.getElem?_set_ne (fun e => e2 e.symm), h.2 t ht]
      by_cases h2 : t < i ∨ X.length ≤ t + i
      · rw [if_pos h2, if_pos (by omega)]
      · rw [if_neg h2, if_neg (by omega)]
theorem reverse_loop (X : List ByteArray) (hX : X.length ≤ 100000) : ∀ (m i : Nat) (L : List ByteArray), X.length - 2 * i = m → i ≤ X.length → Turned X L i → Ev (fun k => slices_Reverse_string_string.l0 k L (i : Int) ((X.length : Int) - 1 - i)) X.reverse := by
  intro m
  induction m using Nat.strongRecOn with
  | ind m ih =>
    intro i L hm hi h
    have hL := h.1
    by_cases hd : X.length ≤ 2 * i + 1
    · refine Ev.step (f := fun k => some L) (fun k => ?_) ?_
      · simp only [slices_Reverse_string_string.l0]
        rw [if_neg (by omega)]
      · rw [← h.done hd]
        exact Ev.now _
    · have hn := h.next (j := X.length - 1 - i) (by omega) rfl (by omega)
      have := ih (X.length - 2 * (i + 1)) (by omega) (i + 1) _ rfl (by omega) hn
      have hw : wrap64 ((i : Int) + 1) = ((i + 1 : Nat) : Int) := by rw [wrap64_in (by omega) (by omega)]; omega
      have hw2 : wrap64 ((X.length : Int) - 1 - i - 1) = (X.length : Int) - 1 - ((i + 1 : Nat) : Int) := by rw [wrap64_in (by omega) (by omega)]; omega
      have hz : ((X.length : Int) - 1 - i).toNat = X.length - 1 - i := by omega
      refine Ev.step (fun k => ?_) this
      simp only [slices_Reverse_string_string.l0]
      rw [if_pos (by omega), if_pos (by omega), if_pos (by omega), if_pos (by omega), if_pos (by omega), hw, hw2, rdOf, rdOf, hz, Int.toNat_natCast]
theorem reverse_ev (X : List ByteArray) (hX : X.length ≤ 100000) : Ev (fun k => slices_Reverse_string_string.f k X) X.reverse := by
  have := reverse_loop X hX _ 0 X rfl (Nat.zero_le _) (Turned.zero X)
  unfold slices_Reverse_string_string.f
  refine Ev.congr (fun k => ?_) this
  rw [wrap64_in (by omega) (by omega), show ((X.length : Int) - 1 - ((0 : Nat) : Int)) = (X.length : Int) - 1 by omega]
  rfl

/-! ### names taken and joined -/
theorem joinT_eq (l : List ByteArray) : joinT l (⟨#[47]⟩ : ByteArray) = joinL 47 (l.map ByteArray.toList) := by
  rw [joinT, show (⟨#[47]⟩ : ByteArray).toList = [47] from toList_B [47]]
  cases l.map ByteArray.toList with
  | nil => rfl
  | cons x r => rw [Go.Lib.join_cons, joinL_flat]; rfl
theorem nameOk_free {x : List UInt8} (h : nameOk x = true) : (47 : UInt8) ∉ x := by
  intro hm
  simp only [nameOk, Bool.and_eq_true] at h
  have := List.all_eq_true.1 h.2 47 hm
  exact absurd this (by decide)
theorem joinL_take_le (c : UInt8) (l : List (List UInt8)) (j : Nat) : (joinL c (l.take j)).length ≤ (joinL c l).length := by
  cases l with
  | nil => simp
  | cons x r =>
    cases j with
    | zero => simp [joinL]
    | succ j =>
      rw [List.take_succ_cons, joinL_flat, joinL_flat, List.length_append, List.length_append]
      have : ((r.take j).map (c :: ·)).flatten.length ≤ (r.map (c :: ·)).flatten.length := by
        conv => rhs; rw [← List.take_append_drop j r]
        rw [List.map_append, List.flatten_append, List.length_append]
        omega
      omega
theorem take_names (p : List UInt8) (j : Nat) : names (joinL 47 ((names p).take j)) = (names p).take j := by
  by_cases h : pathOk p = true
  · rw [names_ok h]
    by_cases hj : (splitL 47 p).take j = []
    · rw [hj]
      exact names_bad (by show ¬ pathOk [] = true; rw [pathOk_empty]; decide)
    · have hs : splitL 47 (joinL 47 ((splitL 47 p).take j)) = (splitL 47 p).take j :=
        splitL_joinL 47 _ hj (fun x hx => splitL_free 47 p x (List.mem_of_mem_take hx))
      have hle := joinL_take_le 47 (splitL 47 p) j
      rw [joinL_splitL] at hle
      have hok : pathOk (joinL 47 ((splitL 47 p).take j)) = true := by
        simp only [pathOk, Bool.and_eq_true, decide_eq_true_eq] at h ⊢
        rw [hs]
        refine ⟨⟨by omega, ?_⟩, ?_⟩
        · rw [List.length_take]; omega
        · exact List.all_eq_true.2 fun x hx => List.all_eq_true.1 h.2 x (List.mem_of_mem_take hx)
      rw [names_ok hok, hs]
  · rw [names_bad h, List.take_nil]
    exact names_bad (by show ¬ pathOk [] = true; rw [pathOk_empty]; decide)
theorem joinL_count (l : List (List UInt8)) (h : l ≠ []) : (joinL 47 l).count 47 + 1 = l.length + (l.map (List.count 47)).sum := by
  cases l with
  | nil => exact absurd rfl h
  | cons x r =>
    rw [joinL_flat, List.count_append]
    have : ∀ r : List (List UInt8), ((r.map (47 :: ·)).flatten).count 47 = r.length + (r.map (List.count 47)).sum := by
      intro r
      induction r with
      | nil => rfl
      | cons y r ih =>
        simp only [List.map_cons, List.flatten_cons, List.count_append, List.count_cons_self, List.sum_cons, List.length_cons, ih]
        omega
    rw [this r]
    simp only [List.map_cons, List.sum_cons, List.length_cons]
    omega
theorem sum_zero : ∀ {l : List Nat}, l.sum = 0 → ∀ x ∈ l, x = 0
  | [], _, _, h => by cases h
  | a :: l, h, x, hx => by
    rw [List.sum_cons] at h
    rcases List.mem_cons.1 hx with e | hx
    · omega
    · exact sum_zero (by omega) x hx
theorem join_names (l : List (List UInt8)) : (names (joinL 47 l)).length = l.length ↔ names (joinL 47 l) = l := by
  refine ⟨fun h => ?_, fun h => by rw [h]⟩
  by_cases hl : l = []
  · rw [hl] at h ⊢
    exact List.eq_nil_of_length_eq_zero h
  · have hne : names (joinL 47 l) ≠ [] := fun e => by
      rw [e] at h
      exact hl (List.eq_nil_of_length_eq_zero h.symm)
    rw [names_ok (names_ne.1 hne)] at h ⊢
    rw [splitL_length, joinL_count l hl] at h
    refine splitL_joinL 47 l hl fun x hx => ?_
    have := sum_zero (l := l.map (List.count 47)) (by omega) _ (List.mem_map.2 ⟨x, hx, rfl⟩)
    exact List.count_eq_zero.1 this
/-- What path.Join tells. -/
def pathJoin (l : List (List UInt8)) : List UInt8 := if names (joinL 47 l) = l then joinL 47 l else []
theorem pathJoin_ev (l : List ByteArray) (hl : l.length ≤ 1000) (hs : (joinL 47 (l.map ByteArray.toList)).length ≤ 100000) : Ev (fun k => path_Join.f k l) (B (pathJoin (l.map ByteArray.toList))) := by
  unfold path_Join.f
  have hj : strings_Join.f l (⟨#[47]⟩ : ByteArray) = some (B (joinL 47 (l.map ByteArray.toList))) := by
    unfold strings_Join.f
    rw [joinT_eq, if_pos ⟨by omega, by omega⟩]
  rw [hj]
  have hn := pathSplit_ev (B (joinL 47 (l.map ByteArray.toList))) (by rw [size_B]; omega)
  rw [toList_B] at hn
  refine Ev.bind (Ev.now _) (Ev.bind hn ?_)
  rw [List.length_map]
  unfold pathJoin
  have h := join_names (l.map ByteArray.toList)
  rw [List.length_map] at h
  by_cases e : names (joinL 47 (l.map ByteArray.toList)) = l.map ByteArray.toList
  · refine Ev.pos (by have := h.2 e; omega) ?_
    rw [if_pos e]
    exact Ev.now _
  · refine Ev.neg (fun h2 => e (h.1 (by omega))) ?_
    rw [if_neg e]
    exact Ev.now _
theorem pathJoin_take (p : List UInt8) (j : Nat) : pathJoin ((names p).take j) = joinL 47 ((names p).take j) := by
  unfold pathJoin
  rw [if_pos (take_names p j)]
theorem names_join_le (p : List UInt8) (j : Nat) : (joinL 47 ((names p).take j)).length ≤ 200 := by
  have h := joinL_take_le 47 (names p) j
  by_cases hp : pathOk p = true
  · rw [names_ok hp, joinL_splitL] at h
    have := pathOk_le hp
    rw [names_ok hp]
    omega
  · rw [names_bad hp] at h ⊢
    simp [joinL] at h ⊢
theorem mx_len (n : Nat) (hn : n ≤ 100000) : mx (wrap64 ((n : Int) - 1)) 0 = ((n - 1 : Nat) : Int) := by
  rw [wrap64_in (by omega) (by omega)]
  unfold mx
  omega
/-- The first j names, joined. -/
def head (p : List UInt8) (j : Nat) : List UInt8 := joinL 47 ((names p).take j)
theorem dir_ev (s : ByteArray) (hs : s.size ≤ 100000) : Ev (fun k => path_Dir.f k s) (B (head s.toList ((names s.toList).length - 1))) := by
  unfold path_Dir.f
  have ln := names_len s.toList
  refine Ev.bind (pathSplit_ev s hs) ?_
  have hj := pathJoin_ev (((names s.toList).take ((names s.toList).length - 1)).map B) (by rw [List.length_map, List.length_take]; omega) (by rw [map_B]; have := names_join_le s.toList ((names s.toList).length - 1); omega)
  rw [map_B, pathJoin_take] at hj
  rw [List.length_map, mx_len _ (by omega)]
  refine Ev.pos (by omega) (Ev.pos (by omega) ?_)
  rw [Int.toNat_natCast, ← List.map_take]
  exact Ev.bind hj (Ev.now _)
theorem base_ev (s : ByteArray) (hs : s.size ≤ 100000) : Ev (fun k => path_Base.f k s) (B ((names s.toList).getD ((names s.toList).length - 1) [])) := by
  unfold path_Base.f
  have ln := names_len s.toList
  refine Ev.bind (pathSplit_ev s hs) ?_
  rw [List.length_map]
  by_cases h : names s.toList = []
  · refine Ev.pos (by rw [h]; rfl) ?_
    rw [h]
    exact Ev.now _
  · have := List.length_pos_iff.2 h
    have hw : wrap64 (((names s.toList).length : Int) - 1) = (((names s.toList).length - 1 : Nat) : Int) := by rw [wrap64_in (by omega) (by omega)]; omega
    refine Ev.neg (by omega) ?_
    rw [hw, rd_B]
    exact Ev.pos (by omega) (Ev.pos (by omega) (Ev.now _))
theorem head_names (p : List UInt8) (j : Nat) : names (head p j) = (names p).take j := take_names p j
theorem head_len (p : List UInt8) (j : Nat) : (head p j).length ≤ 200 := names_join_le p j
theorem ups_loop (p : List UInt8) : ∀ (j : Nat) (out : List ByteArray), j ≤ (names p).length → out.length + j ≤ 1000 → Ev (fun k => path_Ups.l k (B (head p j)) out) ((List.range j).map (fun i => B (head p (i + 1))) ++ out.reverse)
  | 0, out, hj, ho => by
    refine Ev.step (f := fun k => slices_Reverse_string_string.f k out) (fun k => ?_) (reverse_ev out (by omega))
    rw [path_Ups.l, toList_B, if_pos (by rw [head, List.take_zero]; rfl)]
  | j + 1, out, hj, ho => by
    have hne : head p (j + 1) ≠ [] := by
      intro e
      have := head_names p (j + 1)
      rw [e, names_bad (by rw [pathOk_empty]; decide)] at this
      have := congrArg List.length this
      rw [List.length_take, List.length_nil] at this
      omega
    have ih := ups_loop p j (out ++ [B (head p (j + 1))]) (by omega) (by rw [List.length_append]; simp only [List.length_cons, List.length_nil]; omega)
    have e : (List.range j).map (fun i => B (head p (i + 1))) ++ (out ++ [B (head p (j + 1))]).reverse = (List.range (j + 1)).map (fun i => B (head p (i + 1))) ++ out.reverse := by
      rw [List.range_succ]; simp
    rw [e] at ih
    have hd := dir_ev (B (head p (j + 1))) (by rw [size_B]; have := head_len p (j + 1); omega)
    have ed : head (head p (j + 1)) ((names (head p (j + 1))).length - 1) = head p j := by
      rw [head, head_names, List.length_take, head, List.take_take]
      congr 2
      omega
    rw [toList_B, ed] at hd
    refine Ev.step (f := fun k => (path_Dir.f k (B (head p (j + 1)))).bind fun q2 => path_Ups.l k q2 (out ++ [B (head p (j + 1))])) (fun k => ?_) (Ev.bind hd ih)
    rw [path_Ups.l, toList_B, if_neg hne, if_pos (by omega)]
theorem ups_ev (s : ByteArray) (hs : s.size ≤ 100000) : Ev (fun k => path_Ups.f k s) ((List.range ((names s.toList).length - 1)).map (fun i => B (head s.toList (i + 1)))) := by
  unfold path_Ups.f
  have ln := names_len s.toList
  have := ups_loop s.toList ((names s.toList).length - 1) [] (by omega) (by simp; omega)
  rw [List.reverse_nil, List.append_nil] at this
  exact Ev.bind (dir_ev s hs) this

/-! ### the law -/
theorem tail_loop (a : ByteArray) (l : List ByteArray) (ha : a.size ≤ 400) (hl : l.length ≤ 20) (hls : (joinL 47 (l.map ByteArray.toList)).length ≤ 10000) : ∀ (m i : Nat), (names a.toList).length - 1 = i + m →
    Ev (fun k => rafterlaw05_PathParts.l1 k a l ((names a.toList).map B) (B (head a.toList ((names a.toList).length - 1))) (B ((names a.toList).getD ((names a.toList).length - 1) [])) (B (pathJoin (l.map ByteArray.toList))) ((List.range ((names a.toList).length - 1)).map (fun i => B (head a.toList (i + 1)))) (i : Int)) true
  | 0, i, hm => by
    have ln := names_len a.toList
    refine Ev.step (fun k => by rw [rafterlaw05_PathParts.l1]) ?_
    simp only [List.length_map, List.length_range]
    refine Ev.neg (by omega) ?_
    have hh : rafterref01_High.f (wrap64 (((names a.toList).length : Int) - 1)) 0 = some (((names a.toList).length - 1 : Nat) : Int) := by
      unfold rafterref01_High.f
      rw [wrap64_in (by omega) (by omega)]
      by_cases h : (((names a.toList).length : Int) - 1) > 0
      · rw [if_pos h]; congr 1; omega
      · rw [if_neg h]; congr 1; omega
    have hs := same_ev ((names a.toList).map B) ((names a.toList).map B) (by rw [List.length_map]; omega)
    rw [decide_eq_true rfl] at hs
    rw [hh]
    refine Ev.bind awake05 (Ev.pos rfl (Ev.bind (Ev.now _) (Ev.pos rfl (Ev.bind (pathRight_ev a (by omega)) (Ev.bind (refRight_ev a (by omega)) (Ev.pos (by simp) (Ev.bind (pathSplit_ev a (by omega)) (Ev.bind hs (Ev.pos rfl (Ev.bind (dir_ev a (by omega)) (Ev.pos rfl (Ev.bind (base_ev a (by omega)) (Ev.pos rfl (Ev.bind (pathJoin_ev l (by omega) (by omega)) ?_))))))))))))))
    refine Ev.congr (fun k => ?_) (Ev.now true)
    simp
  | m + 1, i, hm => by
    have ln := names_len a.toList
    have ih := tail_loop a l ha hl hls m (i + 1) (by omega)
    have hw : wrap64 ((i : Int) + 1) = ((i + 1 : Nat) : Int) := by rw [wrap64_in (by omega) (by omega)]; omega
    have hw2 : wrap64 (((names a.toList).length : Int) - 1) = (((names a.toList).length - 1 : Nat) : Int) := by rw [wrap64_in (by omega) (by omega)]; omega
    have hj := join_ev (((names a.toList).take (i + 1)).map B) (by rw [List.length_map, List.length_take]; omega) (by rw [map_B]; have := names_join_le a.toList (i + 1); omega)
    rw [map_B] at hj
    have hrd : rdOf ByteArray.empty ((List.range ((names a.toList).length - 1)).map (fun i => B (head a.toList (i + 1)))) (i : Int) = B (head a.toList (i + 1)) := by
      rw [rdOf, Int.toNat_natCast, List.getD_eq_getElem?_getD, List.getElem?_map, List.getElem?_range (by omega)]
      rfl
    refine Ev.step (f := fun k => (rafterref05_Join.f k (((names a.toList).take (i + 1)).map B)).bind fun t215 => (if (B (head a.toList (i + 1))).toList = t215.toList then (rafterlaw05_PathParts.l1 k a l ((names a.toList).map B) (B (head a.toList ((names a.toList).length - 1))) (B ((names a.toList).getD ((names a.toList).length - 1) [])) (B (pathJoin (l.map ByteArray.toList))) ((List.range ((names a.toList).length - 1)).map (fun i => B (head a.toList (i + 1)))) ((i + 1 : Nat) : Int)) else (some false))) (fun k => ?_) (Ev.bind hj (Ev.pos rfl ih))
    rw [rafterlaw05_PathParts.l1]
    simp only [List.length_map, List.length_range]
    rw [if_pos (by omega), hw2, if_pos rfl, if_pos (by omega), hw, if_pos (by omega), if_pos (by omega), hrd, Int.toNat_natCast, List.map_take]
theorem j2_ev (a : ByteArray) (l : List ByteArray) (ha : a.size ≤ 400) (hl : l.length ≤ 20) (hls : (joinL 47 (l.map ByteArray.toList)).length ≤ 10000) :
    Ev (fun k => rafterlaw05_PathParts.j2 k a l ((names a.toList).map B) (B (head a.toList ((names a.toList).length - 1))) (B ((names a.toList).getD ((names a.toList).length - 1) []))) true := by
  have hj3 : Ev (fun k => rafterlaw05_PathParts.j3 k a l ((names a.toList).map B) (B (head a.toList ((names a.toList).length - 1))) (B ((names a.toList).getD ((names a.toList).length - 1) [])) (B (pathJoin (l.map ByteArray.toList)))) true := by
    refine Ev.step (fun k => by rw [rafterlaw05_PathParts.j3]) ?_
    exact Ev.bind (ups_ev a (by omega)) (tail_loop a l ha hl hls ((names a.toList).length - 1) 0 (by omega))
  have hj := join_ev l (by omega) (by omega)
  have hn := refNames_ev (B (joinL 47 (l.map ByteArray.toList))) (by rw [size_B]; omega)
  rw [toList_B] at hn
  have ln := names_len (joinL 47 (l.map ByteArray.toList))
  have hs := same_ev ((names (joinL 47 (l.map ByteArray.toList))).map B) l (by rw [List.length_map]; omega)
  rw [map_B] at hs
  refine Ev.step (fun k => by rw [rafterlaw05_PathParts.j2]) ?_
  refine Ev.bind hj (Ev.bind hn (Ev.bind hs ?_))
  by_cases e : names (joinL 47 (l.map ByteArray.toList)) = l.map ByteArray.toList
  · refine Ev.pos (decide_eq_true e) ?_
    unfold pathJoin at hj3
    rw [if_pos e] at hj3
    exact hj3
  · refine Ev.neg (fun h => e (of_decide_eq_true h)) ?_
    unfold pathJoin at hj3
    rw [if_neg e] at hj3
    exact hj3
theorem joinL_le (l : List ByteArray) (hl : l.length ≤ 20) (h : ∀ x ∈ l, x.size ≤ 100) : (joinL 47 (l.map ByteArray.toList)).length ≤ 10000 := by
  have : ∀ l : List ByteArray, (∀ x ∈ l, x.size ≤ 100) → (((l.map ByteArray.toList).map ((47 : UInt8) :: ·)).flatten).length ≤ 101 * l.length := by
    intro l h
    induction l with
    | nil => simp
    | cons x r ih =>
      have := ih (fun y hy => h y (List.mem_cons_of_mem _ hy))
      have h2 := h x List.mem_cons_self
      have h3 := toList_length x
      simp only [List.map_cons, List.flatten_cons, List.length_append, List.length_cons] at this ⊢
      omega
  cases l with
  | nil => simp [joinL]
  | cons x r =>
    have h1 := this r (fun y hy => h y (List.mem_cons_of_mem _ hy))
    have h2 := h x List.mem_cons_self
    have h3 := toList_length x
    rw [List.length_cons] at hl
    rw [List.map_cons, joinL_flat, List.length_append]
    omega
theorem head_loop (a : ByteArray) (l : List ByteArray) (ha : a.size ≤ 400) (hl : l.length ≤ 20) : ∀ (t : List ByteArray) (i : Nat), l.drop i = t → (∀ x ∈ l.take i, x.size ≤ 100) → Ev (fun k => rafterlaw05_PathParts.l0 k a l (i : Int)) true
  | [], i, ht, hb => by
    have hge := List.drop_eq_nil_iff.1 ht
    have ln := names_len a.toList
    rw [List.take_of_length_le hge] at hb
    have hls := joinL_le l hl hb
    have hfin := j2_ev a l ha hl hls
    refine Ev.step (fun k => by rw [rafterlaw05_PathParts.l0, if_neg (by omega)]) ?_
    refine Ev.bind (refNames_ev a (by omega)) ?_
    rw [List.length_map]
    by_cases h : names a.toList = []
    · refine Ev.neg (by rw [h]; simp) ?_
      rw [h] at hfin ⊢
      unfold head at hfin
      rw [h] at hfin
      exact hfin
    · have := List.length_pos_iff.2 h
      have hw : wrap64 (((names a.toList).length : Int) - 1) = (((names a.toList).length - 1 : Nat) : Int) := by rw [wrap64_in (by omega) (by omega)]; omega
      have hj := join_ev (((names a.toList).take ((names a.toList).length - 1)).map B) (by rw [List.length_map, List.length_take]; omega) (by rw [map_B]; have := names_join_le a.toList ((names a.toList).length - 1); omega)
      rw [map_B] at hj
      rw [hw, rd_B, Int.toNat_natCast, ← List.map_take]
      exact Ev.pos (by omega) (Ev.pos (by omega) (Ev.pos (by omega) (Ev.bind hj (Ev.pos (by omega) hfin))))
  | x :: t, i, ht, hb => by
    have hlt := lt_of_drop ht
    have hw : wrap64 ((i : Int) + 1) = ((i + 1 : Nat) : Int) := by rw [wrap64_in (by omega) (by omega)]; omega
    by_cases hx : (x.size : Int) > 100
    · refine Ev.step (f := fun k => (rafterlaw05_awake.f k).bind fun t192 => (some t192)) (fun k => ?_) (Ev.bind awake05 (Ev.now _))
      rw [rafterlaw05_PathParts.l0, if_pos (by omega), if_pos (by omega), rdOf_at ht, if_pos hx]
    · have ih := head_loop a l ha hl t (i + 1) (succ_of_drop ht) (by
        intro y hy
        rw [List.take_add_one] at hy
        rcases List.mem_append.1 hy with hy | hy
        · exact hb y hy
        · have : l[i]? = some x := by
            have := congrArg (fun l => l[0]?) ht
            simpa using this
          rw [this] at hy
          simp at hy
          rw [hy]; omega)
      refine Ev.step (fun k => ?_) ih
      rw [rafterlaw05_PathParts.l0, if_pos (by omega), if_pos (by omega), rdOf_at ht, if_neg hx, hw]

theorem PathParts (a : ByteArray) (l : List ByteArray) (ha : a.size ≤ 140737488351232) (hl : (∀ x ∈ l, x.size ≤ 140737488351232) ∧ l.length * 16 ≤ 140737488351232 ∧ l.length ≤ 9223372036854775807) : ∃ k, rafterlaw05_PathParts.f k a l = some true := by
  suffices h : Ev (fun k => rafterlaw05_PathParts.f k a l) true by
    obtain ⟨N, hN⟩ := h
    exact ⟨N, hN N (Nat.le_refl _)⟩
  have hT : Ev (fun k => rafterlaw05_PathParts.j0 k a l true) true := by
    refine Ev.step (fun k => ?_) (Ev.bind awake05 (Ev.now _))
    simp only [rafterlaw05_PathParts.j0]
    rw [if_pos trivial]
  unfold rafterlaw05_PathParts.f
  by_cases h1 : (a.size : Int) > 400
  · exact Ev.pos h1 hT
  refine Ev.neg h1 ?_
  by_cases h2 : (l.length : Int) > 20
  · rw [decide_eq_true h2]; exact hT
  rw [decide_eq_false h2]
  refine Ev.step (fun k => by rw [rafterlaw05_PathParts.j0, if_neg (by decide)]) ?_
  exact head_loop a l (by omega) (by omega) _ 0 rfl (by simp)

end Go.Proofs.YtigpnhgheameoaaDoor.Pure
