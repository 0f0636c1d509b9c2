/- The program's and the reference's answers are the same for operations that may be; both ways round too. -/
import Derived.Test.YtmimejckcknjfaaDoorRefPatches
import Derived.Test.YtmimejckcknjfaaDoorLawMay
set_option linter.unusedVariables false
namespace Go.Proofs.YtmimejckcknjfaaDoor.Plain
open Go.RowKit Go.Proofs.YtmimejckcknjfaaDoor.G Go.Proofs.YtmimejckcknjfaaDoorW.PrintWords Go.Proofs.YtmimejckcknjfaaDoorW.PrintLast Go.Proofs.YtmimejckcknjfaaDoorW.PrintMore

def mapP (p : TPlace) : S35 := ⟨textI p.f0, p.f1⟩
def plC (x : TOp) : List S35 := (plR x).map mapP
def txC (x : TOp) : ByteArray := textI x.f1
theorem plR_right {x : TOp} (h : MayOp x) : ∀ p ∈ plR x, rightI p.f0 = true := by
  intro p hp
  unfold plR at hp
  by_cases h4 : x.f0 = 4
  · rw [if_pos h4] at hp
    rcases List.mem_cons.1 hp with rfl | hp
    · exact rightI_of_or (h.par (by omega))
    · rw [List.mem_singleton.1 hp]
      exact rightI_of_or (h.dest h4)
  · rw [if_neg h4] at hp
    by_cases h5 : 1 ≤ x.f0 ∧ x.f0 ≤ 4
    · rw [if_pos h5] at hp
      rw [List.mem_singleton.1 hp]
      exact rightI_of_or (h.par (by omega))
    · rw [if_neg h5] at hp
      cases hp
theorem opIs_ev {x : TOp} (h : MayOp x) (hs : OpSized x) (hl : x.f8.length ≤ 40) : ∃ K, ∀ k, K ≤ k → OpIs k x (plC x) (txC x) := by
  obtain ⟨K1, h1⟩ := identText_ev x.f1 hs.s1 (rightI_of_made h.self)
  have hk1 := h.k1
  have hk5 := h.k5
  by_cases h5 : x.f0 = 5
  · refine ⟨K1, fun k hk => ⟨?_, h1 k hk, by omega⟩⟩
    unfold clash_Places.f plC plR
    rw [if_neg (by omega), if_neg (by omega), if_neg (by omega), if_neg (by omega)]
    rfl
  obtain ⟨K2, h2⟩ := identText_ev x.f2 hs.s2 (rightI_of_or (h.par h5))
  by_cases h4 : x.f0 = 4
  · obtain ⟨K3, h3⟩ := identText_ev x.f3 hs.s3 (rightI_of_or (h.dest h4))
    refine ⟨K1 + K2 + K3, fun k hk => ⟨?_, h1 k (by omega), by omega⟩⟩
    have e2 : ident_Text.f k x.f2.f0 x.f2.f1 = some (textI x.f2) := h2 k (by omega)
    have e3 : ident_Text.f k x.f3.f0 x.f3.f1 = some (textI x.f3) := h3 k (by omega)
    unfold clash_Places.f plC plR
    rw [if_pos h4, if_pos h4, e2, e3]
    rfl
  · refine ⟨K1 + K2, fun k hk => ⟨?_, h1 k (by omega), by omega⟩⟩
    have e2 : ident_Text.f k x.f2.f0 x.f2.f1 = some (textI x.f2) := h2 k (by omega)
    unfold clash_Places.f plC plR
    rw [if_neg h4, if_pos (by omega), if_neg h4, if_pos (by omega), e2]
    rfl
theorem opIs_all : ∀ l : List TOp, (∀ x ∈ l, MayOp x) → (∀ x ∈ l, OpSized x) → (∀ x ∈ l, x.f8.length ≤ 40) → ∃ K, ∀ k, K ≤ k → ∀ x ∈ l, OpIs k x (plC x) (txC x)
  | [], _, _, _ => ⟨0, fun _ _ _ h => by cases h⟩
  | x :: l, hm, hs, hl => by
    obtain ⟨K1, h1⟩ := opIs_ev (hm x List.mem_cons_self) (hs x List.mem_cons_self) (hl x List.mem_cons_self)
    obtain ⟨K2, h2⟩ := opIs_all l (fun y hy => hm y (List.mem_cons_of_mem _ hy)) (fun y hy => hs y (List.mem_cons_of_mem _ hy)) (fun y hy => hl y (List.mem_cons_of_mem _ hy))
    refine ⟨K1 + K2, fun k hk y hy => ?_⟩
    rcases List.mem_cons.1 hy with rfl | hy
    · exact h1 k (by omega)
    · exact h2 k (by omega) y hy

/-! ### sameness -/
theorem sameI_comm (x y : TId) : sameI x y = sameI y x := by
  unfold sameI
  rw [Bool.eq_iff_iff]
  simp only [Bool.and_eq_true, beq_iff_eq]
  constructor <;> rintro ⟨h1, h2⟩ <;> exact ⟨h1.symm, h2.symm⟩
theorem any_congr {α : Type} {l : List α} {p q : α → Bool} (h : ∀ x ∈ l, p x = q x) : l.any p = l.any q := by
  induction l with
  | nil => rfl
  | cons a l ih => rw [List.any_cons, List.any_cons, h a List.mem_cons_self, ih (fun x hx => h x (List.mem_cons_of_mem _ hx))]
theorem any_or {α : Type} (l : List α) (p q : α → Bool) : (l.any fun x => p x || q x) = (l.any p || l.any q) := by
  induction l with
  | nil => rfl
  | cons a l ih =>
    rw [List.any_cons, List.any_cons, List.any_cons, ih]
    cases p a <;> cases q a <;> simp
theorem any_swap {α β : Type} (l : List α) (m : List β) (r : α → β → Bool) : (l.any fun x => m.any fun y => r x y) = (m.any fun y => l.any fun x => r x y) := by
  rw [Bool.eq_iff_iff]
  simp only [List.any_eq_true]
  constructor
  · rintro ⟨x, hx, y, hy, h⟩
    exact ⟨y, hy, x, hx, h⟩
  · rintro ⟨y, hy, x, hx, h⟩
    exact ⟨x, hx, y, hy, h⟩
theorem touch_same (x y : TOp) : touchC x y = touchR x y := by
  unfold touchC touchR meetI hasR meetR hasR
  have e : ∀ z : TId, ((y.f6 :: y.f7 :: y.f8).any fun q => sameI z q) = (sameI z y.f6 || (sameI z y.f7 || y.f8.any fun q => sameI q z)) := fun z => by
    rw [List.any_cons, List.any_cons, any_congr (l := y.f8) (fun q _ => sameI_comm z q)]
  rw [any_congr (l := x.f8) (fun z _ => e z), any_or, any_or]
theorem hunks_same (x y : TOp) : hunksC x y = hunksR x y := by
  unfold hunksC hunksR
  rw [touch_same, touch_same]
theorem sameP_map {p q : TPlace} (hp : rightI p.f0 = true) (hq : rightI q.f0 = true) : sameP (mapP p) (mapP q) = samePl p q := by
  show ((textI p.f0).toList == (textI q.f0).toList && p.f1.toList == q.f1.toList) = _
  rw [textI_same hp hq]
  rfl
theorem shared_same {x y : TOp} (hx : MayOp x) (hy : MayOp y) : sharedC (plC x) (plC y) = (plR x).any fun p => (plR y).any (samePl p) := by
  unfold sharedC plC
  rw [List.any_map]
  refine any_congr fun p hp => ?_
  show ((plR y).map mapP).any (sameP (mapP p)) = _
  rw [List.any_map]
  exact any_congr fun q hq => sameP_map (plR_right hx p hp) (plR_right hy q hq)
theorem in_same {x y : TOp} (hx : MayOp x) (hy : MayOp y) : inC (txC x) (plC y) = (plR y).any fun p => sameI p.f0 x.f1 := by
  unfold inC plC
  rw [List.any_map]
  exact any_congr fun q hq => textI_same (plR_right hy q hq) (rightI_of_made hx.self)
theorem ops_same {x y : TOp} (hx : MayOp x) (hy : MayOp y) : opsT txC plC x y = opsR x y := by
  unfold opsT opsC opsR
  rw [hunks_same, shared_same hx hy, in_same hx hy, in_same hy hx]
  unfold movesC
  rw [Bool.and_comm (y.f0 == 5) (x.f0 == 3)]
  generalize (sameI x.f1 y.f1 && (x.f0 == 5 && (y.f0 == 5 && hunksR x y))) = a1
  generalize (sameI x.f1 y.f1 && (x.f0 == 5 && y.f0 == 3 || x.f0 == 3 && y.f0 == 5)) = a2
  generalize ((plR x).any fun p => (plR y).any (samePl p)) = a3
  generalize (sameI x.f1 y.f1 && ((x.f0 == 3 || x.f0 == 4) && (y.f0 == 3 || y.f0 == 4))) = a4
  generalize (x.f0 == 3 && (plR y).any fun p => sameI p.f0 x.f1) = a5
  generalize (y.f0 == 3 && (plR x).any fun p => sameI p.f0 y.f1) = a6
  cases a1 <;> cases a2 <;> cases a3 <;> cases a4 <;> cases a5 <;> cases a6 <;> rfl

/-! ### both ways round -/
theorem samePl_comm (p q : TPlace) : samePl p q = samePl q p := by
  unfold samePl
  have := sameI_comm p.f0 q.f0
  unfold sameI at this
  rw [this, show (p.f1.toList == q.f1.toList) = (q.f1.toList == p.f1.toList) from by rw [Bool.eq_iff_iff]; simp only [beq_iff_eq]; exact ⟨Eq.symm, Eq.symm⟩]
theorem ops_comm (x y : TOp) : opsR x y = opsR y x := by
  unfold opsR
  have e1 : (sameI x.f1 y.f1 && (x.f0 == 5 && (y.f0 == 5 && hunksR x y))) = (sameI y.f1 x.f1 && (y.f0 == 5 && (x.f0 == 5 && hunksR y x))) := by
    unfold hunksR
    rw [sameI_comm y.f1, sameI_comm y.f6, sameI_comm y.f7]
    generalize sameI x.f1 y.f1 = a
    generalize (x.f0 == 5) = b
    generalize (y.f0 == 5) = c
    generalize sameI x.f6 y.f6 = d
    generalize sameI x.f7 y.f7 = e
    generalize touchR x y = f
    generalize touchR y x = g
    cases a <;> cases b <;> cases c <;> cases d <;> cases e <;> cases f <;> cases g <;> rfl
  have e2 : (sameI x.f1 y.f1 && (x.f0 == 5 && y.f0 == 3 || x.f0 == 3 && y.f0 == 5)) = (sameI y.f1 x.f1 && (y.f0 == 5 && x.f0 == 3 || y.f0 == 3 && x.f0 == 5)) := by
    rw [sameI_comm y.f1]
    generalize sameI x.f1 y.f1 = a
    generalize (x.f0 == 5) = b
    generalize (y.f0 == 5) = c
    generalize (x.f0 == 3) = d
    generalize (y.f0 == 3) = e
    cases a <;> cases b <;> cases c <;> cases d <;> cases e <;> rfl
  have e3 : ((plR x).any fun p => (plR y).any (samePl p)) = ((plR y).any fun p => (plR x).any (samePl p)) := by
    rw [show ((plR x).any fun p => (plR y).any (samePl p)) = ((plR x).any fun p => (plR y).any fun q => samePl p q) from rfl, any_swap]
    exact any_congr fun q _ => any_congr fun p _ => samePl_comm p q
  have e4 : (sameI x.f1 y.f1 && ((x.f0 == 3 || x.f0 == 4) && (y.f0 == 3 || y.f0 == 4))) = (sameI y.f1 x.f1 && ((y.f0 == 3 || y.f0 == 4) && (x.f0 == 3 || x.f0 == 4))) := by
    rw [sameI_comm y.f1, Bool.and_comm (x.f0 == 3 || x.f0 == 4)]
  rw [e1, e2, e3, e4]
  generalize (x.f0 == 3 && (plR y).any fun p => sameI p.f0 x.f1) = a5
  generalize (y.f0 == 3 && (plR x).any fun p => sameI p.f0 y.f1) = a6
  cases a5 <;> cases a6 <;> rfl

/-! ### patches -/
theorem rowT_congr {f g : TOp → TOp → Int} (x : TOp) (i : Nat) : ∀ (l : List TOp) (k : Nat), (∀ y ∈ l, f x y = g x y) → rowT f x i l k = rowT g x i l k
  | [], _, _ => rfl
  | y :: l, k, h => by rw [rowT, rowT, h y List.mem_cons_self, rowT_congr x i l (k + 1) (fun z hz => h z (List.mem_cons_of_mem _ hz))]
theorem pairsT_congr {f g : TOp → TOp → Int} (m : List TOp) : ∀ (l : List TOp) (i : Nat), (∀ x ∈ l, ∀ y ∈ m, f x y = g x y) → pairsT f m l i = pairsT g m l i
  | [], _, _ => rfl
  | x :: l, i, h => by rw [pairsT, pairsT, rowT_congr x i m 0 (h x List.mem_cons_self), pairsT_congr m l (i + 1) (fun z hz => h z (List.mem_cons_of_mem _ hz))]
/-- What the first of a row's pairs answers. -/
theorem rowT_head (f : TOp → TOp → Int) (x : TOp) (i : Nat) (M : List TOp) : ∀ (l : List TOp) (k : Nat), M.drop k = l → match rowT f x i l k with
    | [] => rowF f x l = 0
    | p :: _ => p.f0 = (i : Int) ∧ rowF f x l ≠ 0 ∧ f x (rd_T27 M p.f1) = rowF f x l
  | [], _, _ => rfl
  | y :: l, k, hk => by
    rw [rowT, rowF]
    have hlt : k < M.length := by
      rcases Nat.lt_or_ge k M.length with h | h
      · exact h
      · rw [List.drop_eq_nil_of_le h] at hk; cases hk
    have hd : M[k] = y ∧ M.drop (k + 1) = l := by
      rw [List.drop_eq_getElem_cons hlt] at hk
      exact List.cons.inj hk
    by_cases h : f x y = 0
    · rw [if_pos h, if_pos h]
      exact rowT_head f x i M l (k + 1) hd.2
    · rw [if_neg h, if_neg h]
      refine ⟨rfl, h, ?_⟩
      show f x (rd_T27 M (k : Int)) = _
      rw [show rd_T27 M (k : Int) = M[k] by simp [rd_T27, hlt], hd.1]
theorem pairsT_head (f : TOp → TOp → Int) (m L : List TOp) : ∀ (l : List TOp) (i : Nat), L.drop i = l → match pairsT f m l i with
    | [] => allF f m l = 0
    | p :: _ => allF f m l ≠ 0 ∧ f (rd_T27 L p.f0) (rd_T27 m p.f1) = allF f m l
  | [], _, _ => rfl
  | x :: l, i, hi => by
    have hlt : i < L.length := by
      rcases Nat.lt_or_ge i L.length with h | h
      · exact h
      · rw [List.drop_eq_nil_of_le h] at hi; cases hi
    have hd : L[i] = x ∧ L.drop (i + 1) = l := by
      rw [List.drop_eq_getElem_cons hlt] at hi
      exact List.cons.inj hi
    have h1 := rowT_head f x i m m 0 rfl
    have h2 := pairsT_head f m L l (i + 1) hd.2
    rw [pairsT, allF]
    revert h1
    cases rowT f x i m 0 with
    | nil =>
      intro h1
      rw [if_pos h1, List.nil_append]
      exact h2
    | cons p q =>
      rintro ⟨h1, h3, h4⟩
      rw [if_neg h3]
      refine ⟨h3, ?_⟩
      rw [h1, show rd_T27 L (i : Int) = L[i] by simp [rd_T27, hlt], hd.1]
      exact h4
theorem patT_all (f : TOp → TOp → Int) (l m : List TOp) : patT f l m = allF f m l := by
  have h := pairsT_head f m l l 0 rfl
  unfold patT
  revert h
  cases pairsT f m l 0 with
  | nil => exact fun h => h.symm
  | cons p q => exact fun h => h.2
theorem allF_congr {f g : TOp → TOp → Int} (m : List TOp) : ∀ (l : List TOp), (∀ x ∈ l, ∀ y ∈ m, f x y = g x y) → allF f m l = allF g m l := by
  have hr : ∀ (x : TOp) (m : List TOp), (∀ y ∈ m, f x y = g x y) → rowF f x m = rowF g x m := by
    intro x m
    induction m with
    | nil => intro _; rfl
    | cons y m ih => intro h; rw [rowF, rowF, h y List.mem_cons_self, ih (fun z hz => h z (List.mem_cons_of_mem _ hz))]
  intro l
  induction l with
  | nil => intro _; rfl
  | cons x l ih => intro h; rw [allF, allF, hr x m (h x List.mem_cons_self), ih (fun z hz => h z (List.mem_cons_of_mem _ hz))]
theorem rowF_zero (f : TOp → TOp → Int) (x : TOp) : ∀ m : List TOp, rowF f x m = 0 ↔ ∀ y ∈ m, f x y = 0
  | [] => ⟨fun _ _ h => (by cases h), fun _ => rfl⟩
  | y :: m => by
    rw [rowF]
    by_cases h : f x y = 0
    · rw [if_pos h, rowF_zero f x m]
      exact ⟨fun q z hz => (List.mem_cons.1 hz).elim (fun e => by rw [e]; exact h) (fun hz => q z hz), fun q z hz => q z (List.mem_cons_of_mem _ hz)⟩
    · rw [if_neg h]
      exact ⟨fun q => absurd q h, fun q => absurd (q y List.mem_cons_self) h⟩
theorem allF_zero (f : TOp → TOp → Int) (m : List TOp) : ∀ l : List TOp, allF f m l = 0 ↔ ∀ x ∈ l, ∀ y ∈ m, f x y = 0
  | [] => ⟨fun _ _ h => (by cases h), fun _ => rfl⟩
  | x :: l => by
    rw [allF]
    by_cases h : rowF f x m = 0
    · rw [if_pos h, allF_zero f m l]
      have h' := (rowF_zero f x m).1 h
      exact ⟨fun q z hz => (List.mem_cons.1 hz).elim (fun e => by rw [e]; exact h') (fun hz => q z hz), fun q z hz => q z (List.mem_cons_of_mem _ hz)⟩
    · rw [if_neg h]
      exact ⟨fun q => absurd q h, fun q => absurd ((rowF_zero f x m).2 (q x List.mem_cons_self)) h⟩
theorem all_comm (l m : List TOp) : (allF opsR m l == 0) = (allF opsR l m == 0) := by
  rw [Bool.eq_iff_iff]
  simp only [beq_iff_eq]
  rw [allF_zero, allF_zero]
  exact ⟨fun h y hy x hx => by rw [ops_comm]; exact h x hx y hy, fun h x hx y hy => by rw [ops_comm]; exact h y hy x hx⟩
end Go.Proofs.YtmimejckcknjfaaDoor.Plain
