-- Words of the kit's print (as it laid them for this seat); what this claim does not use is left out.
import Derived.Test.YtloibeefopdhpaaDoorReplyBack
import Derived.Test.YtloibeefopdhpaaDoorRef36Same
import Derived.Test.YtloibeefopdhpaaDoorLight36
import Derived.Test.YtloibeefopdhpaaDoorG17
set_option linter.unusedVariables false
set_option linter.unusedSimpArgs false
namespace Go.Proofs.YtloibeefopdhpaaDoor.Plain
open Go.RowKit Go.Proofs.YtloibeefopdhpaaDoor.G Go.Proofs.YtloibeefopdhpaaDoorW.PrintWords Go.Proofs.YtloibeefopdhpaaDoorW.PrintLast Go.Proofs.YtloibeefopdhpaaDoorW.PrintMore
def EvB (f : Nat → Option Bool) (P : Prop) : Prop := ∃ r, Ev f r ∧ (r = true ↔ P)
theorem EvB.no {f : Nat → Option Bool} {P : Prop} (h : ¬ P) (k : Ev f false) : EvB f P := ⟨false, k, ⟨fun e => (by cases e), fun p => absurd p h⟩⟩
theorem EvB.bind {g : Nat → Option Bool} {f : Nat → Option Bool} {P Q R : Prop} (h : EvB g P) (hf : P → EvB f Q) (hR : R ↔ P ∧ Q) : EvB (fun k => (g k).bind fun b => if b = true then f k else some false) R := by
  obtain ⟨r, hr, hp⟩ := h
  cases r with
  | false => exact .no (fun h => Bool.noConfusion (hp.2 (hR.1 h).1)) (Ev.bind hr (Ev.neg (by decide) (Ev.now _)))
  | true =>
    obtain ⟨s, hs, hq⟩ := hf (hp.1 rfl)
    exact ⟨s, Ev.bind hr (Ev.pos rfl hs), hq.trans ⟨fun q => hR.2 ⟨hp.1 rfl, q⟩, fun h => (hR.1 h).2⟩⟩
theorem EvB.ite {c : Prop} [Decidable c] {f : Nat → Option Bool} {Q R : Prop} (hf : c → EvB f Q) (hR : R ↔ c ∧ Q) : EvB (fun k => if c then f k else some false) R := by
  by_cases hc : c
  · obtain ⟨s, hs, hq⟩ := hf hc
    exact ⟨s, Ev.pos hc hs, hq.trans ⟨fun q => hR.2 ⟨hc, q⟩, fun h => (hR.1 h).2⟩⟩
  · exact .no (fun h => hc (hR.1 h).1) (Ev.neg hc (Ev.now _))
theorem EvB.last {g : Nat → Option Bool} {P : Prop} (h : EvB g P) : EvB (fun k => (g k).bind fun b => some b) P := by
  obtain ⟨r, hr, hp⟩ := h
  exact ⟨r, Ev.bind hr (Ev.now _), hp⟩
theorem EvB.dec {g : Nat → Option Bool} {P Q : Prop} [Decidable P] (h : Ev g (decide P)) (hq : P ↔ Q) : EvB g Q := ⟨_, h, decide_eq_true_iff.trans hq⟩
theorem EvB.imp {g : Nat → Option Bool} {P Q : Prop} (h : EvB g P) (hq : P ↔ Q) : EvB g Q := by
  obtain ⟨r, hr, hp⟩ := h
  exact ⟨r, hr, hp.trans hq⟩
theorem tl_iff {a b : ByteArray} : a.toList = b.toList ↔ a = b := ⟨ext_toList, fun h => by rw [h]⟩
theorem refRows_ev (a b : List ByteArray) (hb : b.length ≤ 9223372036854775806) : EvB (fun k => rafterref01_Same.f k a b) (a = b) := .dec (ref_same a b hb) Iff.rfl
theorem pair_eq {x y : TPair} : x = y ↔ x.f0 = y.f0 ∧ x.f1 = y.f1 := by
  cases x; cases y
  simp
theorem prim_eq {x y : TPrim} : x = y ↔ x.f0 = y.f0 ∧ x.f1 = y.f1 ∧ x.f2 = y.f2 ∧ x.f3 = y.f3 ∧ x.f4 = y.f4 ∧ x.f5 = y.f5 := by
  cases x; cases y
  simp
theorem file_eq {x y : TFile} : x = y ↔ x.f0 = y.f0 ∧ x.f1 = y.f1 ∧ x.f2 = y.f2 := by
  cases x; cases y
  simp
def LenQ (q : TPrim) : Prop := q.f4.length ≤ 9223372036854775806 ∧ q.f5.length ≤ 9223372036854775806
def LenF (f : TFile) : Prop := f.f2.length ≤ 9223372036854775806
theorem cons_iff {α : Type} {x y : α} {l m : List α} : x :: l = y :: m ↔ x = y ∧ l = m := by simp
theorem refPrims_l0 : ∀ l m : List TPrim, l.length = m.length → (∀ q ∈ m, LenQ q) → EvB (fun k => rafterref07_Same.l0 k l m) (l = m)
  | [], [], _, _ => ⟨true, Ev.now _, by simp⟩
  | x :: l, y :: m, hl, hm => by
    obtain ⟨h4, h5⟩ := hm y (by simp)
    simp only [rafterref07_Same.l0]
    refine .ite (Q := x.f1 = y.f1 ∧ x.f2 = y.f2 ∧ x.f3 = y.f3 ∧ x.f4 = y.f4 ∧ x.f5 = y.f5 ∧ l = m) (fun _ => .ite (Q := x.f2 = y.f2 ∧ x.f3 = y.f3 ∧ x.f4 = y.f4 ∧ x.f5 = y.f5 ∧ l = m) (fun _ => .ite (Q := x.f3 = y.f3 ∧ x.f4 = y.f4 ∧ x.f5 = y.f5 ∧ l = m) (fun _ => .ite (Q := x.f4 = y.f4 ∧ x.f5 = y.f5 ∧ l = m) (fun _ => .bind (refRows_ev _ _ h4) (fun _ => .bind (refRows_ev _ _ h5) (fun _ => refPrims_l0 l m (by simpa using hl) (fun q h => hm q (by simp [h]))) Iff.rfl) Iff.rfl) Iff.rfl) ?_) ?_) ?_
    · rw [tl_iff]
    · rw [tl_iff]
    · rw [cons_iff, prim_eq]
      simp only [and_assoc]
theorem refPrims_ev (l m : List TPrim) (hm : ∀ q ∈ m, LenQ q) : EvB (fun k => rafterref07_Same.f k l m) (l = m) := by
  unfold rafterref07_Same.f
  exact .ite (Q := l = m) (fun h => refPrims_l0 l m h hm) ⟨fun h => ⟨by rw [h], h⟩, fun h => h.2⟩
theorem refFiles_l0 : ∀ l m : List TFile, l.length = m.length → (∀ q ∈ m, LenF q) → EvB (fun k => rafterref06_Same.l0 k l m) (l = m)
  | [], [], _, _ => ⟨true, Ev.now _, by simp⟩
  | x :: l, y :: m, hl, hm => by
    have h2 := hm y (by simp)
    simp only [rafterref06_Same.l0]
    refine .ite (Q := x.f1 = y.f1 ∧ x.f2 = y.f2 ∧ l = m) (fun _ => .ite (Q := x.f2 = y.f2 ∧ l = m) (fun _ => .bind (refRows_ev _ _ h2) (fun _ => refFiles_l0 l m (by simpa using hl) (fun q h => hm q (by simp [h]))) Iff.rfl) Iff.rfl) ?_
    rw [tl_iff, cons_iff, file_eq]
    simp only [and_assoc]
theorem refFiles_ev (l m : List TFile) (hm : ∀ q ∈ m, LenF q) : EvB (fun k => rafterref06_Same.f k l m) (l = m) := by
  unfold rafterref06_Same.f
  exact .ite (Q := l = m) (fun h => refFiles_l0 l m h hm) ⟨fun h => ⟨by rw [h], h⟩, fun h => h.2⟩
theorem samePairs_iff : ∀ l m : List TPair, l.length = m.length → (samePairs l m = true ↔ l = m)
  | [], [], _ => by simp [samePairs]
  | x :: l, y :: m, h => by
    rw [samePairs, Bool.and_eq_true, Bool.and_eq_true, beq_iff_eq, beq_iff_eq, samePairs_iff l m (by simpa using h), tl_iff, tl_iff, cons_iff, pair_eq]
structure LenR (ns : List ByteArray) (ps : List TPair) (qs : List TPrim) (fs : List TFile) : Prop where mk ::
  n : ns.length ≤ 9223372036854775806
  p : ps.length ≤ 9223372036854775806
  q : ∀ x ∈ qs, LenQ x
  ql : qs.length ≤ 9223372036854775806
  f : ∀ x ∈ fs, LenF x
  fl : fs.length ≤ 9223372036854775806
section
variable (a b : Int) (n m : List ByteArray) (p q : List TPair) (x y : List TPrim) (u v : List TFile)
theorem refSame_ev (h : LenR m q y v) : EvB (fun k => rafterref36_Same.f k a n p x u b m q y v) (a = b ∧ n = m ∧ p = q ∧ x = y ∧ u = v) := by
  unfold rafterref36_Same.f
  refine .ite (Q := n = m ∧ p = q ∧ x = y ∧ u = v) (fun _ => .bind (refRows_ev n m h.n) (fun _ => .ite (Q := (x = y ∧ u = v) ∧ p = q) (fun hl => .bind (refPrims_ev x y h.q) (fun _ => .bind (refFiles_ev u v h.f) (fun _ => ⟨_, Ev.now _, samePairs_iff p q hl⟩) Iff.rfl) and_assoc) ?_) Iff.rfl) Iff.rfl
  exact ⟨fun h => ⟨by rw [h.1], h.2, h.1⟩, fun h => ⟨h.2.2, h.2.1⟩⟩
end
theorem light03_loop (l : List ByteArray) (hl : l.length ≤ 9223372036854775806) : ∀ (t : List ByteArray) (i : Nat), l.drop i = t → EvB (fun k => rafterlaw03_Light.l0 k l (i : Int)) ((∀ s ∈ t, s.size ≤ 300) ∧ l.length ≤ 60)
  | [], i, ht => by
    have hge := List.drop_eq_nil_iff.1 ht
    refine ⟨decide (l.length ≤ 60), Ev.step (f := fun k => some _) (fun k => ?_) (Ev.now _), by simp⟩
    simp only [rafterlaw03_Light.l0]
    rw [if_neg (by omega)]
    congr 1
    rw [Bool.eq_iff_iff]
    simp only [decide_eq_true_eq]
    omega
  | x :: t, i, ht => by
    have hlt := drop_cons_lt ht
    have hw : wrap64 ((i : Int) + 1) = ((i + 1 : Nat) : Int) := by rw [wrap64_in (by omega) (by omega)]; omega
    by_cases h : x.size ≤ 300
    · obtain ⟨r, hr, hp⟩ := light03_loop l hl t (i + 1) (drop_cons_succ ht)
      refine ⟨r, Ev.step (fun k => ?_) hr, hp.trans (by simp [h])⟩
      simp only [rafterlaw03_Light.l0]
      rw [if_pos (by omega), if_pos (by omega), rdOf_cons ht, if_neg (by omega), hw]
    · refine .no (fun e => h (e.1 x (by simp))) (Ev.step (f := fun k => some false) (fun k => ?_) (Ev.now _))
      simp only [rafterlaw03_Light.l0]
      rw [if_pos (by omega), if_pos (by omega), rdOf_cons ht, if_pos (by omega)]
def Lit03 (l : List ByteArray) : Prop := (∀ s ∈ l, s.size ≤ 300) ∧ l.length ≤ 60
theorem light03 (l : List ByteArray) (hl : l.length ≤ 9223372036854775806) : EvB (fun k => rafterlaw03_Light.f k l) (Lit03 l) := light03_loop l hl l 0 rfl
theorem light06_loop (l : List TFile) (hl : l.length ≤ 9223372036854775806) (hx : ∀ f ∈ l, LenF f) : ∀ (t : List TFile) (i : Nat), l.drop i = t → EvB (fun k => rafterlaw06_Light.l0 k l (i : Int)) ((∀ f ∈ t, f.f0.size ≤ 300 ∧ Lit03 f.f2) ∧ l.length ≤ 40)
  | [], i, ht => by
    have hge := List.drop_eq_nil_iff.1 ht
    refine ⟨decide (l.length ≤ 40), Ev.step (f := fun k => some _) (fun k => ?_) (Ev.now _), by simp⟩
    simp only [rafterlaw06_Light.l0]
    rw [if_neg (by omega)]
    congr 1
    rw [Bool.eq_iff_iff]
    simp only [decide_eq_true_eq]
    omega
  | x :: t, i, ht => by
    have hlt := drop_cons_lt ht
    have hmem : x ∈ l := by
      have : x ∈ l.drop i := by rw [ht]; simp
      exact List.mem_of_mem_drop this
    have hw : wrap64 ((i : Int) + 1) = ((i + 1 : Nat) : Int) := by rw [wrap64_in (by omega) (by omega)]; omega
    by_cases h : x.f0.size ≤ 300
    · have h1 : EvB (fun k => (rafterlaw03_Light.f k x.f2).bind fun b => if b = true then rafterlaw06_Light.l0 k l ((i + 1 : Nat) : Int) else some false) ((∀ f ∈ x :: t, f.f0.size ≤ 300 ∧ Lit03 f.f2) ∧ l.length ≤ 40) :=
        .bind (light03 x.f2 (hx x hmem)) (fun _ => light06_loop l hl hx t (i + 1) (drop_cons_succ ht)) (by simp [h, and_assoc])
      obtain ⟨r, hr, hp⟩ := h1
      refine ⟨r, Ev.step (fun k => ?_) hr, hp⟩
      simp only [rafterlaw06_Light.l0]
      rw [if_pos (by omega), if_pos (by omega), rd_cons102 ht, if_neg (by omega), hw]
    · refine .no (fun e => h (e.1 x (by simp)).1) (Ev.step (f := fun k => some false) (fun k => ?_) (Ev.now _))
      simp only [rafterlaw06_Light.l0]
      rw [if_pos (by omega), if_pos (by omega), rd_cons102 ht, if_pos (by omega)]
theorem lightN_iff : ∀ l : List ByteArray, lightN l = true ↔ ∀ s ∈ l, s.size ≤ 100
  | [] => by simp [lightN]
  | x :: l => by rw [lightN, Bool.and_eq_true, decide_eq_true_iff, lightN_iff l]; simp
theorem lightP_iff : ∀ l : List TPair, (∀ p ∈ l, p.f0.size ≤ 140737488351232 ∧ p.f1.size ≤ 140737488351232) → (lightP l = true ↔ ∀ p ∈ l, p.f0.size + p.f1.size ≤ 200)
  | [], _ => by simp [lightP]
  | x :: l, h => by
    obtain ⟨h0, h1⟩ := h x (by simp)
    rw [lightP, Bool.and_eq_true, decide_eq_true_iff, lightP_iff l (fun p hp => h p (by simp [hp])), wrap64_in (by omega) (by omega)]
    simp only [List.forall_mem_cons]
    exact and_congr (by omega) Iff.rfl
def LitQ (p : TPrim) : Prop := p.f1.size + p.f2.size ≤ 600 ∧ Lit03 p.f4 ∧ Lit03 p.f5
theorem lightQ_ev : ∀ l : List TPrim, (∀ p ∈ l, p.f1.size ≤ 140737488351232 ∧ p.f2.size ≤ 140737488351232 ∧ LenQ p) → EvB (fun k => lightQ k l) (∀ p ∈ l, LitQ p)
  | [], _ => ⟨true, Ev.now _, by simp⟩
  | x :: l, h => by
    obtain ⟨h0, h1, h4, h5⟩ := h x (by simp)
    simp only [lightQ]
    refine .ite (Q := Lit03 x.f4 ∧ Lit03 x.f5 ∧ ∀ p ∈ l, LitQ p) (fun _ => .bind (light03 _ h4) (fun _ => .bind (light03 _ h5) (fun _ => lightQ_ev l (fun p hp => h p (by simp [hp]))) Iff.rfl) Iff.rfl) ?_
    rw [wrap64_in (by omega) (by omega), List.forall_mem_cons]
    unfold LitQ
    constructor
    · exact fun h => ⟨by omega, h.1.2.1, h.1.2.2, h.2⟩
    · exact fun h => ⟨⟨by omega, h.2.1, h.2.2.1⟩, h.2.2.2⟩
abbrev TReply := S54
structure OkV (x : TReply) : Prop where mk ::
  e : OkI x.f0
  len : LenR x.f1 x.f2 x.f3 x.f4
  p : ∀ p ∈ x.f2, p.f0.size ≤ 140737488351232 ∧ p.f1.size ≤ 140737488351232
  q : ∀ p ∈ x.f3, p.f1.size ≤ 140737488351232 ∧ p.f2.size ≤ 140737488351232 ∧ OkI p.f0 ∧ OkI p.f3
structure LitR (x : TReply) : Prop where mk ::
  n : x.f1.length ≤ 40 ∧ ∀ s ∈ x.f1, s.size ≤ 100
  p : x.f2.length ≤ 40 ∧ ∀ p ∈ x.f2, p.f0.size + p.f1.size ≤ 200
  q : x.f3.length ≤ 20 ∧ ∀ p ∈ x.f3, LitQ p
  f : (∀ f ∈ x.f4, f.f0.size ≤ 300 ∧ Lit03 f.f2) ∧ x.f4.length ≤ 40
theorem lightR_ev (x : TReply) (h : OkV x) : EvB (fun k => lightR k x) (LitR x) := by
  unfold lightR
  have h6 : EvB (fun k => rafterlaw06_Light.f k x.f4) ((∀ f ∈ x.f4, f.f0.size ≤ 300 ∧ Lit03 f.f2) ∧ x.f4.length ≤ 40) := light06_loop x.f4 h.len.fl h.len.f x.f4 0 rfl
  have h7 := lightQ_ev x.f3 (fun p hp => ⟨(h.q p hp).1, (h.q p hp).2.1, h.len.q p hp⟩)
  refine .ite (Q := x.f2.length ≤ 40 ∧ x.f3.length ≤ 20 ∧ ((∀ f ∈ x.f4, f.f0.size ≤ 300 ∧ Lit03 f.f2) ∧ x.f4.length ≤ 40) ∧ lightN x.f1 = true ∧ lightP x.f2 = true ∧ ∀ p ∈ x.f3, LitQ p) (fun _ => .ite (fun _ => .ite (fun _ => .bind h6 (fun _ => .ite (fun _ => .ite (fun _ => h7) Iff.rfl) Iff.rfl) Iff.rfl) Iff.rfl) Iff.rfl) ?_
  rw [lightN_iff, lightP_iff _ h.p]
  exact ⟨fun h => ⟨h.n.1, h.p.1, h.q.1, h.f, h.n.2, h.p.2, h.q.2⟩, fun h => ⟨⟨h.1, h.2.2.2.2.1⟩, ⟨h.2.1, h.2.2.2.2.2.1⟩, ⟨h.2.2.1, h.2.2.2.2.2.2⟩, h.2.2.2.1⟩⟩
theorem lightL_ev : ∀ l : List TReply, (∀ x ∈ l, OkV x) → EvB (fun k => lightL k l) (∀ x ∈ l, LitR x)
  | [], _ => ⟨true, Ev.now _, by simp⟩
  | x :: l, h => by
    simp only [lightL]
    exact .bind (lightR_ev x (h x (by simp))) (fun _ => lightL_ev l (fun y hy => h y (by simp [hy]))) List.forall_mem_cons
theorem light36_ev (l : List TReply) (h : ∀ x ∈ l, OkV x) : EvB (fun k => rafterlaw36_Light.f k l) ((∀ x ∈ l, LitR x) ∧ l.length ≤ 20) := by
  unfold rafterlaw36_Light.f
  exact .bind (lightL_ev l h) (fun _ => ⟨_, Ev.now _, decide_eq_true_iff⟩) Iff.rfl
theorem okR_of {x : TReply} (h : OkV x) (hl : LitR x) : OkR x.f0 x.f1 x.f2 x.f3 x.f4 := by
  have h3 : ∀ l, Lit03 l → OkL l := fun l h => ⟨by have := h.2; omega, fun s hs => by have := h.1 s hs; omega⟩
  refine ⟨h.e, ⟨by have := hl.n.1; omega, fun s hs => by have := hl.n.2 s hs; omega⟩, ⟨by have := hl.p.1; omega, fun p hp => ?_⟩, ⟨by have := hl.q.1; omega, fun p hp => ?_⟩, ⟨by have := hl.f.2; omega, fun f hf => ?_⟩⟩
  · have := hl.p.2 p hp
    exact ⟨by omega, by omega⟩
  · obtain ⟨e1, e2, e3⟩ := hl.q.2 p hp
    obtain ⟨_, _, i0, i3⟩ := h.q p hp
    exact ⟨i0, by omega, by omega, i3, h3 _ e2, h3 _ e3⟩
  · obtain ⟨e1, e2⟩ := hl.f.1 f hf
    exact ⟨by omega, h3 _ e2⟩
end Go.Proofs.YtloibeefopdhpaaDoor.Plain
