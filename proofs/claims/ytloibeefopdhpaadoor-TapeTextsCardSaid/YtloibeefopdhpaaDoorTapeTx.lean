-- Words of the kit's print (as it laid them for this seat); what this claim does not use is left out.
import Derived.Test.YtloibeefopdhpaaDoorTapeLines
import Derived.Test.YtloibeefopdhpaaDoorLight
import Derived.Test.YtloibeefopdhpaaDoorRef40Same
set_option linter.unusedVariables false
set_option linter.unusedSimpArgs false
namespace Go.Proofs.YtloibeefopdhpaaDoor.Plain
open Go.RowKit Go.Proofs.YtloibeefopdhpaaDoor.G Go.Proofs.YtloibeefopdhpaaDoorW.PrintWords Go.Proofs.YtloibeefopdhpaaDoorW.PrintLast Go.Proofs.YtloibeefopdhpaaDoorW.PrintMore
theorem getD_drop {α : Type} {l : List α} {i : Nat} {x d : α} {t : List α} (h : l.drop i = x :: t) : l.getD i d = x := by
  have e : l[i]? = some x := by
    have := congrArg (fun l => l[0]?) h
    simpa using this
  rw [List.getD_eq_getElem?_getD, e]
  rfl
theorem rdX {l : List TStep} {i : Nat} {x : TStep} {t : List TStep} (h : l.drop i = x :: t) : rd_T34 l (i : Int) = x := by
  unfold rd_T34
  rw [Int.toNat_natCast]
  exact getD_drop h
theorem rdC {l : List TCrash} {i : Nat} {x : TCrash} {t : List TCrash} (h : l.drop i = x :: t) : rd_T134 l (i : Int) = x := by
  unfold rd_T134
  rw [Int.toNat_natCast]
  exact getD_drop h
theorem steps_light (l : List TStep) (hl : l.length ≤ 9223372036854775806) (hw : ∀ x ∈ l, x.f3.f2.length ≤ 9223372036854775806 ∧ x.f3.f3.f3.length ≤ 9223372036854775806) : ∀ (t : List TStep) (i : Nat), l.drop i = t →
    ∃ b, Ev (fun k => rafterlaw35_Light.l0 k l (i : Int)) b ∧ (b = true → (∀ x ∈ t, LightX x) ∧ l.length ≤ 60)
  | [], i, ht => by
    have hge := List.drop_eq_nil_iff.1 ht
    refine ⟨decide (l.length ≤ 60), Ev.step (f := fun k => some (decide (l.length ≤ 60))) (fun k => ?_) (Ev.now _), fun h => ⟨fun x hx => (by cases hx), of_decide_eq_true h⟩⟩
    simp only [rafterlaw35_Light.l0]
    rw [if_neg (by omega)]
    congr 1
    rw [Bool.eq_iff_iff]
    simp only [decide_eq_true_eq]
    omega
  | x :: t, i, ht => by
    have hlt := drop_ltL ht
    have hxm : x ∈ l := List.mem_of_mem_drop (i := i) (by rw [ht]; exact List.mem_cons_self)
    obtain ⟨b, hb, hp⟩ := step_ev x l i (by omega) (by omega) (rdX ht) (hw x hxm).1 (hw x hxm).2 _ (steps_light l hl hw t (i + 1) (drop_succL ht))
    refine ⟨b, hb, fun h => ⟨fun y hy => ?_, (hp h).2.2⟩⟩
    rcases List.mem_cons.1 hy with e | hy
    · rw [e]; exact (hp h).1
    · exact (hp h).2.1 y hy
theorem crash_light (l : List TCrash) (hl : l.length ≤ 9223372036854775806) : ∀ (t : List TCrash) (i : Nat), l.drop i = t →
    ∃ b, Ev (fun k => rafterlaw31_Light.l0 k l (i : Int)) b ∧ (b = true → (∀ c ∈ t, c.f1.length ≤ 100) ∧ l.length ≤ 40)
  | [], i, ht => by
    have hge := List.drop_eq_nil_iff.1 ht
    refine ⟨decide (l.length ≤ 40), Ev.step (f := fun k => some (decide (l.length ≤ 40))) (fun k => ?_) (Ev.now _), fun h => ⟨fun x hx => (by cases hx), of_decide_eq_true h⟩⟩
    simp only [rafterlaw31_Light.l0]
    rw [if_neg (by omega)]
    congr 1
    rw [Bool.eq_iff_iff]
    simp only [decide_eq_true_eq]
    omega
  | x :: t, i, ht => by
    have hlt := drop_ltL ht
    have hw : wrap64 ((i : Int) + 1) = ((i + 1 : Nat) : Int) := by rw [wrap64_in (by omega) (by omega)]; omega
    by_cases h1 : x.f1.length ≤ 100
    · obtain ⟨b, hb, hp⟩ := crash_light l hl t (i + 1) (drop_succL ht)
      refine ⟨b, Ev.step (fun k => ?_) hb, fun h => ⟨fun y hy => ?_, (hp h).2⟩⟩
      · simp only [rafterlaw31_Light.l0]
        rw [if_pos (by omega), if_pos (by omega), rdC ht, if_neg (by omega), hw]
      · rcases List.mem_cons.1 hy with e | hy
        · rw [e]; exact h1
        · exact (hp h).1 y hy
    · refine ⟨false, Ev.step (f := fun k => some false) (fun k => ?_) (Ev.now _), fun h => by cases h⟩
      simp only [rafterlaw31_Light.l0]
      rw [if_pos (by omega), if_pos (by omega), rdC ht, if_pos (by omega)]
theorem light40 (a0 : Int) (cs : List TCrash) (xs : List TStep) (hc : cs.length ≤ 9223372036854775806) (hx : xs.length ≤ 9223372036854775806) (hw : ∀ x ∈ xs, x.f3.f2.length ≤ 9223372036854775806 ∧ x.f3.f3.f3.length ≤ 9223372036854775806) :
    ∃ b, Ev (fun k => rafterlaw40_Light.f k a0 cs xs) b ∧ (b = true → ((∀ c ∈ cs, c.f1.length ≤ 100) ∧ cs.length ≤ 40) ∧ (∀ x ∈ xs, LightX x) ∧ xs.length ≤ 60) := by
  obtain ⟨b, hb, hp⟩ := crash_light cs hc cs 0 rfl
  obtain ⟨d, hd, hq⟩ := steps_light xs hx hw xs 0 rfl
  unfold rafterlaw40_Light.f
  cases b with
  | false => exact ⟨false, Ev.bind hb (Ev.neg (by decide) (Ev.now _)), fun h => by cases h⟩
  | true => exact ⟨d, Ev.bind hb (Ev.pos rfl (Ev.bind hd (Ev.now _))), fun h => ⟨hp rfl, hq h⟩⟩
def flatN (l : List (List UInt8)) : List UInt8 := l.flatMap fun x => x ++ [10]
theorem flatN_cons (x : List UInt8) (l : List (List UInt8)) : flatN (x :: l) = (x ++ [10]) ++ flatN l := by simp [flatN]
theorem flatN_append (l m : List (List UInt8)) : flatN (l ++ m) = flatN l ++ flatN m := by simp [flatN]
theorem flatN_join : ∀ l : List (List UInt8), l ≠ [] → flatN l = joinL 10 l ++ [10]
  | [], h => absurd rfl h
  | [x], _ => by simp [flatN, joinL]
  | x :: y :: l, _ => by rw [flatN_cons, flatN_join (y :: l) (by simp), joinL_cons 10 x (by simp)]; simp
theorem flatN_len (m : Nat) : ∀ l : List (List UInt8), (∀ x ∈ l, x.length ≤ m) → (flatN l).length ≤ l.length * (m + 1)
  | [], _ => by simp [flatN]
  | x :: l, h => by
    have h1 := h x List.mem_cons_self
    have h2 := flatN_len m l fun y hy => h y (List.mem_cons_of_mem _ hy)
    have e : (x :: l).length * (m + 1) = l.length * (m + 1) + (m + 1) := by rw [List.length_cons, Nat.add_mul, Nat.one_mul]
    rw [flatN_cons, List.length_append, List.length_append, e, show [(10 : UInt8)].length = 1 from rfl]
    omega
theorem dig_ge : ∀ n, n < 10 → 45 < (dig n).toNat := ten (by decide) (by decide) (by decide) (by decide) (by decide) (by decide) (by decide) (by decide) (by decide) (by decide)
theorem decN_ge : ∀ (N n : Nat), n ≤ N → ∀ c ∈ decN n, 45 ≤ c.toNat := by
  intro N
  induction N with
  | zero =>
    intro n h c hc
    rw [decN_small (by omega)] at hc
    rw [List.mem_singleton.1 hc]
    exact Nat.le_of_lt (dig_ge n (by omega))
  | succ N ih =>
    intro n h c hc
    by_cases h1 : n < 10
    · rw [decN_small h1] at hc
      rw [List.mem_singleton.1 hc]
      exact Nat.le_of_lt (dig_ge n h1)
    · rw [decN_big (by omega)] at hc
      rcases List.mem_append.1 hc with hc | hc
      · exact ih (n / 10) (by omega) c hc
      · rw [List.mem_singleton.1 hc]
        exact Nat.le_of_lt (dig_ge _ (by omega))
theorem numL_ge (n : Int) : ∀ c ∈ numL n, 45 ≤ c.toNat := by
  intro c hc
  unfold numL at hc
  split at hc
  · rcases List.mem_cons.1 hc with e | hc
    · rw [e]; decide
    · exact decN_ge _ _ (Nat.le_refl _) c hc
  · exact decN_ge _ _ (Nat.le_refl _) c hc
theorem numL_len2 (n : Int) (h0 : -9223372036854775808 ≤ n) (h1 : n ≤ 9223372036854775807) : (numL n).length ≤ 20 := by
  have := decN_length 18 n.natAbs (by omega)
  unfold numL
  split
  · rw [List.length_cons]; omega
  · omega
theorem hexd_ge (n : Nat) (h : n < 16) : 45 < (hexd n).toNat := by
  have : ∀ m : Fin 16, 45 < (hexd m.1).toNat := by decide
  exact this ⟨n, h⟩
theorem maskB_ge (b : List UInt8) : ∀ c ∈ maskB b, 45 ≤ c.toNat := by
  intro c hc
  unfold maskB at hc
  split at hc
  · rw [List.mem_singleton.1 hc]; decide
  · obtain ⟨d, _, hd⟩ := List.mem_flatMap.1 hc
    have h256 : d.toNat < 256 := d.toNat_lt
    simp only [List.mem_cons, List.mem_nil_iff, or_false] at hd
    rcases hd with e | e
    · rw [e]; exact Nat.le_of_lt (hexd_ge _ (by omega))
    · rw [e]; exact Nat.le_of_lt (hexd_ge _ (by omega))
theorem maskB_len (b : List UInt8) : (maskB b).length ≤ 2 * b.length + 1 := by
  have h : ∀ l : List UInt8, (l.flatMap fun c => [hexd (c.toNat / 16), hexd (c.toNat % 16)]).length = 2 * l.length := by
    intro l
    induction l with
    | nil => rfl
    | cons c l ih =>
      rw [List.flatMap_cons, List.length_append, ih]
      simp only [List.length_cons, List.length_nil]
      omega
  unfold maskB
  split
  · simp
  · rw [h]; omega
theorem ge_free {l : List UInt8} {c : UInt8} (h : ∀ x ∈ l, 45 ≤ x.toNat) (hc : c.toNat < 45) : c ∉ l := fun e => by
  have := h c e
  omega
theorem sign_free10 (c : UInt8) : (10 : UInt8) ∉ signL c := by
  unfold signL
  by_cases h : 32 < c.toNat ∧ c.toNat < 127 ∧ c.toNat ≠ 37
  · rw [if_pos h]
    intro e
    simp at e
    rw [← e] at h
    exact absurd h.1 (by decide)
  · rw [if_neg h]
    have hc : c.toNat < 256 := c.toNat_lt
    intro e
    simp only [List.mem_cons, List.mem_nil_iff, or_false] at e
    rcases e with e | e | e
    · revert e; decide
    · have := hexd_ge (c.toNat / 16) (by omega)
      rw [← e] at this
      exact absurd this (by decide)
    · have := hexd_ge (c.toNat % 16) (by omega)
      rw [← e] at this
      exact absurd this (by decide)
theorem word_free10 (s : List UInt8) : (10 : UInt8) ∉ wordL s := by
  unfold wordL
  by_cases h : bareL s = true
  · rw [if_pos h]
    intro e
    unfold bareL at h
    simp only [Bool.and_eq_true, List.all_eq_true] at h
    exact absurd (h.2 10 e) (by decide)
  · rw [if_neg h]
    intro e
    rcases List.mem_cons.1 e with e | e
    · revert e; decide
    · obtain ⟨c, _, hc⟩ := List.mem_flatMap.1 e
      exact sign_free10 c hc
theorem joinL_free (b c : UInt8) (hbc : b ≠ c) : ∀ l : List (List UInt8), (∀ x ∈ l, b ∉ x) → b ∉ joinL c l
  | [], _ => by simp [joinL]
  | [x], h => by simpa [joinL] using h x List.mem_cons_self
  | x :: y :: l, h => by
    rw [joinL_cons c x (by simp)]
    intro e
    rcases List.mem_append.1 e with e | e
    · exact h x List.mem_cons_self e
    · rcases List.mem_cons.1 e with e | e
      · exact hbc e
      · exact joinL_free b c hbc (y :: l) (fun z hz => h z (List.mem_cons_of_mem _ hz)) e
inductive CrashL : List TCrash → List (List UInt8) → Prop
  | nil : CrashL [] []
  | cons {cs : List TCrash} {lns : List (List UInt8)} (n : Int) (b : List UInt8) : CrashL cs lns → -9223372036854775808 ≤ n → n ≤ 9223372036854775807 → b.length ≤ 100 → CrashL (⟨n, ints8 b⟩ :: cs) ((crashP ++ (numL n ++ 32 :: maskB b)) :: lns)
theorem crashL_of : ∀ cs : List TCrash, (∀ c ∈ cs, -9223372036854775808 ≤ c.f0 ∧ c.f0 ≤ 9223372036854775807 ∧ ∃ b, c.f1 = ints8 b ∧ b.length ≤ 100) → ∃ lns, CrashL cs lns
  | [], _ => ⟨[], .nil⟩
  | ⟨n, m⟩ :: cs, h => by
    obtain ⟨n0, n1, b, e, hb⟩ := h _ List.mem_cons_self
    obtain ⟨lns, hl⟩ := crashL_of cs fun d hd => h d (List.mem_cons_of_mem _ hd)
    dsimp only at e n0 n1
    subst e
    exact ⟨_, .cons n b hl n0 n1 hb⟩
theorem crashL_lines {cs : List TCrash} {lns : List (List UInt8)} (h : CrashL cs lns) : lns.length = cs.length ∧ ∀ x ∈ lns, x.length ≤ 300 ∧ (10 : UInt8) ∉ x := by
  induction h with
  | nil => exact ⟨rfl, fun x hx => by cases hx⟩
  | @cons cs lns n b h n0 n1 hb ih =>
    refine ⟨by rw [List.length_cons, List.length_cons, ih.1], fun x hx => ?_⟩
    rcases List.mem_cons.1 hx with e | hx
    · have hn := numL_len2 n n0 n1
      have hm := maskB_len b
      rw [e]
      refine ⟨by simp only [List.length_append, List.length_cons, crashP, List.length_nil]; omega, fun e10 => ?_⟩
      rcases List.mem_append.1 e10 with e10 | e10
      · revert e10; decide
      · rcases List.mem_append.1 e10 with e10 | e10
        · exact ge_free (numL_ge n) (by decide) e10
        · rcases List.mem_cons.1 e10 with e10 | e10
          · revert e10; decide
          · exact ge_free (maskB_ge b) (by decide) e10
    · exact ih.2 x hx
theorem textC_ev {cs : List TCrash} {lns : List (List UInt8)} (h : CrashL cs lns) : ∀ out : List UInt8, out.length + cs.length * 400 ≤ 100000000 → Ev (fun k => textC k cs (B out)) (B (out ++ flatN lns)) := by
  induction h with
  | nil => intro out _; rw [show flatN [] = [] from rfl, List.append_nil]; exact Ev.now _
  | @cons cs lns n b h n0 n1 hb ih =>
    intro out hl
    have hn := numL_len2 n n0 n1
    have hm := maskB_len b
    rw [List.length_cons, Nat.add_mul] at hl
    simp only [textC]
    refine Ev.bind (number_ev n n0 n1) (Ev.bind (mask_ev b (by omega)) (Ev.pos (by simp only [size_B]; omega) ?_))
    have e : B out ++ (((((⟨#[99, 114, 97, 115, 104, 32]⟩ : ByteArray) ++ B (numL n)) ++ (⟨#[32]⟩ : ByteArray)) ++ B (maskB b)) ++ (⟨#[10]⟩ : ByteArray)) = B (out ++ ((crashP ++ (numL n ++ 32 :: maskB b)) ++ [10])) := by
      rw [show (⟨#[99, 114, 97, 115, 104, 32]⟩ : ByteArray) = B crashP from rfl, show (⟨#[32]⟩ : ByteArray) = B [32] from rfl, show (⟨#[10]⟩ : ByteArray) = B [10] from rfl]
      simp only [B_append]
      congr 1
      simp
    rw [e]
    have h2 := ih (out ++ ((crashP ++ (numL n ++ 32 :: maskB b)) ++ [10])) (by simp only [List.length_append, List.length_cons, crashP, List.length_nil]; omega)
    rw [List.append_assoc out] at h2
    rw [flatN_cons]
    exact h2
theorem refC_ev {cs : List TCrash} {lns : List (List UInt8)} (h : CrashL cs lns) : ∀ out : List UInt8, out.length + cs.length * 400 ≤ 100000000 → Ev (fun k => refTextC k cs (B out)) (B (out ++ flatN lns)) := by
  induction h with
  | nil => intro out _; rw [show flatN [] = [] from rfl, List.append_nil]; exact Ev.now _
  | @cons cs lns n b h n0 n1 hb ih =>
    intro out hl
    have hn := numL_len2 n n0 n1
    have hm := maskB_len b
    rw [List.length_cons, Nat.add_mul] at hl
    simp only [refTextC]
    rw [refMask_f b (by omega)]
    refine Ev.bind (refNumber_ev n n0 n1) (Ev.bind_now (Ev.pos (by simp only [size_B]; omega) ?_))
    have e : ((((B out ++ (⟨#[99, 114, 97, 115, 104, 32]⟩ : ByteArray)) ++ B (numL n)) ++ (⟨#[32]⟩ : ByteArray)) ++ B (maskB b)) ++ (⟨#[10]⟩ : ByteArray) = B (out ++ ((crashP ++ (numL n ++ 32 :: maskB b)) ++ [10])) := by
      rw [show (⟨#[99, 114, 97, 115, 104, 32]⟩ : ByteArray) = B crashP from rfl, show (⟨#[32]⟩ : ByteArray) = B [32] from rfl, show (⟨#[10]⟩ : ByteArray) = B [10] from rfl]
      simp only [B_append]
      congr 1
      simp
    rw [e]
    have h2 := ih (out ++ ((crashP ++ (numL n ++ 32 :: maskB b)) ++ [10])) (by simp only [List.length_append, List.length_cons, crashP, List.length_nil]; omega)
    rw [List.append_assoc out] at h2
    rw [flatN_cons]
    exact h2
theorem crash_back (n : Int) (b : List UInt8) (n0 : -9223372036854775808 ≤ n) (n1 : n ≤ 9223372036854775807) (hb : b.length ≤ 100) : Ev (fun k => tape_crash.f k (B (numL n ++ 32 :: maskB b))) (n, ints8 b, 0) := by
  have hn := numL_len2 n n0 n1
  have hm := maskB_len b
  have hu := unnumber_ev (B (numL n)) (by rw [size_B]; omega)
  have hq := unmask_ev (B (maskB b)) (by rw [size_B]; omega)
  rw [toList_B, unnum_num n n0 n1] at hu
  rw [toList_B, unmR, unmL_mask, if_pos rfl] at hq
  unfold tape_crash.f
  rw [cut_hit (numL n) (maskB b) (ge_free (numL_ge n) (by decide)) (by omega)]
  exact Ev.bind_now (Ev.bind hu (Ev.bind hq (Ev.pos rfl (Ev.pos rfl (Ev.now _)))))
theorem lines_crash {r : Int} {R : TScr × Int} {rest : List ByteArray} {cs : List TCrash} {lns : List (List UInt8)} (h : CrashL cs lns) : ∀ cs0 : List TCrash, cs0.length + cs.length ≤ 100000 → Ev (fun k => linesT k rest ⟨true, r, cs0 ++ cs, []⟩) R → Ev (fun k => linesT k (lns.map B ++ rest) ⟨true, r, cs0, []⟩) R := by
  induction h with
  | nil => intro cs0 _ hR; rw [List.append_nil] at hR; exact hR
  | @cons cs lns n b h n0 n1 hb ih =>
    intro cs0 hl hR
    rw [List.length_cons] at hl
    have h2 := ih (cs0 ++ [⟨n, ints8 b⟩]) (by rw [List.length_append]; simp only [List.length_cons, List.length_nil]; omega) (by rw [List.append_assoc]; exact hR)
    have hn := numL_len2 n n0 n1
    have hm := maskB_len b
    rw [List.map_cons, List.cons_append]
    unfold linesT
    rw [nothing_f]
    refine Ev.bind_now (Ev.neg (by rw [show noth (crashP ++ (numL n ++ 32 :: maskB b)) = false from rfl]; decide) ?_)
    have hc := cutPre_f (B (crashP ++ (numL n ++ 32 :: maskB b))) (⟨#[99, 114, 97, 115, 104, 32]⟩ : ByteArray) (by simp only [size_B, List.length_append, List.length_cons, crashP, List.length_nil]; omega)
    rw [show (⟨#[99, 114, 97, 115, 104, 32]⟩ : ByteArray).toList = crashP from toList_B crashP, show (⟨#[99, 114, 97, 115, 104, 32]⟩ : ByteArray).size = 6 from rfl, toList_B, if_pos (by rfl),
      show (crashP ++ (numL n ++ 32 :: maskB b)).drop 6 = numL n ++ 32 :: maskB b from rfl] at hc
    have hline : Ev (fun k => lineT k ⟨true, r, cs0, []⟩ (B (crashP ++ (numL n ++ 32 :: maskB b)))) (⟨true, r, cs0 ++ [⟨n, ints8 b⟩], []⟩, 0) := by
      unfold lineT
      rw [hc]
      exact Ev.neg (by simp) (Ev.bind_now (Ev.pos ⟨rfl, rfl⟩ (Ev.bind (crash_back n b n0 n1 hb) (Ev.pos (by dsimp only; omega) (Ev.now _)))))
    exact Ev.bind hline (Ev.pos rfl h2)
def Good (x : TStep) (ln : List UInt8) : Prop :=
  (∃ v m, Ev (fun k => lineOfX k x) (v :: m) ∧ Ev (fun k => rafterref35_Text.f k (v :: m)) (B ln)) ∧
  Ev (fun k => cmd_Text.f k x.f0 x.f1 x.f2 x.f3.f0 x.f3.f1 x.f3.f2 x.f3.f3.f0 x.f3.f3.f1 x.f3.f3.f2 x.f3.f3.f3) (B ln, 0) ∧
  Ev (fun k => cmd_Parse.f k (B ln)) (x.f0, x.f1, x.f2, x.f3.f0, x.f3.f1, x.f3.f2, x.f3.f3.f0, x.f3.f3.f1, x.f3.f3.f2, x.f3.f3.f3, 0) ∧
  ln.length ≤ 1048576 ∧ (10 : UInt8) ∉ ln ∧ noth ln = false ∧ ln.take 6 ≠ crashP
theorem verb_ok : ∀ s ∈ shapesL, (10 : UInt8) ∉ s.f0.toList ∧ noth s.f0.toList = false ∧ 3 ≤ s.f0.toList.length ∧ s.f0.toList.take 3 ≠ [99, 114, 97] := of_decide_eq_true (by kernel_rfl)
theorem take3 {l : List UInt8} (h : l.take 6 = crashP) : l.take 3 = [99, 114, 97] := by
  have := congrArg (fun l => l.take 3) h
  simpa [List.take_take, crashP] using this
theorem step_law (x : TStep) (hx : LightX x) :
    (∃ ln, Good x ln) ∨ (Ev (fun k => lineOfX k x) [] ∧ Ev (fun k => cmd_Text.f k x.f0 x.f1 x.f2 x.f3.f0 x.f3.f1 x.f3.f2 x.f3.f3.f0 x.f3.f3.f1 x.f3.f3.f2 x.f3.f3.f3) ((⟨#[]⟩ : ByteArray), 2)) := by
  obtain ⟨a0, a1, a2, a3, a4, a5, a6, a7, a8, a9⟩ := x
  obtain ⟨x1, x2, x4, x5, x5s, x7, x8, x9s, x9⟩ := hx
  dsimp only at *
  have hline : ∀ L, (∀ k, rafterref35_Line.f (k + 20) a0 a1 a2 a3 a4 a5 a6 a7 a8 a9 = some L) → Ev (fun k => rafterref35_Line.f k a0 a1 a2 a3 a4 a5 a6 a7 a8 a9) L := fun L h => ⟨20, fun k hk => by
    obtain ⟨j, rfl⟩ : ∃ j, k = j + 20 := ⟨k - 20, by omega⟩
    exact h j⟩
  rcases step_fits a0 a1 a2 a3 a4 a5 a6 a7 a8 a9 (by omega) (by omega) with ⟨s, l, X, f1, f2, f3, f4, f5, ⟨f6, f7⟩, f8, f9⟩ | ⟨f1, f2⟩
  case inr => exact .inr ⟨hline _ f2, text_no (check_none f1)⟩
  have hc := check_fit (by omega) (by omega) X f1 f3 f4
  by_cases hX : EqS X (a0, a1, a2, a3, a4, a5, a6, a7, a8, a9)
  case neg =>
    simp only [if_neg hX] at f5
    rw [if_neg hX] at hc
    exact .inr ⟨hline _ f5, text_no hc⟩
  simp only [if_pos hX] at f5
  obtain rfl : X = (a0, a1, a2, a3, a4, a5, a6, a7, a8, a9) := by
    obtain ⟨X0, X1, X2, X3, X4, X5, X6, X7, X8, X9⟩ := X
    obtain ⟨e0, e1, e2, e3, e4, e5, e6, e7, e8, e9⟩ := hX
    dsimp only at e0 e1 e2 e3 e4 e5 e6 e7 e8 e9
    rw [e0, e1, e2, e3, e4, e5, e6, e7, e8, e9]
  obtain ⟨hl, hx⟩ := texts_bound f3 (by omega) (by omega) (by omega) (fun t ht => by have := x5s t ht; omega) x7 x8 x9s (by omega) (by omega)
  have hj := line_bound s.f0 l f7 hl hx
  have htx := text_fit (by omega) (by omega) (by omega) (fun t ht => by have := hx t ht; omega) hj f1 f3 f4
  have hpr := parse_line s l _ f2 f4 f6 f8 f9 (by omega) (fun t ht => by have := hx t ht; omega) hj
  have hrt := refText_ev s.f0 l (by omega) (by omega) (fun t ht => by have := hx t ht; omega)
  obtain ⟨v1, v2, v3, v4⟩ := verb_ok s (findS_mem f2).1
  have hpre : ∃ q, lineL s.f0 l = s.f0.toList ++ q := by
    unfold lineL
    cases l with
    | nil => exact ⟨[], by simp [joinL]⟩
    | cons y l => exact ⟨_, joinL_cons 32 _ (by simp)⟩
  obtain ⟨q, hq⟩ := hpre
  refine .inl ⟨lineL s.f0 l, ⟨s.f0, l, hline _ f5, hrt⟩, htx, hpr, hj, ?_, ?_, fun e => v4 ?_⟩
  · unfold lineL
    refine joinL_free 10 32 (by decide) _ fun y hy => ?_
    rcases List.mem_cons.1 hy with e | hy
    · rw [e]; exact v1
    · obtain ⟨t, _, rfl⟩ := List.mem_map.1 hy
      exact word_free10 _
  · rw [hq]
    cases hv : s.f0.toList with
    | nil => rw [hv] at v3; simp at v3
    | cons c t => rw [hv] at v2; exact v2
  · have := take3 e
    rw [hq, List.take_append_of_le_length v3] at this
    exact this
inductive GoodL : List TStep → List (List UInt8) → Prop
  | nil : GoodL [] []
  | cons {x : TStep} {ln : List UInt8} {xs : List TStep} {lns : List (List UInt8)} : Good x ln → GoodL xs lns → GoodL (x :: xs) (ln :: lns)
theorem steps_law : ∀ xs : List TStep, (∀ x ∈ xs, LightX x) → (∃ lns, GoodL xs lns) ∨ (Ev (fun k => mayX k xs) 2 ∧ ∀ out : ByteArray, out.size + xs.length * 1100000 ≤ 1000000000000 → Ev (fun k => textX k xs out) ((⟨#[]⟩ : ByteArray), 2))
  | [], _ => .inl ⟨[], .nil⟩
  | x :: xs, h => by
    rcases step_law x (h x List.mem_cons_self) with ⟨ln, hg⟩ | ⟨h1, h2⟩
    · rcases steps_law xs (fun y hy => h y (List.mem_cons_of_mem _ hy)) with ⟨lns, hl⟩ | ⟨h3, h4⟩
      · exact .inl ⟨ln :: lns, .cons hg hl⟩
      · obtain ⟨⟨v, m, g1, g2⟩, g3, g4, g5, _⟩ := hg
        refine .inr ⟨Ev.bind g1 (Ev.neg (by rw [List.length_cons]; omega) h3), fun out ho => ?_⟩
        rw [List.length_cons, Nat.add_mul] at ho
        refine Ev.bind g3 (Ev.pos rfl (Ev.pos (by rw [size_B]; omega) (h4 _ ?_)))
        rw [ByteArray.size_append, ByteArray.size_append, size_B, show (⟨#[10]⟩ : ByteArray).size = 1 from rfl]
        omega
    · exact .inr ⟨Ev.bind h1 (Ev.pos rfl (Ev.now _)), fun out ho => Ev.bind h2 (Ev.neg (by decide) (Ev.now _))⟩
theorem goodL_lines {xs : List TStep} {lns : List (List UInt8)} (h : GoodL xs lns) : lns.length = xs.length ∧ ∀ x ∈ lns, x.length ≤ 1048576 ∧ (10 : UInt8) ∉ x := by
  induction h with
  | nil => exact ⟨rfl, fun x hx => by cases hx⟩
  | cons hg _ ih =>
    refine ⟨by rw [List.length_cons, List.length_cons, ih.1], fun x hx => ?_⟩
    rcases List.mem_cons.1 hx with e | hx
    · rw [e]; exact ⟨hg.2.2.2.1, hg.2.2.2.2.1⟩
    · exact ih.2 x hx
theorem may_good {xs : List TStep} {lns : List (List UInt8)} (h : GoodL xs lns) : Ev (fun k => mayX k xs) 0 := by
  induction h with
  | nil => exact Ev.now _
  | cons hg _ ih =>
    obtain ⟨⟨v, m, g1, g2⟩, _⟩ := hg
    exact Ev.bind g1 (Ev.neg (by rw [List.length_cons]; omega) ih)
theorem textX_good {xs : List TStep} {lns : List (List UInt8)} (h : GoodL xs lns) : ∀ out : List UInt8, out.length + xs.length * 1100000 ≤ 1000000000000 → Ev (fun k => textX k xs (B out)) (B (out ++ flatN lns), 0) := by
  induction h with
  | nil => intro out _; rw [show flatN [] = [] from rfl, List.append_nil]; exact Ev.now _
  | @cons x ln xs lns hg _ ih =>
    intro out ho
    obtain ⟨_, g3, g4, g5, _⟩ := hg
    rw [List.length_cons, Nat.add_mul] at ho
    have h2 := ih (out ++ (ln ++ [10])) (by simp only [List.length_append, List.length_cons, List.length_nil]; omega)
    rw [List.append_assoc] at h2
    rw [flatN_cons]
    refine Ev.bind g3 (Ev.pos rfl (Ev.pos (by simp only [size_B]; omega) ?_))
    rw [show (⟨#[10]⟩ : ByteArray) = B [10] from rfl, B_append, B_append]
    exact h2
theorem refX_good {xs : List TStep} {lns : List (List UInt8)} (h : GoodL xs lns) : ∀ out : List UInt8, out.length + xs.length * 1100000 ≤ 1000000000000 → Ev (fun k => refTextX k xs (B out)) (B (out ++ flatN lns)) := by
  induction h with
  | nil => intro out _; rw [show flatN [] = [] from rfl, List.append_nil]; exact Ev.now _
  | @cons x ln xs lns hg _ ih =>
    intro out ho
    obtain ⟨⟨v, m, g1, g2⟩, g3, g4, g5, _⟩ := hg
    rw [List.length_cons, Nat.add_mul] at ho
    have h2 := ih (out ++ (ln ++ [10])) (by simp only [List.length_append, List.length_cons, List.length_nil]; omega)
    rw [List.append_assoc] at h2
    rw [flatN_cons]
    refine Ev.bind g1 (Ev.bind g2 (Ev.pos (by simp only [size_B]; omega) ?_))
    rw [show (⟨#[10]⟩ : ByteArray) = B [10] from rfl, B_append, B_append, List.append_assoc]
    exact h2
theorem lines_good {r : Int} {cs : List TCrash} {xs : List TStep} {lns : List (List UInt8)} (h : GoodL xs lns) : ∀ xs0 : List TStep, xs0.length + xs.length ≤ 100000 → Ev (fun k => linesT k (lns.map B) ⟨true, r, cs, xs0⟩) (⟨true, r, cs, xs0 ++ xs⟩, 0) := by
  induction h with
  | nil => intro xs0 _; rw [List.append_nil]; exact Ev.now _
  | @cons x ln xs lns hg _ ih =>
    intro xs0 hl
    rw [List.length_cons] at hl
    obtain ⟨_, g3, g4, g5, g6, g7, g8⟩ := hg
    have h2 := ih (xs0 ++ [x]) (by rw [List.length_append]; simp only [List.length_cons, List.length_nil]; omega)
    rw [List.append_assoc] at h2
    rw [List.map_cons]
    unfold linesT
    rw [nothing_f]
    refine Ev.bind_now (Ev.neg (by rw [g7]; decide) ?_)
    have hc := cutPre_f (B ln) (⟨#[99, 114, 97, 115, 104, 32]⟩ : ByteArray) (by rw [size_B]; omega)
    rw [show (⟨#[99, 114, 97, 115, 104, 32]⟩ : ByteArray).toList = crashP from toList_B crashP, show (⟨#[99, 114, 97, 115, 104, 32]⟩ : ByteArray).size = 6 from rfl, toList_B, if_neg g8] at hc
    have hline : Ev (fun k => lineT k ⟨true, r, cs, xs0⟩ (B ln)) (⟨true, r, cs, xs0 ++ [x]⟩, 0) := by
      unfold lineT
      rw [hc]
      exact Ev.neg (by simp) (Ev.bind_now (Ev.neg (fun h => by cases h.1) (Ev.bind g4 (Ev.pos (by dsimp only; omega) (Ev.now _)))))
    exact Ev.bind hline (Ev.pos rfl h2)
theorem room_back (n : Int) (n0 : 0 ≤ n) (n1 : n ≤ 1073741824) : Ev (fun k => tape_room.f k (B (roomP ++ numL n))) (n, 0) := by
  have hn := numL_len2 n (by omega) (by omega)
  have hp := cutPre_f (B (roomP ++ numL n)) (⟨#[114, 111, 111, 109, 32]⟩ : ByteArray) (by simp only [size_B, List.length_append, roomP, List.length_cons, List.length_nil]; omega)
  rw [show (⟨#[114, 111, 111, 109, 32]⟩ : ByteArray).toList = roomP from toList_B roomP, show (⟨#[114, 111, 111, 109, 32]⟩ : ByteArray).size = 5 from rfl, toList_B, if_pos (by rfl),
    show (roomP ++ numL n).drop 5 = numL n from rfl] at hp
  have hu := unnumber_ev (B (numL n)) (by rw [size_B]; omega)
  rw [toList_B, unnum_num n (by omega) (by omega)] at hu
  unfold tape_room.f
  rw [hp]
  exact Ev.bind_now (Ev.bind hu (Ev.pos rfl (Ev.step (f := fun k => some (n, (0 : Int))) (fun k => by dsimp only; rw [tape_room.j0, if_neg (by decide), if_neg (by omega), if_neg (by omega)]) (Ev.now _))))
def textN (n : Int) (c x : List (List UInt8)) : List UInt8 := flatN ((roomP ++ numL n) :: (c ++ x))
section
variable {n : Int} {cs : List TCrash} {xs : List TStep} {c x : List (List UInt8)}
theorem text_ev (n0 : 0 ≤ n) (n1 : n ≤ 1073741824) (hc : CrashL cs c) (hx : GoodL xs x) (lc : cs.length ≤ 40) (lx : xs.length ≤ 60) : Ev (fun k => tape_Text.f k n cs xs) (B (textN n c x), 0) := by
  have hn := numL_len2 n (by omega) (by omega)
  obtain ⟨c1, c2⟩ := crashL_lines hc
  have hlc := flatN_len 300 c (fun y hy => (c2 y hy).1)
  have hlc2 : (flatN c).length ≤ 40 * 301 := Nat.le_trans hlc (Nat.mul_le_mul_right _ (by omega))
  unfold tape_Text.f
  refine Ev.neg (by omega) (Ev.bind (number_ev n (by omega) (by omega)) (Ev.pos (by rw [size_B]; omega) ?_))
  rw [show (⟨#[114, 111, 111, 109, 32]⟩ : ByteArray) = B roomP from rfl, show (⟨#[10]⟩ : ByteArray) = B [10] from rfl, B_append, B_append]
  have h1 := textC_ev hc (roomP ++ numL n ++ [10]) (by simp only [List.length_append, roomP, List.length_cons, List.length_nil]; omega)
  have h2 := textX_good hx (roomP ++ numL n ++ [10] ++ flatN c) (by simp only [List.length_append, roomP, List.length_cons, List.length_nil]; omega)
  rw [List.append_assoc (roomP ++ numL n ++ [10]) (flatN c) (flatN x), ← flatN_append, ← flatN_cons] at h2
  exact Ev.bind h1 h2
theorem ref_ev (n0 : 0 ≤ n) (n1 : n ≤ 1073741824) (hc : CrashL cs c) (hx : GoodL xs x) (lc : cs.length ≤ 40) (lx : xs.length ≤ 60) : Ev (fun k => rafterref40_Text.f k n cs xs) (B (textN n c x)) := by
  have hn := numL_len2 n (by omega) (by omega)
  obtain ⟨c1, c2⟩ := crashL_lines hc
  have hlc := flatN_len 300 c (fun y hy => (c2 y hy).1)
  have hlc2 : (flatN c).length ≤ 40 * 301 := Nat.le_trans hlc (Nat.mul_le_mul_right _ (by omega))
  unfold rafterref40_Text.f
  refine Ev.bind (refNumber_ev n (by omega) (by omega)) (Ev.pos (by rw [size_B]; omega) ?_)
  rw [show (⟨#[114, 111, 111, 109, 32]⟩ : ByteArray) = B roomP from rfl, show (⟨#[10]⟩ : ByteArray) = B [10] from rfl, B_append, B_append]
  have h1 := refC_ev hc (roomP ++ numL n ++ [10]) (by simp only [List.length_append, roomP, List.length_cons, List.length_nil]; omega)
  have h2 := refX_good hx (roomP ++ numL n ++ [10] ++ flatN c) (by simp only [List.length_append, roomP, List.length_cons, List.length_nil]; omega)
  rw [List.append_assoc (roomP ++ numL n ++ [10]) (flatN c) (flatN x), ← flatN_append, ← flatN_cons] at h2
  exact Ev.bind h1 h2
theorem parse_back (n0 : 0 ≤ n) (n1 : n ≤ 1073741824) (hc : CrashL cs c) (hx : GoodL xs x) (lc : cs.length ≤ 40) (lx : xs.length ≤ 60) : Ev (fun k => tape_Parse.f k (B (textN n c x))) (n, cs, xs, 0) := by
  have hn := numL_len2 n (by omega) (by omega)
  obtain ⟨c1, c2⟩ := crashL_lines hc
  obtain ⟨x1, x2⟩ := goodL_lines hx
  have hroom : (roomP ++ numL n).length ≤ 300 := by simp only [List.length_append, roomP, List.length_cons, List.length_nil]; omega
  have hmem : ∀ y ∈ (roomP ++ numL n) :: (c ++ x), y.length ≤ 1048576 ∧ (10 : UInt8) ∉ y := by
    intro y hy
    rcases List.mem_cons.1 hy with e | hy
    · rw [e]
      refine ⟨by omega, fun e10 => ?_⟩
      rcases List.mem_append.1 e10 with e10 | e10
      · revert e10; decide
      · exact ge_free (numL_ge n) (by decide) e10
    · rcases List.mem_append.1 hy with hy | hy
      · exact ⟨by have := (c2 y hy).1; omega, (c2 y hy).2⟩
      · exact x2 y hy
  have hlen := flatN_len 1048576 _ (fun y hy => (hmem y hy).1)
  have hlen2 : (flatN ((roomP ++ numL n) :: (c ++ x))).length ≤ 101 * 1048577 := Nat.le_trans hlen (Nat.mul_le_mul_right _ (by rw [List.length_cons, List.length_append]; omega))
  unfold textN
  rw [flatN_join _ (by simp)] at hlen2 ⊢
  rw [List.length_append] at hlen2
  have hsp := split_ev 10 (B (joinL 10 ((roomP ++ numL n) :: (c ++ x)))) (by rw [size_B]; omega)
  rw [toList_B, splitL_joinL 10 _ (by simp) (fun y hy => (hmem y hy).2), List.map_cons, List.map_append] at hsp
  unfold tape_Parse.f
  rw [cutSuf_hit _ (by omega)]
  refine Ev.bind_now (Ev.pos rfl (Ev.bind hsp ?_))
  have hline : Ev (fun k => lineT k ⟨false, 0, [], []⟩ (B (roomP ++ numL n))) (⟨true, n, [], []⟩, 0) := by
    unfold lineT
    exact Ev.pos rfl (Ev.bind (room_back n n0 n1) (Ev.now _))
  have hall : Ev (fun k => linesT k (B (roomP ++ numL n) :: (c.map B ++ x.map B)) ⟨false, 0, [], []⟩) (⟨true, n, cs, xs⟩, 0) := by
    rw [funext fun k => show linesT k (B (roomP ++ numL n) :: (c.map B ++ x.map B)) ⟨false, 0, [], []⟩ = _ from by rw [linesT, nothing_f]]
    refine Ev.bind_now (Ev.neg (by rw [show noth (roomP ++ numL n) = false from rfl]; decide) (Ev.bind hline (Ev.pos rfl ?_)))
    exact lines_crash hc [] (by simp only [List.length_nil]; omega) (lines_good hx [] (by simp only [List.length_nil]; omega))
  exact Ev.bind hall (Ev.pos rfl (Ev.pos rfl (Ev.now _)))
end
end Go.Proofs.YtloibeefopdhpaaDoor.Plain
