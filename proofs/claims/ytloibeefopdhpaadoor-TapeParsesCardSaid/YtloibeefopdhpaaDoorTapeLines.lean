/- tape.Parse and the reference's text of a script, in plain words. -/
import Derived.Test.YtloibeefopdhpaaDoorTapePlain
import Derived.Test.YtloibeefopdhpaaDoorCmdParsePlain
import Derived.Test.YtloibeefopdhpaaDoorReplyNum
import Derived.Test.YtloibeefopdhpaaDoorRef40Text
import Derived.Test.YtloibeefopdhpaaDoorRef40May
set_option linter.unusedVariables false
set_option linter.unusedSimpArgs false
namespace Go.Proofs.YtloibeefopdhpaaDoor.Plain
open Go.RowKit Go.Proofs.YtloibeefopdhpaaDoor.G Go.Proofs.YtloibeefopdhpaaDoorW.PrintWords Go.Proofs.YtloibeefopdhpaaDoorW.PrintLast Go.Proofs.YtloibeefopdhpaaDoorW.PrintMore

/-! ### prefixes, suffixes, cuts -/
theorem cutPre_f (s p : ByteArray) (hs : s.size ≤ 1000000) : strings_CutPrefix.f s p = some (if s.toList.take p.size = p.toList then (B (s.toList.drop p.size), true) else (s, false)) := by
  unfold strings_CutPrefix.f stringslite_CutPrefix.f stringslite_HasPrefix.f
  by_cases h1 : p.size ≤ s.size
  · rw [if_pos (by omega), if_pos (by omega), if_pos (by omega), Int.toNat_natCast, extract_take, toList_B]
    by_cases h : s.toList.take p.size = p.toList
    · rw [if_pos h]
      simp only [Option.bind_some]
      rw [if_pos (beq_iff_eq.2 h), if_pos (by omega), if_pos (by omega), extract_drop]
      rfl
    · rw [if_neg h]
      simp only [Option.bind_some]
      rw [if_neg (by rw [beq_iff_eq]; exact h)]
      rfl
  · have hne : ¬ s.toList.take p.size = p.toList := by
      intro h
      have := congrArg List.length h
      rw [List.length_take, toList_length, toList_length] at this
      omega
    rw [if_neg (by omega), if_neg hne]
    rfl
theorem cutSuf_hit (a : List UInt8) (h : a.length ≤ 1000000) : strings_CutSuffix.f (B (a ++ [10])) (⟨#[10]⟩ : ByteArray) = some (B a, true) := by
  have h1 : (⟨#[10]⟩ : ByteArray).size = 1 := rfl
  have h2 : (B (a ++ [10])).size = a.length + 1 := by rw [size_B, List.length_append]; rfl
  have hw : wrap64 (((a.length + 1 : Nat) : Int) - ((1 : Nat) : Int)) = (a.length : Int) := by rw [wrap64_in (by omega) (by omega)]; omega
  unfold strings_CutSuffix.f stringslite_CutSuffix.f stringslite_HasSuffix.f
  rw [h1, h2, hw, if_pos (by omega), if_pos (by omega), if_pos (by omega), Int.toNat_natCast]
  have e1 : ((B (a ++ [10])).extract a.length (a.length + 1)).toList = [10] := by
    rw [toList_extract, toList_B, List.take_of_length_le (by simp), List.drop_left]
  have e2 : (B (a ++ [10])).extract 0 a.length = B a := by rw [extract_take, toList_B, List.take_left]
  simp only [Option.bind_some]
  rw [e1, if_pos (by rw [show (⟨#[10]⟩ : ByteArray).toList = [10] from toList_B [10]]; rfl), if_pos (by omega), if_pos (by omega), e2]
  rfl
theorem cutSuf_miss (s : ByteArray) (hs : s.size ≤ 1000000) (h : ∀ a, s.toList ≠ a ++ [10]) : strings_CutSuffix.f s (⟨#[10]⟩ : ByteArray) = some (s, false) := by
  have h1 : (⟨#[10]⟩ : ByteArray).size = 1 := rfl
  unfold strings_CutSuffix.f stringslite_CutSuffix.f stringslite_HasSuffix.f
  rw [h1]
  by_cases h2 : 1 ≤ s.size
  · have hw : wrap64 ((s.size : Int) - ((1 : Nat) : Int)) = ((s.size - 1 : Nat) : Int) := by rw [wrap64_in (by omega) (by omega)]; omega
    rw [hw, if_pos (by omega), if_pos (by omega), if_pos (by omega), Int.toNat_natCast]
    have e1 : ((s.extract (s.size - 1) s.size).toList == (⟨#[10]⟩ : ByteArray).toList) = false := by
      rw [beq_eq_false_iff_ne]
      intro e
      rw [extract_drop, toList_B, show (⟨#[10]⟩ : ByteArray).toList = [10] from toList_B [10]] at e
      exact h (s.toList.take (s.size - 1)) (by rw [← e, List.take_append_drop])
    simp only [Option.bind_some]
    rw [e1, if_neg (by decide)]
    rfl
  · rw [if_neg (by omega)]
    rfl
theorem cut_hit (a b : List UInt8) (ha : (32 : UInt8) ∉ a) (h : a.length + b.length ≤ 1000000) : strings_Cut.f (B (a ++ 32 :: b)) (⟨#[32]⟩ : ByteArray) = some (B a, B b, true) := by
  have h1 : (⟨#[32]⟩ : ByteArray).size = 1 := rfl
  have h2 : (B (a ++ 32 :: b)).size = a.length + b.length + 1 := by rw [size_B, List.length_append, List.length_cons]; omega
  have hw : wrap64 ((a.length : Int) + ((1 : Nat) : Int)) = ((a.length + 1 : Nat) : Int) := by rw [wrap64_in (by omega) (by omega)]; omega
  have hi : stringslite_Index.f (B (a ++ 32 :: b)) (⟨#[32]⟩ : ByteArray) = some (a.length : Int) := by
    unfold stringslite_Index.f
    rw [show (⟨#[32]⟩ : ByteArray).toList = [32] from toList_B [32], toList_B]
    show some (Lib.indexByte (a ++ 32 :: b) 32) = _
    rw [indexByte_hit ha]
  unfold strings_Cut.f stringslite_Cut.f
  rw [hi, h1, Option.bind_some, hw, if_pos (by omega), if_pos (by omega), if_pos (by rw [h2]; omega), if_pos (by omega), if_pos (by rw [h2]; omega), Int.toNat_natCast, Int.toNat_natCast, extract_drop, extract_take, toList_B, List.take_left,
    show (a ++ 32 :: b).drop (a.length + 1) = b by rw [← List.drop_drop, List.drop_left]; rfl]
  rfl
theorem cut_miss (s : ByteArray) (h : (32 : UInt8) ∉ s.toList) : strings_Cut.f s (⟨#[32]⟩ : ByteArray) = some (s, (⟨#[]⟩ : ByteArray), false) := by
  have hi : stringslite_Index.f s (⟨#[32]⟩ : ByteArray) = some (-1) := by
    unfold stringslite_Index.f
    rw [show (⟨#[32]⟩ : ByteArray).toList = [32] from toList_B [32]]
    simp only
    rw [indexByte_miss h]
  unfold strings_Cut.f stringslite_Cut.f
  rw [hi, Option.bind_some, if_neg (by decide)]
  rfl

/-! ### a room, a crash -/
def roomP : List UInt8 := [114, 111, 111, 109, 32]
def crashP : List UInt8 := [99, 114, 97, 115, 104, 32]
theorem room_ev (l : ByteArray) (hl : l.size ≤ 2000) : ∃ n e, Ev (fun k => tape_room.f k l) (n, e) ∧ (e = 0 ∨ e = 17 ∨ e = 3) ∧ (e = 0 → 0 ≤ n ∧ n ≤ 1073741824 ∧ l.toList = roomP ++ numL n) := by
  have hp := cutPre_f l (⟨#[114, 111, 111, 109, 32]⟩ : ByteArray) (by omega)
  rw [show (⟨#[114, 111, 111, 109, 32]⟩ : ByteArray).toList = roomP from toList_B roomP, show (⟨#[114, 111, 111, 109, 32]⟩ : ByteArray).size = 5 from rfl] at hp
  have j17 : ∀ n : Int, Ev (fun k => tape_room.j0 k n true) (0, 17) := fun n => Ev.step (f := fun k => some ((0 : Int), (17 : Int))) (fun k => by rw [tape_room.j0, if_pos rfl]) (Ev.now _)
  unfold tape_room.f
  rw [hp]
  by_cases h : l.toList.take 5 = roomP
  · rw [if_pos h]
    have hu := unnumber_ev (B (l.toList.drop 5)) (by rw [size_B, List.length_drop, toList_length]; omega)
    rw [toList_B] at hu
    rcases unnum_out (l.toList.drop 5) with ⟨n, n0, n1, en, hn⟩ | en
    · rw [en] at hu
      by_cases c1 : n < 0
      · exact ⟨0, 3, Ev.bind_now (Ev.bind hu (Ev.pos rfl (Ev.step (f := fun k => some ((0 : Int), (3 : Int))) (fun k => by dsimp only; rw [tape_room.j0, if_neg (by decide), if_pos c1]) (Ev.now _)))), .inr (.inr rfl), fun h => absurd h (by decide)⟩
      · by_cases c2 : n > 1073741824
        · exact ⟨0, 3, Ev.bind_now (Ev.bind hu (Ev.pos rfl (Ev.step (f := fun k => some ((0 : Int), (3 : Int))) (fun k => by dsimp only; rw [tape_room.j0, if_neg (by decide), if_neg c1, if_pos c2]) (Ev.now _)))), .inr (.inr rfl), fun h => absurd h (by decide)⟩
        · exact ⟨n, 0, Ev.bind_now (Ev.bind hu (Ev.pos rfl (Ev.step (f := fun k => some (n, (0 : Int))) (fun k => by dsimp only; rw [tape_room.j0, if_neg (by decide), if_neg c1, if_neg c2]) (Ev.now _)))), .inl rfl, fun _ => ⟨by omega, by omega, by rw [hn, ← h, List.take_append_drop]⟩⟩
    · rw [en] at hu
      exact ⟨0, 17, Ev.bind_now (Ev.bind hu (Ev.pos rfl (j17 _))), .inr (.inl rfl), fun h => absurd h (by decide)⟩
  · rw [if_neg h]
    have hu := unnumber_ev l (by omega)
    exact ⟨0, 17, Ev.bind_now (Ev.bind hu (Ev.neg (fun h => by cases h) (j17 _))), .inr (.inl rfl), fun h => absurd h (by decide)⟩
theorem crash_ev (c : ByteArray) (hc : c.size ≤ 2000) : ∃ n m e, Ev (fun k => tape_crash.f k c) (n, m, e) ∧ (e = 0 ∨ e = 17) ∧ (e = 0 → -9223372036854775808 ≤ n ∧ n ≤ 9223372036854775807 ∧ ∃ b, m = ints8 b ∧ b.length ≤ 2000 ∧ c.toList = numL n ++ 32 :: maskB b) := by
  have hno : Ev (fun k => (some ((0 : Int), ([] : List Int), (17 : Int)))) ((0 : Int), ([] : List Int), (17 : Int)) := Ev.now _
  unfold tape_crash.f
  by_cases h : (32 : UInt8) ∈ c.toList
  · obtain ⟨a, b, e, ha⟩ := first_at h
    have hlen : a.length + b.length + 1 = c.size := by rw [← toList_length, e, List.length_append, List.length_cons]; omega
    have hcut := cut_hit a b ha (by omega)
    rw [← e, B_toList] at hcut
    rw [hcut]
    have hu := unnumber_ev (B a) (by rw [size_B]; omega)
    have hm := unmask_ev (B b) (by rw [size_B]; omega)
    rw [toList_B] at hu hm
    rcases unnum_out a with ⟨n, n0, n1, en, hn⟩ | en
    · rw [en] at hu
      by_cases hq : maskB (unmL b) = b
      · rw [unmR, if_pos hq] at hm
        refine ⟨n, ints8 (unmL b), 0, Ev.bind_now (Ev.bind hu (Ev.bind hm (Ev.pos rfl (Ev.pos rfl (Ev.now _))))), .inl rfl, fun _ => ⟨n0, n1, unmL b, rfl, ?_, by rw [hq, hn, e]⟩⟩
        have := unmL_length _ b (Nat.le_refl _)
        omega
      · rw [unmR, if_neg hq] at hm
        exact ⟨0, [], 17, Ev.bind_now (Ev.bind hu (Ev.bind hm (Ev.pos rfl (Ev.neg (by decide) hno)))), .inr rfl, fun h => absurd h (by decide)⟩
    · rw [en] at hu
      exact ⟨0, [], 17, Ev.bind_now (Ev.bind hu (Ev.bind hm (Ev.neg (by decide) hno))), .inr rfl, fun h => absurd h (by decide)⟩
  · rw [cut_miss c h]
    have hu := unnumber_ev c (by omega)
    have hm := unmask_ev (⟨#[]⟩ : ByteArray) (by decide)
    rw [show (⟨#[]⟩ : ByteArray).toList = [] from toList_B [], show unmR [] = ([], 17) from rfl] at hm
    by_cases he : (unnumL c.toList).2 = 0
    · exact ⟨0, [], 17, Ev.bind_now (Ev.bind hu (Ev.bind hm (Ev.pos he (Ev.neg (by decide) hno)))), .inr rfl, fun h => absurd h (by decide)⟩
    · exact ⟨0, [], 17, Ev.bind_now (Ev.bind hu (Ev.bind hm (Ev.neg he hno))), .inr rfl, fun h => absurd h (by decide)⟩

/-! ### a line of a script -/
def crashL (c : TCrash) (b : List UInt8) : List UInt8 := crashP ++ (numL c.f0 ++ 32 :: maskB b) ++ [10]
/-- Crashes, and their text. -/
inductive CrashTx : List TCrash → List UInt8 → Prop
  | nil : CrashTx [] []
  | snoc {cs : List TCrash} {o : List UInt8} (n : Int) (b : List UInt8) : CrashTx cs o → -9223372036854775808 ≤ n → n ≤ 9223372036854775807 → b.length ≤ 2000 → CrashTx (cs ++ [⟨n, ints8 b⟩]) (o ++ (crashP ++ (numL n ++ 32 :: maskB b) ++ [10]))
def lineOfX (k : Nat) (x : TStep) : Option (List ByteArray) := rafterref35_Line.f k x.f0 x.f1 x.f2 x.f3.f0 x.f3.f1 x.f3.f2 x.f3.f3.f0 x.f3.f3.f1 x.f3.f3.f2 x.f3.f3.f3
/-- Steps, and their text. -/
inductive StepTx : List TStep → List UInt8 → Prop
  | nil : StepTx [] []
  | snoc {xs : List TStep} {o : List UInt8} (x : TStep) (v : ByteArray) (m : List (List UInt8)) : StepTx xs o → lineOfX 20 x = some (v :: m.map B) → v.size ≤ 2000 → m.length ≤ 2001 → (∀ y ∈ m, y.length ≤ 2000) → StepTx (xs ++ [x]) (o ++ (joinL 32 (v.toList :: m.map wordL) ++ [10]))
/-- A state of the script, and its text. -/
def Tx (t : TScr) (o : List UInt8) : Prop :=
  if t.hd = true then 0 ≤ t.room ∧ t.room ≤ 1073741824 ∧ ∃ p q, CrashTx t.cs p ∧ StepTx t.xs q ∧ o = (roomP ++ numL t.room ++ [10]) ++ p ++ q
  else t.cs = [] ∧ t.xs = [] ∧ o = []
theorem StepTx_nil {o : List UInt8} {xs : List TStep} (h : StepTx xs o) (hx : xs.length = 0) : o = [] := by
  cases h with
  | nil => rfl
  | snoc => simp at hx
theorem lineT_ev (t : TScr) (o : List UInt8) (ht : Tx t o) (l : ByteArray) (hl : l.size ≤ 2000) (hn : t.cs.length + t.xs.length ≤ 100000) :
    ∃ t' e, Ev (fun k => lineT k t l) (t', e) ∧ (e = 0 ∨ e = 17 ∨ e = 3) ∧ t'.hd = true ∧ t'.cs.length + t'.xs.length ≤ t.cs.length + t.xs.length + 1 ∧ (e = 0 → Tx t' (o ++ (l.toList ++ [10]))) := by
  unfold lineT
  by_cases hh : t.hd = false
  · rw [Tx, if_neg (by rw [hh]; decide)] at ht
    obtain ⟨n, e, hr, he, hp⟩ := room_ev l hl
    refine ⟨⟨true, n, t.cs, t.xs⟩, e, Ev.pos hh (Ev.bind hr (Ev.now _)), he, rfl, by dsimp only; omega, fun h => ?_⟩
    obtain ⟨h0, h1, h2⟩ := hp h
    rw [Tx, if_pos rfl]
    refine ⟨h0, h1, [], [], by rw [ht.1]; exact .nil, by rw [ht.2.1]; exact .nil, ?_⟩
    dsimp only
    rw [ht.2.2, h2]
    simp
  · have hh' : t.hd = true := by
      cases hq : t.hd
      · exact absurd hq hh
      · rfl
    rw [Tx, if_pos hh'] at ht
    obtain ⟨r0, r1, p, q, hp, hq, ho⟩ := ht
    have hc := cutPre_f l (⟨#[99, 114, 97, 115, 104, 32]⟩ : ByteArray) (by omega)
    rw [show (⟨#[99, 114, 97, 115, 104, 32]⟩ : ByteArray).toList = crashP from toList_B crashP, show (⟨#[99, 114, 97, 115, 104, 32]⟩ : ByteArray).size = 6 from rfl] at hc
    have hstep : ∀ (is : Bool) (c : ByteArray), ¬ (is = true ∧ t.xs.length = 0) → ∃ t' e, Ev (fun k => (some (c, is)).bind fun c => if c.2 = true ∧ t.xs.length = 0 then (tape_crash.f k c.1).bind fun q => if (t.cs.length + 1) * 32 ≤ 140737488355328 then some ((⟨true, t.room, t.cs ++ [⟨q.1, q.2.1⟩], t.xs⟩ : TScr), q.2.2) else none
        else (cmd_Parse.f k l).bind fun q => if (t.xs.length + 1) * 152 ≤ 140737488355328 then some (⟨true, t.room, t.cs, t.xs ++ [⟨q.1, q.2.1, q.2.2.1, ⟨q.2.2.2.1, q.2.2.2.2.1, q.2.2.2.2.2.1, ⟨q.2.2.2.2.2.2.1, q.2.2.2.2.2.2.2.1, q.2.2.2.2.2.2.2.2.1, q.2.2.2.2.2.2.2.2.2.1⟩⟩⟩]⟩, q.2.2.2.2.2.2.2.2.2.2) else none) (t', e) ∧ (e = 0 ∨ e = 17 ∨ e = 3) ∧ t'.hd = true ∧ t'.cs.length + t'.xs.length ≤ t.cs.length + t.xs.length + 1 ∧ (e = 0 → Tx t' (o ++ (l.toList ++ [10]))) := by
      intro is c hne
      rcases parse_ev l hl with hpv | ⟨v, m, x1, x2, x3, x4, x5, x6, x7, x8, x9, x10, hpv, hln, hsp, hm, hx⟩
      · refine ⟨_, _, Ev.bind_now (Ev.neg hne (Ev.bind hpv (Ev.pos (by omega) (Ev.now _)))), .inr (.inl rfl), rfl, by simp; omega, fun h => absurd h (by decide)⟩
      · refine ⟨_, _, Ev.bind_now (Ev.neg hne (Ev.bind hpv (Ev.pos (by omega) (Ev.now _)))), .inl rfl, rfl, by simp; omega, fun _ => ?_⟩
        have hvs : v.size ≤ 2000 := by
          have h1 : v.toList ∈ splitL 32 l.toList := by rw [hsp]; exact List.mem_cons_self
          have h2 := mem_join_len (c := 32) _ _ h1
          rw [joinL_splitL, toList_length, toList_length] at h2
          omega
        rw [Tx, if_pos rfl]
        refine ⟨r0, r1, p, _, hp, StepTx.snoc _ v m hq hln hvs hm hx, ?_⟩
        rw [ho, ← hsp, joinL_splitL]
        simp
    simp only [hc]
    by_cases h6 : l.toList.take 6 = crashP
    · simp only [if_pos h6]
      by_cases hx : t.xs.length = 0
      · obtain ⟨n, m, e, hr, he, hpp⟩ := crash_ev (B (l.toList.drop 6)) (by rw [size_B, List.length_drop, toList_length]; omega)
        refine ⟨⟨true, t.room, t.cs ++ [⟨n, m⟩], t.xs⟩, e, Ev.neg hh (Ev.bind_now (Ev.pos ⟨rfl, hx⟩ (Ev.bind hr (Ev.pos (by omega) (Ev.now _))))), he.elim .inl (fun h => .inr (.inl h)), rfl, by simp; omega, fun h => ?_⟩
        obtain ⟨n0, n1, b, rfl, hb, hbl⟩ := hpp h
        rw [toList_B] at hbl
        rw [Tx, if_pos rfl]
        refine ⟨r0, r1, _, q, CrashTx.snoc n b hp n0 n1 hb, hq, ?_⟩
        rw [ho, StepTx_nil hq hx, ← hbl, ← h6, List.take_append_drop]
        simp
      · obtain ⟨t', e, h1, h2⟩ := hstep true (B (l.toList.drop 6)) (fun h => hx h.2)
        exact ⟨t', e, Ev.neg hh h1, h2⟩
    · simp only [if_neg h6]
      obtain ⟨t', e, h1, h2⟩ := hstep false l (fun h => by cases h.1)
      exact ⟨t', e, Ev.neg hh h1, h2⟩
theorem linesT_ev : ∀ (ls : List (List UInt8)) (t : TScr) (o : List UInt8), Tx t o → (∀ l ∈ ls, l.length ≤ 2000) → t.cs.length + t.xs.length + ls.length ≤ 100000 →
    ∃ t' e, Ev (fun k => linesT k (ls.map B) t) (t', e) ∧ (e = 0 ∨ e = 17 ∨ e = 3) ∧ (e = 0 → Tx t' (o ++ flatP ls) ∧ t'.cs.length + t'.xs.length ≤ 100000)
  | [], t, o, ht, hl, hn => ⟨t, 0, Ev.now _, .inl rfl, fun _ => ⟨by simpa [flatP] using ht, by simpa using hn⟩⟩
  | l :: ls, t, o, ht, hl, hn => by
    simp only [List.length_cons] at hn
    have hl2 : ∀ l ∈ ls, l.length ≤ 2000 := fun x hx => hl x (List.mem_cons_of_mem _ hx)
    rw [List.map_cons]
    unfold linesT
    rw [nothing_f]
    by_cases hno : noth l = true
    · obtain ⟨t', e, h1, h2, h3⟩ := linesT_ev ls t o ht hl2 (by omega)
      have e1 : flatP (l :: ls) = flatP ls := by rw [flatP, List.flatMap_cons, if_pos hno]; rfl
      rw [e1]
      exact ⟨t', e, Ev.bind_now (Ev.pos hno h1), h2, h3⟩
    · obtain ⟨t1, e1, h1, h2, h3, h4, h5⟩ := lineT_ev t o ht (B l) (by rw [size_B]; exact hl l List.mem_cons_self) (by omega)
      rw [toList_B] at h5
      by_cases he : e1 = 0
      · obtain ⟨t', e, g1, g2, g3⟩ := linesT_ev ls t1 _ (h5 he) hl2 (by omega)
        have e2 : o ++ (l ++ [10]) ++ flatP ls = o ++ flatP (l :: ls) := by rw [flatP, flatP, List.flatMap_cons, if_neg hno, List.append_assoc]
        rw [e2] at g3
        exact ⟨t', e, Ev.bind_now (Ev.neg hno (Ev.bind h1 (Ev.pos he g1))), g2, g3⟩
      · exact ⟨t1, e1, Ev.bind_now (Ev.neg hno (Ev.bind h1 (Ev.neg he (Ev.now _)))), h2, fun h => absurd h he⟩
end Go.Proofs.YtloibeefopdhpaaDoor.Plain
