-- Words of the kit's print (as it laid them for this seat); what this claim does not use is left out.
import Derived.Outline
import Derived.Test.YtloibeefopdhpaaDoorCmdParsePlain
import Derived.Test.YtloibeefopdhpaaDoorReplyNum
import Derived.Test.YtloibeefopdhpaaDoorRef40Text
set_option linter.unusedVariables false
namespace Go.Proofs.YtloibeefopdhpaaDoor.G
open Go.RowKit Go.Proofs.YtloibeefopdhpaaDoorW.PrintWords Go.Proofs.YtloibeefopdhpaaDoorW.PrintLast Go.Proofs.YtloibeefopdhpaaDoorW.PrintMore

def mayX (k : Nat) : List S34 → Option Int
  | [] => some 0
  | x :: xs => (rafterref35_Line.f k x.f0 x.f1 x.f2 x.f3.f0 x.f3.f1 x.f3.f2 x.f3.f3.f0 x.f3.f3.f1 x.f3.f3.f2 x.f3.f3.f3).bind fun l => if l.length = 0 then some 2 else mayX k xs
theorem mayX_mono (k : Nat) : ∀ l, LeO (mayX k l) (mayX (k + 1) l)
  | [] => LeO.refl _
  | x :: xs => LeO.bind (rafterref35_Line.mono _ _ _ _ _ _ _ _ _ _ _) fun l => LeO.ite (LeO.refl _) (mayX_mono k xs)
def rafterref40_May.f (k : Nat) (a0_0 : Int) (l0_1 : List S134) (l0_2 : List S34) : Option Int := if a0_0 < 0 ∨ a0_0 > 1073741824 then some 3 else mayX k l0_2
theorem rafterref40_May.mono : ∀ a0 a1 a2 k, LeO (rafterref40_May.f k a0 a1 a2) (rafterref40_May.f (k + 1) a0 a1 a2) := by
  intro a0 a1 a2 k
  unfold rafterref40_May.f
  exact LeO.ite (LeO.refl _) (mayX_mono _ _)

set_option maxHeartbeats 4000000 in
set_option maxRecDepth 100000 in
theorem rafterref40_May.calls (k : Nat) (a0_0 : Int) (A0_1 : Option Addr) (c0_1 : Nat) (l0_1 : List S134) (A0_2 : Option Addr) (c0_2 : Nat) (l0_2 : List S34) (r : Int) (w : World) (hr0_1 : Kd.C k134 w A0_1 l0_1.length l0_1) (hc0_1 : l0_1.length ≤ c0_1) (hr0_2 : Kd.C k34 w A0_2 l0_2.length l0_2) (hc0_2 : l0_2.length ≤ c0_2) (h : rafterref40_May.f k a0_0 l0_1 l0_2 = some r) :
    Calls Tryd.prog 48 #[.agg #[.int .i64 a0_0, .slice A0_1 l0_1.length c0_1, .slice A0_2 l0_2.length c0_2]] w fun e w' => e = .returned (.int .i64 r) ∧ Below w.heap.size w w' := by
  have HR2 := Aside0.mk hr0_2
  clear hr0_1 hc0_1 hr0_2 hc0_2
  have HB0 := Aside0.mk (below_alloc (Below.refl w.heap.size w) (.cells #[.int .i64 a0_0, .slice A0_1 l0_1.length c0_1, .slice A0_2 l0_2.length c0_2] 76))
  have HX0 := Aside0.mk (heap_alloc_new w (.cells #[.int .i64 a0_0, .slice A0_1 l0_1.length c0_1, .slice A0_2 l0_2.length c0_2] 76))
  unfold rafterref40_May.f at h
  go_enter Tryd.func48, Tryd.ntmps48
  by_cases hc : a0_0 < 0 ∨ a0_0 > 1073741824
  case pos =>
    rw [if_pos hc] at h
    injection h with h
    subst h
    by_cases h0 : a0_0 < 0
    · have e0 : decide (a0_0 < 0) = true := decide_eq_true h0
      go_wp2
      go_ret
      exact ⟨rfl, HB0.out⟩
    · have h1 : 1073741824 < a0_0 := by omega
      have e0 : decide (a0_0 < 0) = false := decide_eq_false h0
      have e1 : decide (1073741824 < a0_0) = true := decide_eq_true h1
      go_wp2
      go_ret
      exact ⟨rfl, HB0.out⟩
  rw [if_neg hc] at h
  have H3 := Aside0.mk h
  have e0 : decide (a0_0 < 0) = false := decide_eq_false (by omega)
  have e1 : decide (1073741824 < a0_0) = false := decide_eq_false (by omega)
  have f0 : ¬ a0_0 < 0 := by omega
  have f1 : ¬ 1073741824 < a0_0 := by omega
  clear h hc
  go_wp2
  clear e0 e1 f0 f1
  go_loopg [3] l0_2.length (fun gk v3 w' => ∃ i : Nat, v3 = .int .i64 i ∧ Aside0 (i + gk = l0_2.length) ∧ Aside0 (mayX k (l0_2.drop i) = some r) ∧ Aside0 (Below w.heap.size w w') ∧ Aside0 (w'.heap[w.heap.size]? = some (.cells #[.int .i64 a0_0, .slice A0_1 l0_1.length c0_1, .slice A0_2 l0_2.length c0_2] 76 (0, 0))))
  case atStart => exact ⟨0, rfl, ⟨by omega⟩, H3, HB0, HX0⟩
  case round =>
    clear H3 HB0 HX0
    obtain ⟨i, rfl, HI, HC, HB, HX⟩ := hrel
    have hm := Kd.C_max HR2.out
    obtain ⟨x0, x1, x2, _⟩ := cells3 HX.out
    by_cases hi : i < l0_2.length
    · have hi' : (i : Int) < (l0_2.length : Int) := by omega
      obtain ⟨ad, A5, c5, A9, c9, e0, y0, y1, y2, y3, y4, y5, y6, y7, y8, y9, g5, q5, g9, q9⟩ := at_T34 (Kd.C_below HR2.out HB.out) (i : Int) (by omega) hi'
      rw [Int.toNat_natCast] at y0 y1 y2 y3 y4 y5 y6 y7 y8 y9
      have hrd : l0_2.drop i = rd_T34 l0_2 (i : Int) :: l0_2.drop (i + 1) := by
        rw [List.drop_eq_getElem_cons hi]
        simp [rd_T34, hi]
      have h := HC.out
      rw [hrd] at h
      generalize rd_T34 l0_2 (i : Int) = x at *
      rw [mayX] at h
      obtain ⟨l, h1, h⟩ := Option.bind_eq_some_iff.mp h
      have H4 := Aside0.mk (fun W e1 e2 => rafterref35_Line.calls k x.f0 x.f1 x.f2 x.f3.f0 x.f3.f1 A5 c5 x.f3.f2 x.f3.f3.f0 x.f3.f3.f1 x.f3.f3.f2 A9 c9 x.f3.f3.f3 l W e1 g5 e2 g9 h1)
      have HQ := Aside0.mk (And.intro q5 q9)
      have HF := Aside0.mk h
      cases e0
      have p1 : (0 ≤ (i : Int)) = True := eq_true (by omega)
      have p2 : ((i : Int) < (l0_2.length : Int)) = True := eq_true hi'
      have hi9 : (i : Int) + 1 ≤ 9223372036854775807 := by omega
      clear h h1 hrd HC g5 q5 g9 q9
      go_wp2_with (fail)
      refine (H4.out _ HQ.out.1 HQ.out.2).mono ?_
      rintro e_ w4 ⟨v4, rfl, hR, hb⟩
      obtain ⟨AL, cL, rfl⟩ := Kd.R_slice hR
      have HB4 := Aside0.mk (below_then HB.out HB.out.size hb)
      have HX4 := Aside0.mk (blk_below HX.out hb)
      have h := HF.out
      clear hb hR HB HX H4 HQ HF x0 x1 x2 y0 y1 y2 y3 y4 y5 y6 y7 y8 y9
      by_cases hl : l.length = 0
      · rw [if_pos hl] at h
        injection h with h
        subst h
        have z1 : ((l.length : Int) == 0) = true := by rw [hl]; rfl
        go_wp2
        go_ret
        exact ⟨rfl, HB4.out⟩
      · rw [if_neg hl] at h
        have HC2 := Aside0.mk h
        have z1 : ((l.length : Int) == 0) = false := beq_eq_false_iff_ne.2 (by omega)
        clear h
        go_wp2
        go_roundg (gk - 1)
        case measure => have := HI.out; omega
        case rel => exact ⟨i + 1, by go_num, ⟨by have := HI.out; omega⟩, HC2, HB4, HX4⟩
    · have hi' : ¬ (i : Int) < (l0_2.length : Int) := by omega
      have h := HC.out
      rw [List.drop_eq_nil_of_le (by omega), mayX] at h
      injection h with h
      subst h
      go_wp2
      go_ret
      exact ⟨rfl, HB.out⟩
end Go.Proofs.YtloibeefopdhpaaDoor.G
set_option linter.unusedVariables false
set_option linter.unusedSimpArgs false
namespace Go.Proofs.YtloibeefopdhpaaDoor.Plain
open Go.RowKit Go.Proofs.YtloibeefopdhpaaDoor.G Go.Proofs.YtloibeefopdhpaaDoorW.PrintWords Go.Proofs.YtloibeefopdhpaaDoorW.PrintLast Go.Proofs.YtloibeefopdhpaaDoorW.PrintMore
theorem cutPre_f (s p : ByteArray) (hs : s.size ≤ 1000000000) : strings_CutPrefix.f s p = some (if s.toList.take p.size = p.toList then (B (s.toList.drop p.size), true) else (s, false)) := by
  unfold strings_CutPrefix.f stringslite_CutPrefix.f stringslite_HasPrefix.f
  by_cases h1 : p.size ≤ s.size
  · rw [if_pos (by omega), if_pos (by omega), if_pos (by omega), Int.toNat_natCast, extract_take, toList_B]
    by_cases h : s.toList.take p.size = p.toList
    · rw [if_pos h]
      simp only [Option.bind_some]
      rw [if_pos (beq_iff_eq.2 h), if_pos (by omega), if_pos (by omega), extract_drop]
      rfl
    · rw [if_neg h]
      simp only [Option.bind_some]
      rw [if_neg (by rw [beq_iff_eq]; exact h)]
      rfl
  · have hne : ¬ s.toList.take p.size = p.toList := by
      intro h
      have := congrArg List.length h
      rw [List.length_take, toList_length, toList_length] at this
      omega
    rw [if_neg (by omega), if_neg hne]
    rfl
theorem cutSuf_hit (a : List UInt8) (h : a.length ≤ 1000000000) : strings_CutSuffix.f (B (a ++ [10])) (⟨#[10]⟩ : ByteArray) = some (B a, true) := by
  have h1 : (⟨#[10]⟩ : ByteArray).size = 1 := rfl
  have h2 : (B (a ++ [10])).size = a.length + 1 := by rw [size_B, List.length_append]; rfl
  have hw : wrap64 (((a.length + 1 : Nat) : Int) - ((1 : Nat) : Int)) = (a.length : Int) := by rw [wrap64_in (by omega) (by omega)]; omega
  unfold strings_CutSuffix.f stringslite_CutSuffix.f stringslite_HasSuffix.f
  rw [h1, h2, hw, if_pos (by omega), if_pos (by omega), if_pos (by omega), Int.toNat_natCast]
  have e1 : ((B (a ++ [10])).extract a.length (a.length + 1)).toList = [10] := by
    rw [toList_extract, toList_B, List.take_of_length_le (by simp), List.drop_left]
  have e2 : (B (a ++ [10])).extract 0 a.length = B a := by rw [extract_take, toList_B, List.take_left]
  simp only [Option.bind_some]
  rw [e1, if_pos (by rw [show (⟨#[10]⟩ : ByteArray).toList = [10] from toList_B [10]]; rfl), if_pos (by omega), if_pos (by omega), e2]
  rfl
theorem cut_hit (a b : List UInt8) (ha : (32 : UInt8) ∉ a) (h : a.length + b.length ≤ 1000000) : strings_Cut.f (B (a ++ 32 :: b)) (⟨#[32]⟩ : ByteArray) = some (B a, B b, true) := by
  have h1 : (⟨#[32]⟩ : ByteArray).size = 1 := rfl
  have h2 : (B (a ++ 32 :: b)).size = a.length + b.length + 1 := by rw [size_B, List.length_append, List.length_cons]; omega
  have hw : wrap64 ((a.length : Int) + ((1 : Nat) : Int)) = ((a.length + 1 : Nat) : Int) := by rw [wrap64_in (by omega) (by omega)]; omega
  have hi : stringslite_Index.f (B (a ++ 32 :: b)) (⟨#[32]⟩ : ByteArray) = some (a.length : Int) := by
    unfold stringslite_Index.f
    rw [show (⟨#[32]⟩ : ByteArray).toList = [32] from toList_B [32], toList_B]
    show some (Lib.indexByte (a ++ 32 :: b) 32) = _
    rw [indexByte_hit ha]
  unfold strings_Cut.f stringslite_Cut.f
  rw [hi, h1, Option.bind_some, hw, if_pos (by omega), if_pos (by omega), if_pos (by rw [h2]; omega), if_pos (by omega), if_pos (by rw [h2]; omega), Int.toNat_natCast, Int.toNat_natCast, extract_drop, extract_take, toList_B, List.take_left,
    show (a ++ 32 :: b).drop (a.length + 1) = b by rw [← List.drop_drop, List.drop_left]; rfl]
  rfl
def roomP : List UInt8 := [114, 111, 111, 109, 32]
def crashP : List UInt8 := [99, 114, 97, 115, 104, 32]
def crashL (c : TCrash) (b : List UInt8) : List UInt8 := crashP ++ (numL c.f0 ++ 32 :: maskB b) ++ [10]
inductive CrashTx : List TCrash → List UInt8 → Prop
  | nil : CrashTx [] []
  | snoc {cs : List TCrash} {o : List UInt8} (n : Int) (b : List UInt8) : CrashTx cs o → -9223372036854775808 ≤ n → n ≤ 9223372036854775807 → b.length ≤ 2000 → CrashTx (cs ++ [⟨n, ints8 b⟩]) (o ++ (crashP ++ (numL n ++ 32 :: maskB b) ++ [10]))
def lineOfX (k : Nat) (x : TStep) : Option (List ByteArray) := rafterref35_Line.f k x.f0 x.f1 x.f2 x.f3.f0 x.f3.f1 x.f3.f2 x.f3.f3.f0 x.f3.f3.f1 x.f3.f3.f2 x.f3.f3.f3
inductive StepTx : List TStep → List UInt8 → Prop
  | nil : StepTx [] []
  | snoc {xs : List TStep} {o : List UInt8} (x : TStep) (v : ByteArray) (m : List (List UInt8)) : StepTx xs o → lineOfX 20 x = some (v :: m.map B) → v.size ≤ 2000 → m.length ≤ 2001 → (∀ y ∈ m, y.length ≤ 2000) → StepTx (xs ++ [x]) (o ++ (joinL 32 (v.toList :: m.map wordL) ++ [10]))
def Tx (t : TScr) (o : List UInt8) : Prop :=
  if t.hd = true then 0 ≤ t.room ∧ t.room ≤ 1073741824 ∧ ∃ p q, CrashTx t.cs p ∧ StepTx t.xs q ∧ o = (roomP ++ numL t.room ++ [10]) ++ p ++ q
  else t.cs = [] ∧ t.xs = [] ∧ o = []
end Go.Proofs.YtloibeefopdhpaaDoor.Plain
