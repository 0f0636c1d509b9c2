/- Layer 3: lines.Right, lines.Check: the walks. -/
import Derived.Test.YtigpnhgheameoaaDoorTabs
import Derived.Test.YtigpnhgheameoaaDoorG0
import Derived.Laws.RangeAny
import Derived.Lib.OthersKept
import Derived.Lib.ValidLaws
import Derived.Outline
set_option linter.unusedVariables false
namespace Go.Proofs.YtigpnhgheameoaaDoor.G
open Go.RowKit Go.Proofs.YtigpnhgheameoaaDoorW.PrintWords Go.Proofs.YtigpnhgheameoaaDoorW.PrintLast Go.Proofs.YtigpnhgheameoaaDoor.Plain

/-- No control sign but the tabulator, rune by rune. -/
def runesOk : Nat → List UInt8 → Bool
  | 0, _ => true
  | n + 1, l => if l = [] then true else if (Lib.decodeL l).1 < 32 ∧ (Lib.decodeL l).1 ≠ 9 then false else runesOk n (l.drop (Lib.decodeL l).2)
def lineOk (l : List UInt8) : Bool := decide (l.length ≤ 200) && Lib.validD l && runesOk (l.length + 1) l
def lines_Right.f (a0 : ByteArray) : Option Bool := some (lineOk a0.toList)

theorem lines_Right.calls (a0 : ByteArray) (r : Bool) (w : World) (h : lines_Right.f a0 = some r) (hG : Gl w) :
    Calls Tryd.prog 52 #[.string a0] w fun e w' => e = .returned (.bool r) ∧ Below w.heap.size w w' := by
  injection h with h
  have hlen := toList_length a0
  by_cases h1 : a0.size ≤ 200
  · have k1 : decide (200 < (a0.size : Int)) = false := decide_eq_false (by omega)
    have k2 : decide (200 < a0.size) = false := decide_eq_false (by omega)
    have HV := Aside0.mk (Tryd.utf8_ValidString a0 w (by omega) hG)
    have hr : r = (Lib.validD a0.data.toList && runesOk (a0.size + 1) a0.data.toList) := by
      rw [← h, lineOk, ByteArray.toList_eq, ← ByteArray.toList_eq, hlen, decide_eq_true h1, Bool.true_and]
    clear h
    obtain ⟨v, hv⟩ : ∃ v, Lib.validD a0.data.toList = v := ⟨_, rfl⟩
    rw [hv] at hr HV
    cases v with
    | false =>
      have hr' : r = false := by rw [hr]; rfl
      subst hr'
      clear hr
      go_enter Tryd.func52, Tryd.ntmps52
      go_wp2_with (first | (go_at_call 89; refine HV.out.mono ?_; rintro e w1 ⟨rfl, hb⟩; have HB := Aside0.mk hb; clear hb))
      go_ret
      exact ⟨rfl, HB.out⟩
    | true =>
      rw [Bool.true_and] at hr
      have HR := Aside0.mk hr
      clear hr
      go_enter Tryd.func52, Tryd.ntmps52
      go_wp2_with (first | (go_at_call 89; refine HV.out.mono ?_; rintro e w1 ⟨rfl, hb⟩; have HB := Aside0.mk hb; clear hb))
      have hk0 : Aside0 ((w1.iter a0 0).heap[w1.heap.size]? = some (.stringIter a0 0)) := ⟨World.iter_heap w1 a0 0⟩
      have hb0 : Aside0 (Below w.heap.size w (w1.iter a0 0)) := ⟨HB.out.alloc HB.out.size _⟩
      have hz : Aside0 (w.heap.size ≤ w1.heap.size) := ⟨HB.out.size⟩
      generalize w1.iter a0 0 = w2 at *
      generalize w1.heap.size = K at *
      go_loopg [4] (a0.size + 1) (fun gk v4 w' => ∃ pos : Nat, Aside0 (w'.heap[K]? = some (.stringIter a0 pos)) ∧ Aside0 (Below w.heap.size w w') ∧ Aside0 (a0.size < pos + gk ∧ pos ≤ a0.size) ∧ Aside0 (r = runesOk gk (a0.data.toList.drop pos)))
      case atStart => exact ⟨0, hk0, hb0, ⟨by omega, by omega⟩, HR⟩
      case round =>
        clear hk0 hb0 HR HB
        obtain ⟨pos, HK, HB, HM, HR⟩ := hrel
        cases gk with
        | zero => exact absurd HM.out.1 (by have := HM.out.2; omega)
        | succ k =>
        have hd := Lib.decodeL_drop a0 pos
        have H := HR.out
        clear HR
        rw [runesOk] at H
        by_cases hp : pos < a0.size
        · have hne : a0.data.toList.drop pos ≠ [] := fun e => by
            have := List.drop_eq_nil_iff.1 e
            rw [← ByteArray.toList_eq] at this
            omega
          rw [if_neg hne, hd] at H
          have hnext : ∀ ty, (Instr.next (.pointer (some ⟨K, 0, none⟩)) true ty).run Tryd.prog wr = _ := fun ty => Lib.run_next_any_at wr K a0 pos ty HK.out hp
          have HK1 := Aside0.mk (Lib.iterAt_heap wr K a0 pos (pos + (Utf8.decode a0 pos).2) HK.out)
          have HB1 : Aside0 (Below w.heap.size w (wr.iterAt K a0 (pos + (Utf8.decode a0 pos).2))) := ⟨Lib.below_iterAt HB.out hz.out a0 _⟩
          have hw := Lib.width_pos a0 pos
          have hw2 := Lib.decodeL_le _ hne
          rw [hd, List.length_drop, ← ByteArray.toList_eq, hlen] at hw2
          rw [List.drop_drop] at H
          have HN := Aside0.mk hnext
          clear hnext hd
          generalize hrw : Utf8.decode a0 pos = rw_ at *
          obtain ⟨c, n⟩ := rw_
          simp only at H HN HK1 HB1 hw hw2
          generalize wr.iterAt K a0 (pos + n) = W1 at *
          by_cases hc : c < 32
          · have c1 : decide ((c : Int) < 32) = true := decide_eq_true (by omega)
            have c2 : decide (c < 32) = true := decide_eq_true hc
            by_cases h9 : c = 9
            · subst h9
              rw [if_neg (fun h => h.2 rfl)] at H
              have HR := Aside0.mk H
              have hnext := HN.out
              clear H HN c1 c2 hc
              go_wp2
              go_roundg k
              case measure => omega
              case rel => exact ⟨pos + n, HK1, HB1, ⟨by have := HM.out; omega, by have := HM.out; omega⟩, HR⟩
            · rw [if_pos ⟨hc, h9⟩] at H
              subst H
              have c3 : ((c : Int) == 9) = false := by rw [beq_eq_false_iff_ne]; omega
              have c4 : ((c : Int) != 9) = true := by rw [bne_iff_ne]; omega
              have hnext := HN.out
              clear HN
              go_wp2
              go_ret
              exact ⟨rfl, HB1.out⟩
          · rw [if_neg (fun h => hc h.1)] at H
            have c1 : decide ((c : Int) < 32) = false := decide_eq_false (by omega)
            have c2 : decide (c < 32) = false := decide_eq_false hc
            have HR := Aside0.mk H
            have hnext := HN.out
            clear H HN
            go_wp2
            go_roundg k
            case measure => omega
            case rel => exact ⟨pos + n, HK1, HB1, ⟨by have := HM.out; omega, by have := HM.out; omega⟩, HR⟩
        · rw [if_pos (List.drop_eq_nil_of_le (by rw [← ByteArray.toList_eq]; omega))] at H
          subst H
          have hnext : ∀ ty, (Instr.next (.pointer (some ⟨K, 0, none⟩)) true ty).run Tryd.prog wr = _ := fun ty => Lib.run_next_end_at wr K a0 pos ty HK.out hp
          go_wp2
          go_ret
          exact ⟨rfl, HB.out⟩
  · have k1 : decide (200 < (a0.size : Int)) = true := decide_eq_true (by omega)
    have k2 : decide (200 < a0.size) = true := decide_eq_true (by omega)
    have hr : r = false := by rw [← h, lineOk, hlen, decide_eq_false h1]; rfl
    subst hr
    clear h
    go_enter Tryd.func52, Tryd.ntmps52
    go_wp2
    go_ret
    exact ⟨rfl, Below.refl _ _⟩

/-- The place of the first one of which something is so; -1: there is none. -/
def firstIdx {α : Type} (p : α → Bool) : List α → Nat → Int
  | [], _ => -1
  | x :: l, i => if p x then (i : Int) else firstIdx p l (i + 1)
theorem firstIdx_ge {α : Type} (p : α → Bool) : ∀ (l : List α) (i : Nat), decide (firstIdx p l i ≥ 0) = l.any p
  | [], i => rfl
  | x :: l, i => by
    rw [firstIdx, List.any_cons]
    cases h : p x with
    | true => simp
    | false => simpa using firstIdx_ge p l (i + 1)

/-- The closure in lines.Check: is a text no line? -/
theorem lines_bad.calls (s : ByteArray) (w : World) (hG : Gl w) :
    Calls Tryd.prog 75 #[.string s] w fun e w' => e = .returned (.bool (!lineOk s.toList)) ∧ Below w.heap.size w w' := by
  have HN := Aside0.mk (lines_Right.calls s (lineOk s.toList) w rfl hG)
  clear hG
  generalize lineOk s.toList = b at HN ⊢
  go_enter Tryd.func75, Tryd.ntmps75
  go_wp2_with (first | (go_at_call 52; refine HN.out.mono ?_; rintro e w1 ⟨rfl, hb⟩))
  go_ret
  exact ⟨rfl, hb⟩

theorem lines_IndexFunc.calls (A0 : Option Addr) (c0 : Nat) (l0 : List ByteArray) (w : World) (hr0 : Kd.C Kd.string w A0 l0.length l0) (hc0 : l0.length ≤ c0) (hG : Gl w) :
    Calls Tryd.prog 109 #[.slice A0 l0.length c0, .func (.func 75) #[] #[]] w fun e w' => e = .returned (.int .i64 (firstIdx (fun x => !lineOk x.toList) l0 0)) ∧ Below w.heap.size w w' := by
  have HG0 := Aside0.mk hG
  clear hG
  have HR0 := Aside0.mk hr0
  have HC0 := Aside0.mk hc0
  have hm := Kd.C_max hr0
  clear hr0 hc0
  obtain ⟨r, hr⟩ : ∃ r, r = firstIdx (fun x => !lineOk x.toList) l0 0 := ⟨_, rfl⟩
  rw [← hr]
  have HI := Aside0.mk hr
  clear hr
  go_enter Tryd.func109, Tryd.ntmps109
  go_wp2
  go_loopg [8] l0.length (fun gk v8 w' => ∃ i : Nat, v8 = .int .i64 i ∧ Aside0 (i + gk = l0.length) ∧ Aside0 (Below w.heap.size w w') ∧ Aside0 (r = firstIdx (fun x => !lineOk x.toList) (l0.drop i) i))
  case atStart => exact ⟨0, rfl, ⟨by omega⟩, ⟨Below.refl _ _⟩, HI⟩
  case round =>
    clear HI
    obtain ⟨i, rfl, HI, HB, HG⟩ := hrel
    by_cases hi : i < l0.length
    · have hd0 : l0.drop i = l0[i] :: l0.drop (i + 1) := List.drop_eq_getElem_cons hi
      have H := HG.out
      clear HG
      rw [hd0, firstIdx] at H
      obtain ⟨ad, e0, hx⟩ := Kd.at_string HR0.out (i : Int) (by omega) (by omega)
      cases e0
      replace hx := (HB.out.cell (World.block_lt_of_cell? w _ hx)).trans hx
      have e1 : rdOf ByteArray.empty l0 (i : Int) = l0[i] := by simp [rdOf, hi]
      rw [e1, Int.toNat_natCast] at hx
      have HN := Aside0.mk (fun (W : World) (hG : Gl W) => lines_bad.calls l0[i] W hG)
      generalize l0[i] = x at *
      clear hd0 e1
      have hi' : (i : Int) < (l0.length : Int) := by omega
      obtain ⟨b, hb0⟩ : ∃ b, b = lineOk x.toList := ⟨_, rfl⟩
      rw [← hb0] at H HN
      cases b with
      | true =>
        have HG := Aside0.mk (show r = firstIdx (fun x => !lineOk x.toList) (l0.drop (i + 1)) (i + 1) by simpa using H)
        clear H hb0
        go_wp2_with (first | (go_at_call 75; refine (HN.out _ (Gl.below HG0.out HB.out)).mono ?_; rintro e w2 ⟨rfl, hb⟩; have HB2 := Aside0.mk (below_step HB.out hb); clear hb))
        go_roundg (gk - 1)
        case measure => have := HI.out; omega
        case rel => exact ⟨i + 1, by go_num, ⟨by have := HI.out; omega⟩, HB2, HG⟩
      | false =>
        have HG := Aside0.mk (show r = (i : Int) by simpa using H)
        clear H hb0
        go_wp2_with (first | (go_at_call 75; refine (HN.out _ (Gl.below HG0.out HB.out)).mono ?_; rintro e w2 ⟨rfl, hb⟩; have HB2 := Aside0.mk (below_step HB.out hb); clear hb))
        go_ret
        exact ⟨by rw [HG.out]; rfl, HB2.out⟩
    · have H := HG.out
      clear HG
      rw [List.drop_eq_nil_of_le (by omega), firstIdx] at H
      have HG := Aside0.mk H
      clear H
      have hi' : ¬ (i : Int) < (l0.length : Int) := by omega
      have hi2 : decide ((i : Int) < (l0.length : Int)) = false := decide_eq_false hi'
      go_wp2
      go_ret
      exact ⟨by rw [HG.out]; rfl, HB.out⟩

theorem lines_ContainsFunc.calls (A0 : Option Addr) (c0 : Nat) (l0 : List ByteArray) (w : World) (hr0 : Kd.C Kd.string w A0 l0.length l0) (hc0 : l0.length ≤ c0) (hG : Gl w) :
    Calls Tryd.prog 71 #[.slice A0 l0.length c0, .func (.func 75) #[] #[]] w fun e w' => e = .returned (.bool (l0.any (fun x => !lineOk x.toList))) ∧ Below w.heap.size w w' := by
  have HN := Aside0.mk (lines_IndexFunc.calls A0 c0 l0 w hr0 hc0 hG)
  rw [← firstIdx_ge _ l0 0]
  clear hr0 hc0 hG
  generalize firstIdx (fun x : ByteArray => !lineOk x.toList) l0 0 = n at HN ⊢
  go_enter Tryd.func71, Tryd.ntmps71
  go_wp2_with (first | (go_at_call 109; refine HN.out.mono ?_; rintro e w1 ⟨rfl, hb⟩))
  go_ret
  exact ⟨rfl, hb⟩

/-- lines.Check: ErrBig, ErrForm, or OK. -/
def checkL (l : List (List UInt8)) : Int := if l.length > 2000 then 4 else if l.all lineOk then 0 else 6
def lines_Check.f (l0 : List ByteArray) : Option Int := some (checkL (l0.map ByteArray.toList))
theorem lines_Check.calls (A0 : Option Addr) (c0 : Nat) (l0 : List ByteArray) (r : Int) (w : World) (hr0 : Kd.C Kd.string w A0 l0.length l0) (hc0 : l0.length ≤ c0) (h : lines_Check.f l0 = some r) (hG : Gl w) :
    Calls Tryd.prog 40 #[.slice A0 l0.length c0] w fun e w' => e = .returned (.int .i64 r) ∧ Below w.heap.size w w' := by
  injection h with h
  rw [checkL, List.length_map] at h
  by_cases h1 : l0.length > 2000
  · rw [if_pos h1] at h
    subst h
    have k1 : decide (2000 < (l0.length : Int)) = true := decide_eq_true (by omega)
    have k2 : decide (2000 < l0.length) = true := decide_eq_true (by omega)
    clear hr0 hc0 hG
    go_enter Tryd.func40, Tryd.ntmps40
    go_wp2
    go_ret
    exact ⟨rfl, Below.refl _ _⟩
  · rw [if_neg h1] at h
    have k1 : decide (2000 < (l0.length : Int)) = false := decide_eq_false (by omega)
    have k2 : decide (2000 < l0.length) = false := decide_eq_false (by omega)
    have HC := Aside0.mk (lines_ContainsFunc.calls A0 c0 l0 w hr0 hc0 hG)
    have e : l0.any (fun x => !lineOk x.toList) = !(l0.map ByteArray.toList).all lineOk := by
      clear h k1 k2 h1 hr0 hc0 HC
      induction l0 with
      | nil => rfl
      | cons x l ih => simp only [List.any_cons, List.map_cons, List.all_cons, Bool.not_and, ih]
    rw [e] at HC
    clear hr0 hc0 hG e
    generalize (l0.map ByteArray.toList).all lineOk = b at HC h
    cases b with
    | true =>
      rw [if_pos rfl] at h
      subst h
      go_enter Tryd.func40, Tryd.ntmps40
      go_wp2_with (first | (go_at_call 71; refine HC.out.mono ?_; rintro e w1 ⟨rfl, hb⟩))
      go_ret
      exact ⟨rfl, hb⟩
    | false =>
      rw [if_neg (by decide)] at h
      subst h
      go_enter Tryd.func40, Tryd.ntmps40
      go_wp2_with (first | (go_at_call 71; refine HC.out.mono ?_; rintro e w1 ⟨rfl, hb⟩))
      go_ret
      exact ⟨rfl, hb⟩

end Go.Proofs.YtigpnhgheameoaaDoor.G
