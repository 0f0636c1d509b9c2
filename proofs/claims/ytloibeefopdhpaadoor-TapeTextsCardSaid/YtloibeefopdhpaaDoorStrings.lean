-- Words of the kit's print (as it laid them for this seat); what this claim does not use is left out.
import Derived.Test.YtloibeefopdhpaaDoorG15
import Derived.Outline
set_option linter.unusedVariables false
namespace Go.Proofs.YtloibeefopdhpaaDoor.G
open Go.RowKit Go.Proofs.YtloibeefopdhpaaDoorW.PrintWords Go.Proofs.YtloibeefopdhpaaDoorW.PrintLast Go.Proofs.YtloibeefopdhpaaDoorW.PrintMore
def api_Crash.l0 : Nat → List S134 → List S134 → Int → Option Bool
  | 0, _, _, _ => none
  | k + 1, x1, x15, i => if 0 ≤ i ∧ i < (x15.length : Int) ∧ i < (x1.length : Int) then (tape_Same_1.f k (rd_T134 x15 i).f0 (rd_T134 x15 i).f1 (rd_T134 x1 i).f0 (rd_T134 x1 i).f1).bind fun b => if b = true then api_Crash.l0 k x1 x15 (wrap64 (i + 1)) else some false
    else if 0 ≤ i ∧ i < (x15.length : Int) then none else some true
theorem api_Crash.l0_mono : ∀ k x1 x15 i, LeO (api_Crash.l0 k x1 x15 i) (api_Crash.l0 (k + 1) x1 x15 i)
  | 0, _, _, _ => fun r h => by simp [api_Crash.l0] at h
  | k + 1, x1, x15, i => by
    rw [api_Crash.l0, api_Crash.l0]
    exact LeO.ite (LeO.bind (tape_Same_1.mono _ _ _ _ _) fun b => LeO.ite (api_Crash.l0_mono k _ _ _) (LeO.refl _)) (LeO.refl _)
def api_Crash.f (k : Nat) (l0 : List S134) (l1 : List S134) : Option Bool := if l0.length = l1.length then api_Crash.l0 k l1 l0 0 else some false
theorem api_Crash.mono : ∀ a0 a1 k, LeO (api_Crash.f k a0 a1) (api_Crash.f (k + 1) a0 a1) := by
  intro a0 a1 k
  unfold api_Crash.f
  exact LeO.ite (api_Crash.l0_mono _ _ _ _) (LeO.refl _)
set_option maxHeartbeats 4000000 in
set_option maxRecDepth 100000 in
theorem api_Crash.calls (k : Nat) (A0 : Option Addr) (c0 : Nat) (l0 : List S134) (A1 : Option Addr) (c1 : Nat) (l1 : List S134) (r : Bool) (w : World) (hr0 : Kd.C k134 w A0 l0.length l0) (hc0 : l0.length ≤ c0) (hr1 : Kd.C k134 w A1 l1.length l1) (hc1 : l1.length ≤ c1) (h : api_Crash.f k l0 l1 = some r) :
    Calls Tryd.prog 99 #[.slice A0 l0.length c0, .slice A1 l1.length c1, .func (.func 100) #[] #[]] w fun e w' => e = .returned (.bool r) ∧ Below w.heap.size w w' := by
  have HR0 := Aside0.mk hr0
  have HR1 := Aside0.mk hr1
  have HB0 := Aside0.mk (Below.refl w.heap.size w)
  clear hr0 hr1 hc0 hc1
  unfold api_Crash.f at h
  go_enter Tryd.func99, Tryd.ntmps99
  by_cases hl : l0.length = l1.length
  case neg =>
    rw [if_neg hl] at h
    injection h with h
    subst h
    have hl1 : ((l0.length : Int) != (l1.length : Int)) = true := bne_iff_ne.2 (by omega)
    have hl2 : ((l0.length : Int) == (l1.length : Int)) = false := beq_eq_false_iff_ne.2 (by omega)
    have hl3 : (l0.length == l1.length) = false := beq_eq_false_iff_ne.2 hl
    go_wp2
    go_ret
    exact ⟨rfl, HB0.out⟩
  rw [if_pos hl] at h
  have hl1 : ((l0.length : Int) != (l1.length : Int)) = false := bne_eq_false_iff_eq.2 (by omega)
  have hl2 : ((l0.length : Int) == (l1.length : Int)) = true := beq_iff_eq.2 (by omega)
  have hl3 : (l0.length == l1.length) = true := beq_iff_eq.2 hl
  have HH := Aside0.mk h
  have HL := Aside0.mk hl
  clear h hl
  go_wp2
  clear hl1 hl2 hl3
  go_loopg [17] k (fun kq v17 w' => ∃ i : Int, v17 = .int .i64 i ∧ Aside0 (0 ≤ i) ∧ Aside0 (api_Crash.l0 kq l1 l0 i = some r) ∧ Aside0 (Below w.heap.size w w'))
  case atStart => exact ⟨0, rfl, ⟨Int.le_refl 0⟩, HH, HB0⟩
  case round =>
    clear HH HB0
    obtain ⟨i, rfl, HI, HA, HB⟩ := hrel
    cases gk with
    | zero => exact absurd HA.out (by simp [api_Crash.l0])
    | succ k1 =>
      have h := HA.out
      rw [api_Crash.l0] at h
      have hi0 := HI.out
      by_cases hi : i < (l0.length : Int)
      case neg =>
        rw [if_neg (fun q => hi q.2.1), if_neg (fun q => hi q.2)] at h
        injection h with h
        subst h
        go_wp2
        go_ret
        exact ⟨rfl, HB.out⟩
      have hi1 : i < (l1.length : Int) := by have := HL.out; omega
      rw [if_pos ⟨hi0, hi, hi1⟩] at h
      obtain ⟨b, h1, h⟩ := Option.bind_eq_some_iff.mp h
      obtain ⟨ad, A1, c1', e0, x0, x1, g5, q5⟩ := at_T134 (Kd.C_below HR0.out HB.out) i hi0 hi
      obtain ⟨bd, B1, d1', e1, y0, y1, j5, p5⟩ := at_T134 (Kd.C_alloc (Kd.C_below HR1.out HB.out) (.cells #[.int .i64 (rd_T134 l0 i).f0, .slice A1 (rd_T134 l0 i).f1.length c1'] 134)) i hi0 hi1
      have hm := Kd.C_max HR0.out
      cases e0
      cases e1
      generalize rd_T134 l0 i = x at *
      generalize rd_T134 l1 i = y at *
      have H1 := Aside0.mk (fun W e1 e3 => tape_Same_1.calls k1 x.f0 A1 c1' x.f1 y.f0 B1 d1' y.f1 b W e1 g5 e3 j5 h1)
      have HP := Aside0.mk (And.intro q5 p5)
      have HH := Aside0.mk h
      have p1 : (0 ≤ i) = True := eq_true hi0
      have p2 : (i < (l0.length : Int)) = True := eq_true hi
      have p3 : (i < (l1.length : Int)) = True := eq_true hi1
      clear h h1 HA g5 q5 j5 p5 HI
      go_wp2_with (fail)
      refine (H1.out _ (Kd.C_alloc (Kd.C_alloc HP.out.1 _) _) (Kd.C_alloc HP.out.2 _)).mono ?_
      rintro e_ w2 ⟨rfl, hb⟩
      have HB2 := Aside0.mk (below_then (below_alloc (below_alloc HB.out _) _) (below_alloc (below_alloc HB.out _) _).size hb)
      have hi9 : i + 1 ≤ 9223372036854775807 := by omega
      have h := HH.out
      clear hb HH HP H1 HB x0 x1 y0 y1
      cases b with
      | false =>
        rw [if_neg (by decide)] at h
        injection h with h
        subst h
        go_wp2
        go_ret
        exact ⟨rfl, HB2.out⟩
      | true =>
        rw [if_pos rfl] at h
        have HA2 := Aside0.mk h
        clear h
        have hw : wrap64 (i + 1) = i + 1 := by unfold wrap64; omega
        rw [hw] at HA2
        go_wp2
        go_roundg k1
        case measure => omega
        case rel => exact ⟨i + 1, rfl, ⟨by omega⟩, HA2, HB2⟩
end Go.Proofs.YtloibeefopdhpaaDoor.G
set_option linter.unusedVariables false
namespace Go.Proofs.YtloibeefopdhpaaDoor.G
open Go.RowKit Go.Proofs.YtloibeefopdhpaaDoorW.PrintWords Go.Proofs.YtloibeefopdhpaaDoorW.PrintLast Go.Proofs.YtloibeefopdhpaaDoor.Plain
def strings_Index.f (a0 a1 : ByteArray) : Option Int := match a1.toList with | [c] => some (Lib.indexByte a0.toList c) | _ => none
theorem strings_Index.calls (a0 a1 : ByteArray) (r : Int) (w : World) (h : strings_Index.f a0 a1 = some r) :
    Calls Tryd.prog 128 #[.string a0, .string a1] w fun e w' => e = .returned (.int .i64 r) ∧ Drawn0 w w' := by
  unfold strings_Index.f at h
  split at h
  · rename_i c hc
    obtain rfl : a1 = ⟨#[c]⟩ := ext_toList (by rw [hc]; exact (toList_B [c]).symm)
    injection h with h
    subst h
    refine (Tryd.strings_Index_one a0 c w).mono ?_
    rintro e w' ⟨rfl, rfl⟩
    exact ⟨by rw [ByteArray.toList_eq], Drawn0.refl _⟩
  · cases h
def strings_Count.f (a0 a1 : ByteArray) : Option Int := match a1.toList with | [c] => some (a0.toList.count c : Int) | _ => none
theorem strings_Count.calls (a0 a1 : ByteArray) (r : Int) (w : World) (h : strings_Count.f a0 a1 = some r) :
    Calls Tryd.prog 127 #[.string a0, .string a1] w fun e w' => e = .returned (.int .i64 r) ∧ Drawn0 w w' := by
  unfold strings_Count.f at h
  split at h
  · rename_i c hc
    obtain rfl : a1 = ⟨#[c]⟩ := ext_toList (by rw [hc]; exact (toList_B [c]).symm)
    injection h with h
    subst h
    refine (Tryd.strings_Count_one a0 c w).mono ?_
    rintro e w' ⟨rfl, rfl⟩
    exact ⟨by rw [ByteArray.toList_eq]; rfl, Drawn0.refl _⟩
  · cases h
def strings_explode.f (a0 : ByteArray) (a1 : Int) : Option (List ByteArray) := none
theorem strings_explode.calls (a0 : ByteArray) (a1 : Int) (r : List ByteArray) (w : World) (h : strings_explode.f a0 a1 = some r) :
    Calls Tryd.prog 126 #[.string a0, .int .i64 a1] w fun e w' => ∃ v0_ : Value, e = .returned v0_ ∧ Kd.R Kd.string 9 w' w.heap.size (fun _ => True) v0_ r ∧ Below w.heap.size w w' := by
  cases h
def joinT (l : List ByteArray) (sep : ByteArray) : List UInt8 := Lib.join (l.map ByteArray.toList) sep.toList
def strings_Join.f (l0 : List ByteArray) (a1 : ByteArray) : Option ByteArray := if (joinT l0 a1).length ≤ 140737488355328 ∧ l0.length ≤ 140737488355328 then some (B (joinT l0 a1)) else none
theorem strings_Join.calls (A0 : Option Addr) (c0 : Nat) (l0 : List ByteArray) (a1 : ByteArray) (r : ByteArray) (w : World) (hr0 : Kd.C Kd.string w A0 l0.length l0) (hc0 : l0.length ≤ c0) (h : strings_Join.f l0 a1 = some r) :
    Calls Tryd.prog 62 #[.slice A0 l0.length c0, .string a1] w fun e w' => e = .returned (.string r) ∧ Below w.heap.size w w' := by
  unfold strings_Join.f at h
  by_cases hl : (joinT l0 a1).length ≤ 140737488355328 ∧ l0.length ≤ 140737488355328
  · rw [if_pos hl] at h
    injection h with h
    subst h
    rcases Nat.eq_zero_or_pos l0.length with h0 | h0
    · obtain rfl : l0 = [] := List.eq_nil_of_length_eq_zero h0
      refine (Tryd.strings_Join_none A0 c0 a1 w).mono ?_
      rintro e w' ⟨rfl, rfl⟩
      exact ⟨rfl, Below.refl _ _⟩
    · obtain ⟨ad, e0, hx0⟩ := Kd.at_string hr0 0 (by omega) (by omega)
      subst e0
      have hsp : ad.spot = none := by
        have := World.cell?_spot hx0
        simpa [Addr.add] using this
      obtain ⟨bk, o, sp⟩ := ad
      simp only at hsp
      subst hsp
      have hcells : ∀ (j : Nat) x, l0[j]? = some x → w.cell? ⟨bk, o + j, none⟩ = some (.string x) := by
        intro j x hj
        have hlt : j < l0.length := (List.getElem?_eq_some_iff.1 hj).1
        obtain ⟨ad2, e2, hx⟩ := Kd.at_string hr0 (j : Int) (by omega) (by omega)
        injection e2 with e2
        subst e2
        rw [Int.toNat_natCast, add_at] at hx
        have : rdOf ByteArray.empty l0 (j : Int) = x := by simp [rdOf, hj]
        rw [this] at hx
        exact hx
      have hbk : bk < w.heap.size := World.block_lt_of_cell? w _ hx0
      have hmap : l0.map (fun x => x.data.toList) = l0.map ByteArray.toList := by
        congr 1
        funext x
        rw [ByteArray.toList_eq]
      have hj : Lib.join (l0.map (fun x => x.data.toList)) a1.data.toList = joinT l0 a1 := by rw [joinT, hmap, ByteArray.toList_eq]
      refine (Tryd.strings_Join bk o c0 l0 a1 w hcells hbk hl.2 hc0 (by rw [hj]; exact hl.1)).mono ?_
      rintro e w' ⟨rfl, hb⟩
      exact ⟨by rw [hj]; rfl, hb⟩
  · rw [if_neg hl] at h
    cases h
end Go.Proofs.YtloibeefopdhpaaDoor.G
