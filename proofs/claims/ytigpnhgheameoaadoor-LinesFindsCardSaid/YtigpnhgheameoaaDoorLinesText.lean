/- lines.Text: the walk, over strings.Builder. -/
import Derived.Test.YtigpnhgheameoaaDoorBuilder
import Derived.Test.YtigpnhgheameoaaDoorBytes
import Derived.Test.YtigpnhgheameoaaDoorG0
import Derived.Outline
set_option linter.unusedVariables false
namespace Go.Proofs.YtigpnhgheameoaaDoor.G
open Go.RowKit Go.Proofs.YtigpnhgheameoaaDoorW.PrintWords Go.Proofs.YtigpnhgheameoaaDoorW.PrintLast Go.Proofs.YtigpnhgheameoaaDoor.Plain

/-- Each line and a line end. -/
def textL (l : List (List UInt8)) : List UInt8 := (l.map (· ++ [10])).flatten
def lines_Text.f (l0 : List ByteArray) : Option ByteArray := if (textL (l0.map ByteArray.toList)).length ≤ 140737488355328 then some (B (textL (l0.map ByteArray.toList))) else none
theorem textL_app (a b : List (List UInt8)) : textL (a ++ b) = textL a ++ textL b := by simp [textL]
theorem cells_app (a b : List UInt8) : Lib.byteCells (a ++ b) = Lib.byteCells a ++ Lib.byteCells b := by simp [Lib.byteCells]

set_option maxHeartbeats 2000000 in
theorem lines_Text.calls (A0 : Option Addr) (c0 : Nat) (l0 : List ByteArray) (r : ByteArray) (w : World) (hr0 : Kd.C Kd.string w A0 l0.length l0) (hc0 : l0.length ≤ c0) (h : lines_Text.f l0 = some r) :
    Calls Tryd.prog 43 #[.slice A0 l0.length c0] w fun e w' => e = .returned (.string r) ∧ Below w.heap.size w w' := by
  unfold lines_Text.f at h
  by_cases hs : (textL (l0.map ByteArray.toList)).length ≤ 140737488355328
  case neg => rw [if_neg hs] at h; cases h
  rw [if_pos hs] at h
  injection h with h
  subst h
  have HR0 := Aside0.mk hr0
  have HC0 := Aside0.mk hc0
  have HS := Aside0.mk hs
  have hm := Kd.C_max hr0
  clear hr0 hc0 hs
  have HI := Aside0.mk (Lib.fresh_isBuilder 85 5 w)
  have HB : Aside0 (Below w.heap.size w (w.alloc (.cells #[.pointer none, .slice none 0 0] 85))) := ⟨(Below.refl _ w).alloc (Nat.le_refl _) _⟩
  go_enter Tryd.func43, Tryd.ntmps43
  go_wp2
  go_loopg [8] l0.length (fun gk v8 w' => ∃ i : Nat, v8 = .int .i64 i ∧ Aside0 (i + gk = l0.length) ∧ Aside0 (Below w.heap.size w w') ∧ Aside0 (Lib.IsBuilder 85 5 w.heap.size w.heap.size (Lib.byteCells (textL ((l0.take i).map ByteArray.toList))) w'))
  case atStart => exact ⟨0, rfl, ⟨by omega⟩, HB, HI⟩
  case round =>
    clear HI HB
    obtain ⟨i, rfl, HN, HB, HI⟩ := hrel
    by_cases hi : i < l0.length
    · obtain ⟨ad, e0, hx⟩ := Kd.at_string HR0.out (i : Int) (by omega) (by omega)
      cases e0
      replace hx := (HB.out.cell (World.block_lt_of_cell? w _ hx)).trans hx
      have e1 : rdOf ByteArray.empty l0 (i : Int) = l0[i] := by simp [rdOf, hi]
      rw [e1, Int.toNat_natCast] at hx
      have et : textL ((l0.take (i + 1)).map ByteArray.toList) = textL ((l0.take i).map ByteArray.toList) ++ l0[i].toList ++ [10] := by
        rw [List.take_add_one, List.getElem?_eq_getElem hi, List.map_append, textL_app, List.append_assoc]
        congr 1
        simp [textL]
      have hle : (textL ((l0.take (i + 1)).map ByteArray.toList)).length ≤ (textL (l0.map ByteArray.toList)).length := by
        conv => rhs; rw [← List.take_append_drop (i + 1) l0]
        rw [List.map_append, textL_app, List.length_append]
        omega
      rw [et, List.length_append, List.length_append, toList_length] at hle
      simp only [List.length_cons, List.length_nil] at hle
      have hs := HS.out
      have HE := Aside0.mk et
      generalize l0[i] = x at *
      generalize hA : textL ((l0.take i).map ByteArray.toList) = acc at *
      clear et e1 hA
      have hi' : (i : Int) < (l0.length : Int) := by omega
      have hbl : (Lib.byteCells acc).length = acc.length := Lib.byteCells_length _
      have HS1 := Aside0.mk (fun (W : World) (hI : Lib.IsBuilder 85 5 w.heap.size w.heap.size (Lib.byteCells acc) W) (hBw : w.heap.size ≤ W.heap.size) => bWriteString w.heap.size w.heap.size (Lib.byteCells acc) x W hI (by omega) hBw)
      have hsc : Lib.byteCells acc ++ Lib.strCells x = Lib.byteCells (acc ++ x.toList) := by rw [cells_app]; congr 1; simp [Lib.byteCells, Lib.strCells, ByteArray.toList_eq]
      have hbl2 : (Lib.byteCells (acc ++ x.toList)).length = acc.length + x.size := by rw [Lib.byteCells_length, List.length_append, toList_length]
      have HS2 := Aside0.mk (fun (W : World) (hI : Lib.IsBuilder 85 5 w.heap.size w.heap.size (Lib.byteCells (acc ++ x.toList)) W) (hBw : w.heap.size ≤ W.heap.size) => bWriteByte w.heap.size w.heap.size (Lib.byteCells (acc ++ x.toList)) 10 W hI (by omega) hBw)
      rw [hsc] at HS1
      have hfin : Lib.byteCells (acc ++ x.toList) ++ [.int .u8 10] = Lib.byteCells (acc ++ x.toList ++ [10]) := by rw [cells_app (acc ++ x.toList)]; rfl
      rw [hfin, ← HE.out] at HS2
      clear hsc hbl hbl2 hfin hle hs
      go_wp2_with (first | (go_at_call 77; refine (HS1.out _ HI.out HB.out.size).mono ?_; rintro e w2 ⟨rfl, hI2, hb⟩; have HI2 := Aside0.mk (Or.inr hI2 : Lib.IsBuilder _ _ _ _ _ _); have HB2 := Aside0.mk (HB.out.trans hb); clear hI2 hb) | (go_at_call 78; refine (HS2.out _ HI2.out HB2.out.size).mono ?_; rintro e w3 ⟨rfl, hI3, hb⟩; have HI3 := Aside0.mk (Or.inr hI3 : Lib.IsBuilder _ _ _ _ _ _); have HB3 := Aside0.mk (HB2.out.trans hb); clear hI3 hb))
      go_roundg (gk - 1)
      case measure => have := HN.out; omega
      case rel => exact ⟨i + 1, by go_num, ⟨by have := HN.out; omega⟩, HB3, HI3⟩
    · have hi' : ¬ (i : Int) < (l0.length : Int) := by omega
      have hi2 : decide ((i : Int) < (l0.length : Int)) = false := decide_eq_false hi'
      have H := HI.out
      rw [List.take_of_length_le (by omega)] at H
      have HT := Aside0.mk (fun (W : World) (hI : Lib.IsBuilder 85 5 w.heap.size w.heap.size (Lib.byteCells (textL (l0.map ByteArray.toList))) W) (hBw : w.heap.size ≤ W.heap.size) => Tryd.Builder_String_any w.heap.size w.heap.size _ W hI hBw)
      have HI2 := Aside0.mk H
      clear H HI
      go_wp2_with (first | (go_at_call 79; refine (HT.out _ HI2.out HB.out.size).mono ?_; rintro e w2 ⟨rfl, hb⟩; have HB2 := Aside0.mk (HB.out.trans hb); clear hb))
      go_ret
      exact ⟨rfl, HB2.out⟩

end Go.Proofs.YtigpnhgheameoaaDoor.G
