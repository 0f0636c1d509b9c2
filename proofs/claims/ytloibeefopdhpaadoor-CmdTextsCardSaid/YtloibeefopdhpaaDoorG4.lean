-- Printed by a program of this session (wip/tools/own_print.sh), on the model of the kit's print; Lean checks it.
import Derived.Test.YtloibeefopdhpaaDoorCells
import Derived.Test.YtloibeefopdhpaaDoorG0
namespace Go.Proofs.YtloibeefopdhpaaDoor.G
open Go.RowKit Go.Proofs.YtloibeefopdhpaaDoorW.PrintWords Go.Proofs.YtloibeefopdhpaaDoorW.PrintLast Go.Proofs.YtloibeefopdhpaaDoorW.PrintMore
attribute [local go_sem] max2_int min2_int max_two min_two max_three min_three max_four min_four   -- for this text's walks alone
set_option linter.unusedVariables false
set_option linter.unusedSimpArgs false

/-! ### cmd_texts: function 61 -/
mutual
def cmd_texts.j0 : Nat → ByteArray → Bool → Int → ByteArray → ByteArray → Int → ByteArray → List ByteArray → Int → ByteArray → ByteArray → List ByteArray → Int → ByteArray → ByteArray → List ByteArray → Option (List ByteArray)
  | 0, _, _, _, _, _, _, _, _, _, _, _, _, _, _, _, _ => none
  | k + 1, x9, x12, x132000, x132001, x132002, x132003, x132004, x132005, x132006, x132007, x132008, x132009, x133000, x133001, x133002, x133003 => if x12 = true then (some (([x132001, x133001] : List ByteArray))) else (if x9.toList = ([119, 114, 105, 116, 101] : List UInt8) then ((some (([x132001, x133001] : List ByteArray) : List ByteArray)).bind fun y136 => (if y136.length + x133003.length < 8796093022208 then (some (y136 ++ x133003)) else (none))) else (if x9.toList = ([109, 111, 118, 101] : List UInt8) then (some (([x132001, x133001, x133002] : List ByteArray))) else (if x9.toList = ([114, 101, 99, 111, 114, 100] : List UInt8) then (cmd_texts.j1 k x9 (x9.toList == ([114, 101, 99, 111, 114, 100] : List UInt8)) x132000 x132001 x132002 x132003 x132004 x132005 x132006 x132007 x132008 x132009) else (cmd_texts.j1 k x9 (x9.toList == ([117, 110, 114, 101, 99, 111, 114, 100] : List UInt8)) x132000 x132001 x132002 x132003 x132004 x132005 x132006 x132007 x132008 x132009))))
def cmd_texts.j1 : Nat → ByteArray → Bool → Int → ByteArray → ByteArray → Int → ByteArray → List ByteArray → Int → ByteArray → ByteArray → List ByteArray → Option (List ByteArray)
  | 0, _, _, _, _, _, _, _, _, _, _, _, _ => none
  | k + 1, x9, x39, x132000, x132001, x132002, x132003, x132004, x132005, x132006, x132007, x132008, x132009 => if x39 = true then (some (([x132001, x132004] : List ByteArray))) else (if x9.toList = ([112, 117, 108, 108] : List UInt8) then ((some (([x132001, x132002] : List ByteArray) : List ByteArray)).bind fun y148 => (if y148.length + x132005.length < 8796093022208 then (some (y148 ++ x132005)) else (none))) else (if x9.toList = ([117, 110, 112, 117, 108, 108] : List UInt8) then ((some (([x132001] : List ByteArray) : List ByteArray)).bind fun y154 => (if y154.length + x132005.length < 8796093022208 then (some (y154 ++ x132005)) else (none))) else (some (([x132001] : List ByteArray)))))
end
def cmd_texts.f (k : Nat) (a0_0 : Int) (a0_1 : ByteArray) (a0_2 : ByteArray) (a0_3 : Int) (a0_4 : ByteArray) (l0_5 : List ByteArray) (a0_6 : Int) (a0_7 : ByteArray) (a0_8 : ByteArray) (l0_9 : List ByteArray) (a1 : ByteArray) : Option (List ByteArray) := if a1.toList = ([112, 111, 119, 101, 114] : List UInt8) then (some ([] : List ByteArray)) else (if a1.toList = ([109, 107, 100, 105, 114] : List UInt8) then (cmd_texts.j0 k a1 (a1.toList == ([109, 107, 100, 105, 114] : List UInt8)) a0_0 a0_1 a0_2 a0_3 a0_4 l0_5 a0_6 a0_7 a0_8 l0_9 a0_6 a0_7 a0_8 l0_9) else (cmd_texts.j0 k a1 (a1.toList == ([114, 101, 109, 111, 118, 101] : List UInt8)) a0_0 a0_1 a0_2 a0_3 a0_4 l0_5 a0_6 a0_7 a0_8 l0_9 a0_6 a0_7 a0_8 l0_9))
theorem cmd_texts.mono_l : ∀ k, (∀ y0 y1 y2 y3 y4 y5 y6 y7 y8 y9 y10 y11 y12 y13 y14 y15, LeO (cmd_texts.j0 k y0 y1 y2 y3 y4 y5 y6 y7 y8 y9 y10 y11 y12 y13 y14 y15) (cmd_texts.j0 (k + 1) y0 y1 y2 y3 y4 y5 y6 y7 y8 y9 y10 y11 y12 y13 y14 y15)) ∧ (∀ y0 y1 y2 y3 y4 y5 y6 y7 y8 y9 y10 y11, LeO (cmd_texts.j1 k y0 y1 y2 y3 y4 y5 y6 y7 y8 y9 y10 y11) (cmd_texts.j1 (k + 1) y0 y1 y2 y3 y4 y5 y6 y7 y8 y9 y10 y11))
  | 0 => ⟨fun _ _ _ _ _ _ _ _ _ _ _ _ _ _ _ _ r h => by simp [cmd_texts.j0] at h, fun _ _ _ _ _ _ _ _ _ _ _ _ r h => by simp [cmd_texts.j1] at h⟩
  | k + 1 => by
    obtain ⟨ih0, ih1⟩ := cmd_texts.mono_l k
    refine ⟨?_, ?_⟩
    · intro y0 y1 y2 y3 y4 y5 y6 y7 y8 y9 y10 y11 y12 y13 y14 y15
      unfold cmd_texts.j0
      repeat' first
      | (with_reducible exact ih0 _ _ _ _ _ _ _ _ _ _ _ _ _ _ _ _)
      | (with_reducible exact ih1 _ _ _ _ _ _ _ _ _ _ _ _)
      | (with_reducible exact LeO.refl _)
      | (with_reducible exact LeO.none _)
      | (with_reducible refine LeO.ite ?_ ?_)
      | (with_reducible refine LeO.bind ?_ (fun _ => ?_))
      | exact ih0 _ _ _ _ _ _ _ _ _ _ _ _ _ _ _ _
      | exact ih1 _ _ _ _ _ _ _ _ _ _ _ _
      | exact LeO.none _
      | refine LeO.ite ?_ ?_
      | refine LeO.bind ?_ (fun _ => ?_)
    · intro y0 y1 y2 y3 y4 y5 y6 y7 y8 y9 y10 y11
      unfold cmd_texts.j1
      repeat' first
      | (with_reducible exact ih0 _ _ _ _ _ _ _ _ _ _ _ _ _ _ _ _)
      | (with_reducible exact ih1 _ _ _ _ _ _ _ _ _ _ _ _)
      | (with_reducible exact LeO.refl _)
      | (with_reducible exact LeO.none _)
      | (with_reducible refine LeO.ite ?_ ?_)
      | (with_reducible refine LeO.bind ?_ (fun _ => ?_))
      | exact ih0 _ _ _ _ _ _ _ _ _ _ _ _ _ _ _ _
      | exact ih1 _ _ _ _ _ _ _ _ _ _ _ _
      | exact LeO.none _
      | refine LeO.ite ?_ ?_
      | refine LeO.bind ?_ (fun _ => ?_)
theorem cmd_texts.mono : ∀ a0 a1 a2 a3 a4 a5 a6 a7 a8 a9 a10 k, LeO (cmd_texts.f k a0 a1 a2 a3 a4 a5 a6 a7 a8 a9 a10) (cmd_texts.f (k + 1) a0 a1 a2 a3 a4 a5 a6 a7 a8 a9 a10) := by
  intro a0 a1 a2 a3 a4 a5 a6 a7 a8 a9 a10 k
  obtain ⟨ih0, ih1⟩ := cmd_texts.mono_l k
  unfold cmd_texts.f
  repeat' first
      | (with_reducible exact ih0 _ _ _ _ _ _ _ _ _ _ _ _ _ _ _ _)
      | (with_reducible exact ih1 _ _ _ _ _ _ _ _ _ _ _ _)
      | (with_reducible exact LeO.refl _)
      | (with_reducible exact LeO.none _)
      | (with_reducible refine LeO.ite ?_ ?_)
      | (with_reducible refine LeO.bind ?_ (fun _ => ?_))
      | exact ih0 _ _ _ _ _ _ _ _ _ _ _ _ _ _ _ _
      | exact ih1 _ _ _ _ _ _ _ _ _ _ _ _
      | exact LeO.none _
      | refine LeO.ite ?_ ?_
      | refine LeO.bind ?_ (fun _ => ?_)
set_option maxHeartbeats 8000000 in
set_option maxRecDepth 100000 in
theorem cmd_texts.calls (k : Nat) (a0_0 : Int) (a0_1 : ByteArray) (a0_2 : ByteArray) (a0_3 : Int) (a0_4 : ByteArray) (A0_5 : Option Addr) (c0_5 : Nat) (l0_5 : List ByteArray) (a0_6 : Int) (a0_7 : ByteArray) (a0_8 : ByteArray) (A0_9 : Option Addr) (c0_9 : Nat) (l0_9 : List ByteArray) (a1 : ByteArray) (r : List ByteArray) (w : World) (hr0_5 : Kd.C Kd.string w A0_5 l0_5.length l0_5) (hc0_5 : l0_5.length ≤ c0_5) (hr0_9 : Kd.C Kd.string w A0_9 l0_9.length l0_9) (hc0_9 : l0_9.length ≤ c0_9) (h : cmd_texts.f k a0_0 a0_1 a0_2 a0_3 a0_4 l0_5 a0_6 a0_7 a0_8 l0_9 a1 = some r) :
    Calls Tryd.prog 61 #[.agg #[.int .i64 a0_0, .string a0_1, .string a0_2, .int .i64 a0_3, .string a0_4, .slice A0_5 l0_5.length c0_5, .int .i64 a0_6, .string a0_7, .string a0_8, .slice A0_9 l0_9.length c0_9], .string a1] w fun e w' => ∃ v0_ : Value, e = .returned (v0_) ∧ Kd.R Kd.string 9 w' w.heap.size (fun _ => True) v0_ r ∧ Below w.heap.size w w' := by
  have hu34 := Tryd.underlying34
  have hu30 := Tryd.underlying30
  have HR0_5 := Aside0.mk hr0_5
  have HC0_5 := Aside0.mk hc0_5
  clear hr0_5 hc0_5
  have HR0_9 := Aside0.mk hr0_9
  have HC0_9 := Aside0.mk hc0_9
  clear hr0_9 hc0_9
  have HB := Aside0.mk (Below.refl w.heap.size w)
  have H : (if a1.toList = ([112, 111, 119, 101, 114] : List UInt8) then (some ([] : List ByteArray)) else (if a1.toList = ([109, 107, 100, 105, 114] : List UInt8) then (cmd_texts.j0 k a1 (a1.toList == ([109, 107, 100, 105, 114] : List UInt8)) a0_0 a0_1 a0_2 a0_3 a0_4 l0_5 a0_6 a0_7 a0_8 l0_9 a0_6 a0_7 a0_8 l0_9) else (cmd_texts.j0 k a1 (a1.toList == ([114, 101, 109, 111, 118, 101] : List UInt8)) a0_0 a0_1 a0_2 a0_3 a0_4 l0_5 a0_6 a0_7 a0_8 l0_9 a0_6 a0_7 a0_8 l0_9))) = some r := h
  clear h
  by_cases c3 : a1.toList = ([112, 111, 119, 101, 114] : List UInt8)
  · rw [if_pos c3] at H
    have c3b0 : (a1.toList == ([112, 111, 119, 101, 114] : List UInt8)) = true := beq_iff_eq.mpr c3
    have c3b1 : (a1.toList != ([112, 111, 119, 101, 114] : List UInt8)) = false := bne_eq_false_iff_eq.mpr c3
    clear c3
    obtain rfl := Option.some.inj H
    go_enter Tryd.func61, Tryd.ntmps61
    go_wp2_with (first | ((with_reducible refine gate_dst (N := 2) rfl ?_); refine box_event ?hg (N := 2) ?hd (cs := #[.int .i64 a0_0, .string a0_1, .string a0_2, .int .i64 a0_3, .string a0_4, .slice A0_5 l0_5.length c0_5, .int .i64 a0_6, .string a0_7, .string a0_8, .slice A0_9 l0_9.length c0_9]) (t := 34) ?hr ?_; (case hd => rfl); (case hg => rfl); (case hr => first | (go_simp; done) | (go_simp; rfl)); intro gb131 hg w4 hbox hb; have n0_ := Aside0.mk (below_step (by repeat (first | (with_reducible first | exact HB.out | apply below_alloc | apply pw_below_drewN | apply below_drew1) | exact HB.out)) hb); have n1_ := Aside0.mk (hbox); have n2_ := Aside0.mk ((by rw [hg]; exact (below_size (by repeat (first | (with_reducible first | exact HB.out | apply below_alloc | apply pw_below_drewN | apply below_drew1) | exact HB.out))) : w.heap.size ≤ gb131)); have n3_ := n2_; clear HB; have HB := n0_; have BK131 := n1_; have GW131 := n2_; have GE131 := n3_; clear n0_ n1_ n2_ n3_; clear hb hbox hg; obtain ⟨hcz5_0, hcz5_1, hcz5_2, hcz5_3, hcz5_4, hcz5_5, hcz5_6, hcz5_7, hcz5_8, hcz5_9, hfz5_0, hfz5_1, hfz5_2, hfz5_3, hfz5_4, hfz5_5, hfz5_6, hfz5_7, hfz5_8, hfz5_9⟩ := cells10 BK131.out) | ((with_reducible refine gate_dst (N := 5) rfl ?_); refine box_event ?hg (N := 5) ?hd (cs := #[.int .i64 0, .string (⟨#[]⟩ : ByteArray), .string (⟨#[]⟩ : ByteArray), .slice none 0 0]) (t := 30) ?hr ?_; (case hd => rfl); (case hg => rfl); (case hr => first | (go_simp; done) | (go_simp; rfl)); intro gb132 hg w6 hbox hb; have n0_ := Aside0.mk (blk_below (g := gb131) (o := .cells #[.int .i64 a0_0, .string a0_1, .string a0_2, .int .i64 a0_3, .string a0_4, .slice A0_5 l0_5.length c0_5, .int .i64 a0_6, .string a0_7, .string a0_8, .slice A0_9 l0_9.length c0_9] 34 (0, 0)) (by (with_reducible repeat (first | refine blk_drewN ?_ _ | refine blk_drew ?_ | refine blk_alloc ?_ _)); exact BK131.out) hb); have n1_ := Aside0.mk (below_step (by repeat (first | (with_reducible first | exact HB.out | apply below_alloc | apply pw_below_drewN | apply below_drew1 | refine below_set ?_ GE131.out) | exact HB.out)) hb); have n2_ := Aside0.mk (hbox); have n3_ := Aside0.mk ((by rw [hg]; exact (below_size (by repeat (first | (with_reducible first | exact HB.out | apply below_alloc | apply pw_below_drewN | apply below_drew1 | refine below_set ?_ GE131.out) | exact HB.out))) : w.heap.size ≤ gb132)); have n4_ := Aside0.mk ((by rw [hg]; exact (below_size (by repeat (first | (with_reducible first | exact HB.out | apply below_alloc | apply pw_below_drewN | apply below_drew1 | refine below_set ?_ GE131.out) | exact HB.out))) : w.heap.size ≤ gb132)); have n5_ := Aside0.mk ((by rw [hg]; exact Nat.ne_of_lt (blk_lt (g := gb131) (o := .cells #[.int .i64 a0_0, .string a0_1, .string a0_2, .int .i64 a0_3, .string a0_4, .slice A0_5 l0_5.length c0_5, .int .i64 a0_6, .string a0_7, .string a0_8, .slice A0_9 l0_9.length c0_9] 34 (0, 0)) (by (with_reducible repeat (first | refine blk_drewN ?_ _ | refine blk_drew ?_ | refine blk_alloc ?_ _)); exact BK131.out)) : gb131 ≠ gb132)); have n6_ := Aside0.mk ((by rw [hg]; exact Nat.ne_of_gt (blk_lt (g := gb131) (o := .cells #[.int .i64 a0_0, .string a0_1, .string a0_2, .int .i64 a0_3, .string a0_4, .slice A0_5 l0_5.length c0_5, .int .i64 a0_6, .string a0_7, .string a0_8, .slice A0_9 l0_9.length c0_9] 34 (0, 0)) (by (with_reducible repeat (first | refine blk_drewN ?_ _ | refine blk_drew ?_ | refine blk_alloc ?_ _)); exact BK131.out)) : gb132 ≠ gb131)); clear BK131; clear HB; have BK131 := n0_; have HB := n1_; have BK132 := n2_; have GW132 := n3_; have GE132 := n4_; have NB131_132 := n5_; have NB132_131 := n6_; clear n0_ n1_ n2_ n3_ n4_ n5_ n6_; clear hb hbox hg; have hnb7 := NB132_131.out; have hnc7 := NB131_132.out; obtain ⟨hcz8_0, hcz8_1, hcz8_2, hcz8_3, hfz8_0, hfz8_1, hfz8_2, hfz8_3⟩ := cells4 BK132.out))
    go_ret
    exact ⟨_, by first | rfl | (simp [errW_none, errW_some] <;> rfl) | (simp [*, errW_none, errW_some] <;> rfl), by first | exact Kd.R_nil _ _ _ _ _ | exact Kd.N_nil _ _ _ _ _ | exact Kd.V_nil _ _ _ _ _ | exact Kd.Q_nil _ _ _ _ _ | exact Kd.S_nil _ _ _ _ _, by repeat (first | (with_reducible first | exact HB.out | apply below_alloc | apply pw_below_drewN | apply below_drew1 | refine below_set ?_ GE131.out | refine below_set ?_ GE132.out) | exact HB.out)⟩
  · rw [if_neg c3] at H
    have c3b0 : (a1.toList == ([112, 111, 119, 101, 114] : List UInt8)) = false := beq_eq_false_iff_ne.mpr c3
    have c3b1 : (a1.toList != ([112, 111, 119, 101, 114] : List UInt8)) = true := bne_iff_ne.mpr c3
    have HC9 := Aside0.mk H
    clear H
    go_enter Tryd.func61, Tryd.ntmps61
    go_upto_if 12 with (first | ((with_reducible refine gate_dst (N := 2) rfl ?_); refine box_event ?hg (N := 2) ?hd (cs := #[.int .i64 a0_0, .string a0_1, .string a0_2, .int .i64 a0_3, .string a0_4, .slice A0_5 l0_5.length c0_5, .int .i64 a0_6, .string a0_7, .string a0_8, .slice A0_9 l0_9.length c0_9]) (t := 34) ?hr ?_; (case hd => rfl); (case hg => rfl); (case hr => first | (go_simp; done) | (go_simp; rfl)); intro gb131 hg w10 hbox hb; have n0_ := Aside0.mk (below_step (by repeat (first | (with_reducible first | exact HB.out | apply below_alloc | apply pw_below_drewN | apply below_drew1) | exact HB.out)) hb); have n1_ := Aside0.mk (hbox); have n2_ := Aside0.mk ((by rw [hg]; exact (below_size (by repeat (first | (with_reducible first | exact HB.out | apply below_alloc | apply pw_below_drewN | apply below_drew1) | exact HB.out))) : w.heap.size ≤ gb131)); have n3_ := n2_; clear HB; have HB := n0_; have BK131 := n1_; have GW131 := n2_; have GE131 := n3_; clear n0_ n1_ n2_ n3_; clear hb hbox hg; obtain ⟨hcz11_0, hcz11_1, hcz11_2, hcz11_3, hcz11_4, hcz11_5, hcz11_6, hcz11_7, hcz11_8, hcz11_9, hfz11_0, hfz11_1, hfz11_2, hfz11_3, hfz11_4, hfz11_5, hfz11_6, hfz11_7, hfz11_8, hfz11_9⟩ := cells10 BK131.out) | ((with_reducible refine gate_dst (N := 5) rfl ?_); refine box_event ?hg (N := 5) ?hd (cs := #[.int .i64 0, .string (⟨#[]⟩ : ByteArray), .string (⟨#[]⟩ : ByteArray), .slice none 0 0]) (t := 30) ?hr ?_; (case hd => rfl); (case hg => rfl); (case hr => first | (go_simp; done) | (go_simp; rfl)); intro gb132 hg w12 hbox hb; have n0_ := Aside0.mk (blk_below (g := gb131) (o := .cells #[.int .i64 a0_0, .string a0_1, .string a0_2, .int .i64 a0_3, .string a0_4, .slice A0_5 l0_5.length c0_5, .int .i64 a0_6, .string a0_7, .string a0_8, .slice A0_9 l0_9.length c0_9] 34 (0, 0)) (by (with_reducible repeat (first | refine blk_drewN ?_ _ | refine blk_drew ?_ | refine blk_alloc ?_ _)); exact BK131.out) hb); have n1_ := Aside0.mk (below_step (by repeat (first | (with_reducible first | exact HB.out | apply below_alloc | apply pw_below_drewN | apply below_drew1 | refine below_set ?_ GE131.out) | exact HB.out)) hb); have n2_ := Aside0.mk (hbox); have n3_ := Aside0.mk ((by rw [hg]; exact (below_size (by repeat (first | (with_reducible first | exact HB.out | apply below_alloc | apply pw_below_drewN | apply below_drew1 | refine below_set ?_ GE131.out) | exact HB.out))) : w.heap.size ≤ gb132)); have n4_ := Aside0.mk ((by rw [hg]; exact (below_size (by repeat (first | (with_reducible first | exact HB.out | apply below_alloc | apply pw_below_drewN | apply below_drew1 | refine below_set ?_ GE131.out) | exact HB.out))) : w.heap.size ≤ gb132)); have n5_ := Aside0.mk ((by rw [hg]; exact Nat.ne_of_lt (blk_lt (g := gb131) (o := .cells #[.int .i64 a0_0, .string a0_1, .string a0_2, .int .i64 a0_3, .string a0_4, .slice A0_5 l0_5.length c0_5, .int .i64 a0_6, .string a0_7, .string a0_8, .slice A0_9 l0_9.length c0_9] 34 (0, 0)) (by (with_reducible repeat (first | refine blk_drewN ?_ _ | refine blk_drew ?_ | refine blk_alloc ?_ _)); exact BK131.out)) : gb131 ≠ gb132)); have n6_ := Aside0.mk ((by rw [hg]; exact Nat.ne_of_gt (blk_lt (g := gb131) (o := .cells #[.int .i64 a0_0, .string a0_1, .string a0_2, .int .i64 a0_3, .string a0_4, .slice A0_5 l0_5.length c0_5, .int .i64 a0_6, .string a0_7, .string a0_8, .slice A0_9 l0_9.length c0_9] 34 (0, 0)) (by (with_reducible repeat (first | refine blk_drewN ?_ _ | refine blk_drew ?_ | refine blk_alloc ?_ _)); exact BK131.out)) : gb132 ≠ gb131)); clear BK131; clear HB; have BK131 := n0_; have HB := n1_; have BK132 := n2_; have GW132 := n3_; have GE132 := n4_; have NB131_132 := n5_; have NB132_131 := n6_; clear n0_ n1_ n2_ n3_ n4_ n5_ n6_; clear hb hbox hg; have hnb13 := NB132_131.out; have hnc13 := NB131_132.out; obtain ⟨hcz14_0, hcz14_1, hcz14_2, hcz14_3, hfz14_0, hfz14_1, hfz14_2, hfz14_3⟩ := cells4 BK132.out))
    (try simp only [Act.put, List.setIfInBounds_toArray, List.set_cons_zero, List.set_cons_succ])
    go_cut [12] (fun v12 wc => ∃ (kq : Nat) (x12_8 : Bool), v12 = .bool x12_8 ∧ Aside0 (cmd_texts.j0 kq a1 x12_8 a0_0 a0_1 a0_2 a0_3 a0_4 l0_5 a0_6 a0_7 a0_8 l0_9 a0_6 a0_7 a0_8 l0_9 = some r) ∧ Aside0 (kq ≤ k) ∧ Aside0 (wc.heap[gb131]? = some (.cells #[.int .i64 a0_0, .string a0_1, .string a0_2, .int .i64 a0_3, .string a0_4, (.slice A0_5 l0_5.length c0_5), .int .i64 a0_6, .string a0_7, .string a0_8, (.slice A0_9 l0_9.length c0_9)] 34 (0, 0))) ∧ Aside0 (wc.heap[gb132]? = some (.cells #[.int .i64 a0_6, .string a0_7, .string a0_8, (.slice A0_9 l0_9.length c0_9)] 30 (0, 0))) ∧ Aside0 (Below w.heap.size w wc))
    case first =>
      have H := HC9.out
      clear HC9
      by_cases c15 : a1.toList = ([109, 107, 100, 105, 114] : List UInt8)
      · rw [if_pos c15] at H
        have c15b0 : (a1.toList == ([109, 107, 100, 105, 114] : List UInt8)) = true := beq_iff_eq.mpr c15
        have c15b1 : (a1.toList != ([109, 107, 100, 105, 114] : List UInt8)) = false := bne_eq_false_iff_eq.mpr c15
        clear c15
        (first | rw [c15b0] | (simp only [i64_w, i32_w]; rw [c15b0]) | rw [c15b1] | rw [c15b2] | skip)
        have H' := Aside0.mk H
        clear H
        go_wp2
        go_meet
        case rel => exact ⟨_, ((a1.toList == ([109, 107, 100, 105, 114] : List UInt8))), (by first | rfl | (simp; done) | (simp [*]; done)), H', ⟨by first | omega | exact Nat.le_refl _⟩, ⟨by (with_reducible repeat (first | refine blk_drewN ?_ _ | refine blk_drew ?_ | refine blk_alloc ?_ _)); refine blk_far ?_ NB131_132.out _; (with_reducible repeat (first | refine blk_drewN ?_ _ | refine blk_drew ?_ | refine blk_alloc ?_ _)); refine blk_far ?_ NB131_132.out _; (with_reducible repeat (first | refine blk_drewN ?_ _ | refine blk_drew ?_ | refine blk_alloc ?_ _)); refine blk_far ?_ NB131_132.out _; (with_reducible repeat (first | refine blk_drewN ?_ _ | refine blk_drew ?_ | refine blk_alloc ?_ _)); refine blk_far ?_ NB131_132.out _; (with_reducible repeat (first | refine blk_drewN ?_ _ | refine blk_drew ?_ | refine blk_alloc ?_ _)); exact BK131.out⟩, ⟨by (with_reducible repeat (first | refine blk_drewN ?_ _ | refine blk_drew ?_ | refine blk_alloc ?_ _)); refine blk_put (cs := #[.int .i64 a0_6, .string a0_7, .string a0_8, .slice none 0 0]) ?_ 3 _ rfl; (with_reducible repeat (first | refine blk_drewN ?_ _ | refine blk_drew ?_ | refine blk_alloc ?_ _)); refine blk_put (cs := #[.int .i64 a0_6, .string a0_7, .string (⟨#[]⟩ : ByteArray), .slice none 0 0]) ?_ 2 _ rfl; (with_reducible repeat (first | refine blk_drewN ?_ _ | refine blk_drew ?_ | refine blk_alloc ?_ _)); refine blk_put (cs := #[.int .i64 a0_6, .string (⟨#[]⟩ : ByteArray), .string (⟨#[]⟩ : ByteArray), .slice none 0 0]) ?_ 1 _ rfl; (with_reducible repeat (first | refine blk_drewN ?_ _ | refine blk_drew ?_ | refine blk_alloc ?_ _)); refine blk_put (cs := #[.int .i64 0, .string (⟨#[]⟩ : ByteArray), .string (⟨#[]⟩ : ByteArray), .slice none 0 0]) ?_ 0 _ rfl; (with_reducible repeat (first | refine blk_drewN ?_ _ | refine blk_drew ?_ | refine blk_alloc ?_ _)); exact BK132.out⟩, ⟨by repeat (first | (with_reducible first | exact HB.out | apply below_alloc | apply pw_below_drewN | apply below_drew1 | refine below_set ?_ GE131.out | refine below_set ?_ GE132.out) | exact HB.out)⟩⟩
      · rw [if_neg c15] at H
        have c15b0 : (a1.toList == ([109, 107, 100, 105, 114] : List UInt8)) = false := beq_eq_false_iff_ne.mpr c15
        have c15b1 : (a1.toList != ([109, 107, 100, 105, 114] : List UInt8)) = true := bne_iff_ne.mpr c15
        (first | rw [c15b0] | (simp only [i64_w, i32_w]; rw [c15b0]) | rw [c15b1] | rw [c15b2] | skip)
        have H' := Aside0.mk H
        clear H
        go_wp2
        go_meet
        case rel => exact ⟨_, ((a1.toList == ([114, 101, 109, 111, 118, 101] : List UInt8))), (by first | rfl | (simp; done) | (simp [*]; done)), H', ⟨by first | omega | exact Nat.le_refl _⟩, ⟨by (with_reducible repeat (first | refine blk_drewN ?_ _ | refine blk_drew ?_ | refine blk_alloc ?_ _)); refine blk_far ?_ NB131_132.out _; (with_reducible repeat (first | refine blk_drewN ?_ _ | refine blk_drew ?_ | refine blk_alloc ?_ _)); refine blk_far ?_ NB131_132.out _; (with_reducible repeat (first | refine blk_drewN ?_ _ | refine blk_drew ?_ | refine blk_alloc ?_ _)); refine blk_far ?_ NB131_132.out _; (with_reducible repeat (first | refine blk_drewN ?_ _ | refine blk_drew ?_ | refine blk_alloc ?_ _)); refine blk_far ?_ NB131_132.out _; (with_reducible repeat (first | refine blk_drewN ?_ _ | refine blk_drew ?_ | refine blk_alloc ?_ _)); exact BK131.out⟩, ⟨by (with_reducible repeat (first | refine blk_drewN ?_ _ | refine blk_drew ?_ | refine blk_alloc ?_ _)); refine blk_put (cs := #[.int .i64 a0_6, .string a0_7, .string a0_8, .slice none 0 0]) ?_ 3 _ rfl; (with_reducible repeat (first | refine blk_drewN ?_ _ | refine blk_drew ?_ | refine blk_alloc ?_ _)); refine blk_put (cs := #[.int .i64 a0_6, .string a0_7, .string (⟨#[]⟩ : ByteArray), .slice none 0 0]) ?_ 2 _ rfl; (with_reducible repeat (first | refine blk_drewN ?_ _ | refine blk_drew ?_ | refine blk_alloc ?_ _)); refine blk_put (cs := #[.int .i64 a0_6, .string (⟨#[]⟩ : ByteArray), .string (⟨#[]⟩ : ByteArray), .slice none 0 0]) ?_ 1 _ rfl; (with_reducible repeat (first | refine blk_drewN ?_ _ | refine blk_drew ?_ | refine blk_alloc ?_ _)); refine blk_put (cs := #[.int .i64 0, .string (⟨#[]⟩ : ByteArray), .string (⟨#[]⟩ : ByteArray), .slice none 0 0]) ?_ 0 _ rfl; (with_reducible repeat (first | refine blk_drewN ?_ _ | refine blk_drew ?_ | refine blk_alloc ?_ _)); exact BK132.out⟩, ⟨by repeat (first | (with_reducible first | exact HB.out | apply below_alloc | apply pw_below_drewN | apply below_drew1 | refine below_set ?_ GE131.out | refine below_set ?_ GE132.out) | exact HB.out)⟩⟩
    case rest =>
      clear HC9
      try clear c3
      try clear c3b0
      try clear c3b1
      try clear hcz11_0
      try clear hcz11_1
      try clear hcz11_2
      try clear hcz11_3
      try clear hcz11_4
      try clear hcz11_5
      try clear hcz11_6
      try clear hcz11_7
      try clear hcz11_8
      try clear hcz11_9
      try clear hcz14_0
      try clear hcz14_1
      try clear hcz14_2
      try clear hcz14_3
      try clear hfz11_0
      try clear hfz11_1
      try clear hfz11_2
      try clear hfz11_3
      try clear hfz11_4
      try clear hfz11_5
      try clear hfz11_6
      try clear hfz11_7
      try clear hfz11_8
      try clear hfz11_9
      try clear hfz14_0
      try clear hfz14_1
      try clear hfz14_2
      try clear hfz14_3
      obtain ⟨kq, x12_8, rfl, HA, HJ8, BK131, BK132, HB⟩ := hcut
      cases kq with
      | zero => exact absurd HA.out (by simp [cmd_texts.j0])
      | succ kj8 =>
        have H := HA.out
        clear HA
        simp only [cmd_texts.j0] at H
        by_cases c16 : x12_8 = true
        · subst c16
          have H1 : (some (([a0_1, a0_7] : List ByteArray))) = some r := by rw [if_pos rfl] at H; exact H
          clear H
          have H := H1
          clear H1
          obtain ⟨y133, hy133⟩ : ∃ y_ : List ByteArray, y_ = (([a0_1, a0_7] : List ByteArray)) := ⟨_, rfl⟩
          replace H : (some y133) = some r := by first | (rw [hy133]; with_reducible exact H) | (have H2_ := (Option.bind_some _ _).symm.trans H; rw [hy133]; with_reducible exact H2_) | (have H2_ := (Option.bind_some _ _).symm.trans H; with_reducible exact H2_) | with_reducible exact H | (rw [hy133]; exact H) | exact H
          have Ny133 := Aside0.mk hy133
          clear hy133
          obtain rfl := Option.some.inj H
          have hnb17 := NB131_132.out
          have hnc17 := NB132_131.out
          obtain ⟨hcz18_0, hcz18_1, hcz18_2, hcz18_3, hcz18_4, hcz18_5, hcz18_6, hcz18_7, hcz18_8, hcz18_9, hfz18_0, hfz18_1, hfz18_2, hfz18_3, hfz18_4, hfz18_5, hfz18_6, hfz18_7, hfz18_8, hfz18_9⟩ := cells10 BK131.out
          obtain ⟨hcz19_0, hcz19_1, hcz19_2, hcz19_3, hfz19_0, hfz19_1, hfz19_2, hfz19_3⟩ := cells4 BK132.out
          go_wp2_with (first | ((with_reducible refine gate_dst (N := 19) rfl ?_); refine Kd.R_lit Kd.string _ 9 ?hg (N := 19) ?hd (xs := ([a0_1, a0_7] : List ByteArray)) (inner := [.string a0_1, .string a0_7]) (ok := fun _ => True) (okp := fun _ => True) ?hr ?hp (fun _ hk => hk) trivial (Below.refl _ _) (Nat.le_refl _) (by simp) ?_; (case hd => rfl); (case hg => rfl); (case hr => first | (go_simp; done) | (go_simp; rfl)); (case hp => exact (Reps.one (show Kd.M Kd.string _ _ _ a0_1 [.string a0_1] from rfl) (Reps.one (show Kd.M Kd.string _ _ _ a0_7 [.string a0_7] from rfl) (Reps.none _ _)))); intro v134 w20 ho21 hb hg_ hnew_; clear hg_ hnew_; (first | rw [← Ny133.out] at ho21 | (simp only [Int.reduceToNat] at ho21; rw [← Ny133.out] at ho21)); have n0_ := Aside0.mk (Kd.R_lower ho21 (below_size (by repeat (first | (with_reducible first | exact HB.out | apply below_alloc | apply pw_below_drewN | apply below_drew1 | refine below_set ?_ GE131.out | refine below_set ?_ GE132.out) | exact HB.out)))); have n1_ := Aside0.mk (blk_below (g := gb131) (o := .cells #[.int .i64 a0_0, .string a0_1, .string a0_2, .int .i64 a0_3, .string a0_4, .slice A0_5 l0_5.length c0_5, .int .i64 a0_6, .string a0_7, .string a0_8, .slice A0_9 l0_9.length c0_9] 34 (0, 0)) (by (with_reducible repeat (first | refine blk_drewN ?_ _ | refine blk_drew ?_ | refine blk_alloc ?_ _)); exact BK131.out) hb); have n2_ := Aside0.mk (blk_below (g := gb132) (o := .cells #[.int .i64 a0_6, .string a0_7, .string a0_8, .slice A0_9 l0_9.length c0_9] 30 (0, 0)) (by (with_reducible repeat (first | refine blk_drewN ?_ _ | refine blk_drew ?_ | refine blk_alloc ?_ _)); exact BK132.out) hb); have n3_ := Aside0.mk (below_step (by repeat (first | (with_reducible first | exact HB.out | apply below_alloc | apply pw_below_drewN | apply below_drew1 | refine below_set ?_ GE131.out | refine below_set ?_ GE132.out) | exact HB.out)) hb); clear BK131; clear BK132; clear HB; have HO135 := n0_; have BK131 := n1_; have BK132 := n2_; have HB := n3_; clear n0_ n1_ n2_ n3_; clear hb ho21))
          go_ret
          exact ⟨_, by first | rfl | (simp [errW_none, errW_some] <;> rfl) | (simp [*, errW_none, errW_some] <;> rfl), by (with_reducible repeat (first | apply Kd.R_alloc | apply Kd.R_drewN | apply Kd.R_drew)); exact HO135.out, by repeat (first | (with_reducible first | exact HB.out | apply below_alloc | apply pw_below_drewN | apply below_drew1 | refine below_set ?_ GE131.out | refine below_set ?_ GE132.out) | exact HB.out)⟩
        · replace c16 := Bool.eq_false_iff.mpr c16
          subst c16
          have H1 : (if a1.toList = ([119, 114, 105, 116, 101] : List UInt8) then ((some (([a0_1, a0_7] : List ByteArray) : List ByteArray)).bind fun y136 => (if y136.length + l0_9.length < 8796093022208 then (some (y136 ++ l0_9)) else (none))) else (if a1.toList = ([109, 111, 118, 101] : List UInt8) then (some (([a0_1, a0_7, a0_8] : List ByteArray))) else (if a1.toList = ([114, 101, 99, 111, 114, 100] : List UInt8) then (cmd_texts.j1 kj8 a1 (a1.toList == ([114, 101, 99, 111, 114, 100] : List UInt8)) a0_0 a0_1 a0_2 a0_3 a0_4 l0_5 a0_6 a0_7 a0_8 l0_9) else (cmd_texts.j1 kj8 a1 (a1.toList == ([117, 110, 114, 101, 99, 111, 114, 100] : List UInt8)) a0_0 a0_1 a0_2 a0_3 a0_4 l0_5 a0_6 a0_7 a0_8 l0_9)))) = some r := by rw [if_neg (show ¬ (false = true) by decide)] at H; exact H
          clear H
          have H := H1
          clear H1
          by_cases c22 : a1.toList = ([119, 114, 105, 116, 101] : List UInt8)
          · rw [if_pos c22] at H
            have c22b0 : (a1.toList == ([119, 114, 105, 116, 101] : List UInt8)) = true := beq_iff_eq.mpr c22
            have c22b1 : (a1.toList != ([119, 114, 105, 116, 101] : List UInt8)) = false := bne_eq_false_iff_eq.mpr c22
            clear c22
            obtain ⟨y136, hy136⟩ : ∃ y_ : List ByteArray, y_ = (([a0_1, a0_7] : List ByteArray)) := ⟨_, rfl⟩
            replace H : (if y136.length + l0_9.length < 8796093022208 then (some (y136 ++ l0_9)) else (none)) = some r := by first | (rw [hy136]; with_reducible exact H) | (have H2_ := (Option.bind_some _ _).symm.trans H; rw [hy136]; with_reducible exact H2_) | (have H2_ := (Option.bind_some _ _).symm.trans H; with_reducible exact H2_) | with_reducible exact H | (rw [hy136]; exact H) | exact H
            have Ny136 := Aside0.mk hy136
            clear hy136
            by_cases c23 : y136.length + l0_9.length < 8796093022208
            · rw [if_pos c23] at H
              have LMc23 := Aside0.mk c23
              clear c23
              obtain ⟨y139, hy139⟩ : ∃ y_ : List ByteArray, y_ = (y136 ++ l0_9) := ⟨_, rfl⟩
              replace H : (some y139) = some r := by first | (rw [hy139]; with_reducible exact H) | (have H2_ := (Option.bind_some _ _).symm.trans H; rw [hy139]; with_reducible exact H2_) | (have H2_ := (Option.bind_some _ _).symm.trans H; with_reducible exact H2_) | with_reducible exact H | (rw [hy139]; exact H) | exact H
              have Ny139 := Aside0.mk hy139
              clear hy139
              obtain rfl := Option.some.inj H
              have hnb24 := NB131_132.out
              have hnc24 := NB132_131.out
              obtain ⟨hcz25_0, hcz25_1, hcz25_2, hcz25_3, hcz25_4, hcz25_5, hcz25_6, hcz25_7, hcz25_8, hcz25_9, hfz25_0, hfz25_1, hfz25_2, hfz25_3, hfz25_4, hfz25_5, hfz25_6, hfz25_7, hfz25_8, hfz25_9⟩ := cells10 BK131.out
              obtain ⟨hcz26_0, hcz26_1, hcz26_2, hcz26_3, hfz26_0, hfz26_1, hfz26_2, hfz26_3⟩ := cells4 BK132.out
              go_wp2_with (first | ((with_reducible refine gate_dst (N := 26) rfl ?_); refine Kd.R_lit Kd.string _ 9 ?hg (N := 26) ?hd (xs := ([a0_1, a0_7] : List ByteArray)) (inner := [.string a0_1, .string a0_7]) (ok := fun _ => True) (okp := fun _ => True) ?hr ?hp (fun _ hk => hk) trivial (Below.refl _ _) (Nat.le_refl _) (by simp) ?_; (case hd => rfl); (case hg => rfl); (case hr => first | (go_simp; done) | (go_simp; rfl)); (case hp => exact (Reps.one (show Kd.M Kd.string _ _ _ a0_1 [.string a0_1] from rfl) (Reps.one (show Kd.M Kd.string _ _ _ a0_7 [.string a0_7] from rfl) (Reps.none _ _)))); intro v137 w27 ho28 hb hg_ hnew_; clear hg_ hnew_; (first | rw [← Ny136.out] at ho28 | (simp only [Int.reduceToNat] at ho28; rw [← Ny136.out] at ho28)); have n0_ := Aside0.mk (Kd.R_lower ho28 (below_size (by repeat (first | (with_reducible first | exact HB.out | apply below_alloc | apply pw_below_drewN | apply below_drew1 | refine below_set ?_ GE131.out | refine below_set ?_ GE132.out) | exact HB.out)))); have n1_ := Aside0.mk (blk_below (g := gb131) (o := .cells #[.int .i64 a0_0, .string a0_1, .string a0_2, .int .i64 a0_3, .string a0_4, .slice A0_5 l0_5.length c0_5, .int .i64 a0_6, .string a0_7, .string a0_8, .slice A0_9 l0_9.length c0_9] 34 (0, 0)) (by (with_reducible repeat (first | refine blk_drewN ?_ _ | refine blk_drew ?_ | refine blk_alloc ?_ _)); exact BK131.out) hb); have n2_ := Aside0.mk (blk_below (g := gb132) (o := .cells #[.int .i64 a0_6, .string a0_7, .string a0_8, .slice A0_9 l0_9.length c0_9] 30 (0, 0)) (by (with_reducible repeat (first | refine blk_drewN ?_ _ | refine blk_drew ?_ | refine blk_alloc ?_ _)); exact BK132.out) hb); have n3_ := Aside0.mk (below_step (by repeat (first | (with_reducible first | exact HB.out | apply below_alloc | apply pw_below_drewN | apply below_drew1 | refine below_set ?_ GE131.out | refine below_set ?_ GE132.out) | exact HB.out)) hb); clear BK131; clear BK132; clear HB; have HO138 := n0_; have BK131 := n1_; have BK132 := n2_; have HB := n3_; clear n0_ n1_ n2_ n3_; clear hb ho28; obtain ⟨hcz29_0, hcz29_1, hcz29_2, hcz29_3, hfz29_0, hfz29_1, hfz29_2, hfz29_3⟩ := cells4 BK132.out) | ((with_reducible refine gate_builtin (b := .append) (xs := #[.tmp 26, .tmp 28]) rfl ?_); at_builtin; refine Kd.R_append_rows Kd.string (w0 := w) w.heap.size rfl (.tmp 26) (.tmp 28) 28 9 (.string ⟨#[]⟩) 16 rfl Tryd.underlying28 info9 rfl (by decide) (by omega) v137 y136 l0_9 _ _ _ (fun _ => True) (fun _ => False) rfl rfl ?aO ?aR (fun _ _ h => h) (fun _ h => h.elim) ?aF ?aB ?aS ?aL ?_; (case aR => repeat (first | exact (Kd.C_below HR0_9.out HB.out) | (with_reducible refine Kd.C_alloc ?_ _) | (with_reducible refine Kd.C_drewN ?_ _) | (with_reducible refine Kd.C_drew ?_))); (case aB => exact (by repeat (first | (with_reducible first | exact HB.out | apply below_alloc | apply pw_below_drewN | apply below_drew1 | refine below_set ?_ GE131.out | refine below_set ?_ GE132.out) | exact HB.out))); (case aF => exact (fun _ _ => trivial)); (case aO => exact (by (with_reducible repeat (first | apply Kd.R_alloc | apply Kd.R_drewN | apply Kd.R_drew)); exact HO138.out)); (case aS => exact (below_size (by repeat (first | (with_reducible first | exact HB.out | apply below_alloc | apply pw_below_drewN | apply below_drew1 | refine below_set ?_ GE131.out | refine below_set ?_ GE132.out) | exact HB.out)))); (case aL => have := LMc23.out; omega); intro v140 w30 ho hb hg hat; rw [← Ny139.out] at ho; have n0_ := Aside0.mk (blk_grown (g := gb131) (o := .cells #[.int .i64 a0_0, .string a0_1, .string a0_2, .int .i64 a0_3, .string a0_4, .slice A0_5 l0_5.length c0_5, .int .i64 a0_6, .string a0_7, .string a0_8, .slice A0_9 l0_9.length c0_9] 34 (0, 0)) (by (with_reducible repeat (first | refine blk_drewN ?_ _ | refine blk_drew ?_ | refine blk_alloc ?_ _)); exact BK131.out) hg (Kd.R_ne HO138.out BK131.out (by decide))); have n1_ := Aside0.mk (blk_grown (g := gb132) (o := .cells #[.int .i64 a0_6, .string a0_7, .string a0_8, .slice A0_9 l0_9.length c0_9] 30 (0, 0)) (by (with_reducible repeat (first | refine blk_drewN ?_ _ | refine blk_drew ?_ | refine blk_alloc ?_ _)); exact BK132.out) hg (Kd.R_ne HO138.out BK132.out (by decide))); have n2_ := Aside0.mk (hb); have n3_ := Aside0.mk (ho); clear BK131; clear BK132; clear HB; clear HO138; have BK131 := n0_; have BK132 := n1_; have HB := n2_; have HO141 := n3_; clear n0_ n1_ n2_ n3_; clear ho hb hg hat))
              go_ret
              exact ⟨_, by first | rfl | (simp [errW_none, errW_some] <;> rfl) | (simp [*, errW_none, errW_some] <;> rfl), by (with_reducible repeat (first | apply Kd.R_alloc | apply Kd.R_drewN | apply Kd.R_drew)); exact HO141.out, by repeat (first | (with_reducible first | exact HB.out | apply below_alloc | apply pw_below_drewN | apply below_drew1 | refine below_set ?_ GE131.out | refine below_set ?_ GE132.out) | exact HB.out)⟩
            · rw [if_neg c23] at H
              exact absurd H (by simp)
          · rw [if_neg c22] at H
            have c22b0 : (a1.toList == ([119, 114, 105, 116, 101] : List UInt8)) = false := beq_eq_false_iff_ne.mpr c22
            have c22b1 : (a1.toList != ([119, 114, 105, 116, 101] : List UInt8)) = true := bne_iff_ne.mpr c22
            by_cases c31 : a1.toList = ([109, 111, 118, 101] : List UInt8)
            · rw [if_pos c31] at H
              have c31b0 : (a1.toList == ([109, 111, 118, 101] : List UInt8)) = true := beq_iff_eq.mpr c31
              have c31b1 : (a1.toList != ([109, 111, 118, 101] : List UInt8)) = false := bne_eq_false_iff_eq.mpr c31
              clear c31
              obtain ⟨y142, hy142⟩ : ∃ y_ : List ByteArray, y_ = (([a0_1, a0_7, a0_8] : List ByteArray)) := ⟨_, rfl⟩
              replace H : (some y142) = some r := by first | (rw [hy142]; with_reducible exact H) | (have H2_ := (Option.bind_some _ _).symm.trans H; rw [hy142]; with_reducible exact H2_) | (have H2_ := (Option.bind_some _ _).symm.trans H; with_reducible exact H2_) | with_reducible exact H | (rw [hy142]; exact H) | exact H
              have Ny142 := Aside0.mk hy142
              clear hy142
              obtain rfl := Option.some.inj H
              have hnb32 := NB131_132.out
              have hnc32 := NB132_131.out
              obtain ⟨hcz33_0, hcz33_1, hcz33_2, hcz33_3, hcz33_4, hcz33_5, hcz33_6, hcz33_7, hcz33_8, hcz33_9, hfz33_0, hfz33_1, hfz33_2, hfz33_3, hfz33_4, hfz33_5, hfz33_6, hfz33_7, hfz33_8, hfz33_9⟩ := cells10 BK131.out
              obtain ⟨hcz34_0, hcz34_1, hcz34_2, hcz34_3, hfz34_0, hfz34_1, hfz34_2, hfz34_3⟩ := cells4 BK132.out
              go_wp2_with (first | ((with_reducible refine gate_dst (N := 38) rfl ?_); refine Kd.R_lit Kd.string _ 9 ?hg (N := 38) ?hd (xs := ([a0_1, a0_7, a0_8] : List ByteArray)) (inner := [.string a0_1, .string a0_7, .string a0_8]) (ok := fun _ => True) (okp := fun _ => True) ?hr ?hp (fun _ hk => hk) trivial (Below.refl _ _) (Nat.le_refl _) (by simp) ?_; (case hd => rfl); (case hg => rfl); (case hr => first | (go_simp; done) | (go_simp; rfl)); (case hp => exact (Reps.one (show Kd.M Kd.string _ _ _ a0_1 [.string a0_1] from rfl) (Reps.one (show Kd.M Kd.string _ _ _ a0_7 [.string a0_7] from rfl) (Reps.one (show Kd.M Kd.string _ _ _ a0_8 [.string a0_8] from rfl) (Reps.none _ _))))); intro v143 w35 ho36 hb hg_ hnew_; clear hg_ hnew_; (first | rw [← Ny142.out] at ho36 | (simp only [Int.reduceToNat] at ho36; rw [← Ny142.out] at ho36)); have n0_ := Aside0.mk (Kd.R_lower ho36 (below_size (by repeat (first | (with_reducible first | exact HB.out | apply below_alloc | apply pw_below_drewN | apply below_drew1 | refine below_set ?_ GE131.out | refine below_set ?_ GE132.out) | exact HB.out)))); have n1_ := Aside0.mk (blk_below (g := gb131) (o := .cells #[.int .i64 a0_0, .string a0_1, .string a0_2, .int .i64 a0_3, .string a0_4, .slice A0_5 l0_5.length c0_5, .int .i64 a0_6, .string a0_7, .string a0_8, .slice A0_9 l0_9.length c0_9] 34 (0, 0)) (by (with_reducible repeat (first | refine blk_drewN ?_ _ | refine blk_drew ?_ | refine blk_alloc ?_ _)); exact BK131.out) hb); have n2_ := Aside0.mk (blk_below (g := gb132) (o := .cells #[.int .i64 a0_6, .string a0_7, .string a0_8, .slice A0_9 l0_9.length c0_9] 30 (0, 0)) (by (with_reducible repeat (first | refine blk_drewN ?_ _ | refine blk_drew ?_ | refine blk_alloc ?_ _)); exact BK132.out) hb); have n3_ := Aside0.mk (below_step (by repeat (first | (with_reducible first | exact HB.out | apply below_alloc | apply pw_below_drewN | apply below_drew1 | refine below_set ?_ GE131.out | refine below_set ?_ GE132.out) | exact HB.out)) hb); clear BK131; clear BK132; clear HB; have HO144 := n0_; have BK131 := n1_; have BK132 := n2_; have HB := n3_; clear n0_ n1_ n2_ n3_; clear hb ho36))
              go_ret
              exact ⟨_, by first | rfl | (simp [errW_none, errW_some] <;> rfl) | (simp [*, errW_none, errW_some] <;> rfl), by (with_reducible repeat (first | apply Kd.R_alloc | apply Kd.R_drewN | apply Kd.R_drew)); exact HO144.out, by repeat (first | (with_reducible first | exact HB.out | apply below_alloc | apply pw_below_drewN | apply below_drew1 | refine below_set ?_ GE131.out | refine below_set ?_ GE132.out) | exact HB.out)⟩
            · rw [if_neg c31] at H
              have c31b0 : (a1.toList == ([109, 111, 118, 101] : List UInt8)) = false := beq_eq_false_iff_ne.mpr c31
              have c31b1 : (a1.toList != ([109, 111, 118, 101] : List UInt8)) = true := bne_iff_ne.mpr c31
              have HC37 := Aside0.mk H
              clear H
              go_upto_if 39 with (fail)
              go_cut [39] (fun v39 wc => ∃ (kq : Nat) (x39_36 : Bool), v39 = .bool x39_36 ∧ Aside0 (cmd_texts.j1 kq a1 x39_36 a0_0 a0_1 a0_2 a0_3 a0_4 l0_5 a0_6 a0_7 a0_8 l0_9 = some r) ∧ Aside0 (kq ≤ kj8) ∧ Aside0 (wc.heap[gb131]? = some (.cells #[.int .i64 a0_0, .string a0_1, .string a0_2, .int .i64 a0_3, .string a0_4, (.slice A0_5 l0_5.length c0_5), .int .i64 a0_6, .string a0_7, .string a0_8, (.slice A0_9 l0_9.length c0_9)] 34 (0, 0))) ∧ Aside0 (wc.heap[gb132]? = some (.cells #[.int .i64 a0_6, .string a0_7, .string a0_8, (.slice A0_9 l0_9.length c0_9)] 30 (0, 0))) ∧ Aside0 (Below w.heap.size w wc))
              case first =>
                have H := HC37.out
                clear HC37
                by_cases c38 : a1.toList = ([114, 101, 99, 111, 114, 100] : List UInt8)
                · rw [if_pos c38] at H
                  have c38b0 : (a1.toList == ([114, 101, 99, 111, 114, 100] : List UInt8)) = true := beq_iff_eq.mpr c38
                  have c38b1 : (a1.toList != ([114, 101, 99, 111, 114, 100] : List UInt8)) = false := bne_eq_false_iff_eq.mpr c38
                  clear c38
                  (first | rw [c38b0] | (simp only [i64_w, i32_w]; rw [c38b0]) | rw [c38b1] | rw [c38b2] | skip)
                  have H' := Aside0.mk H
                  clear H
                  go_wp2
                  go_meet
                  case rel => exact ⟨_, ((a1.toList == ([114, 101, 99, 111, 114, 100] : List UInt8))), (by first | rfl | (simp; done) | (simp [*]; done)), H', ⟨by have := HJ8.out; first | omega | exact Nat.le_refl _⟩, ⟨by (with_reducible repeat (first | refine blk_drewN ?_ _ | refine blk_drew ?_ | refine blk_alloc ?_ _)); exact BK131.out⟩, ⟨by (with_reducible repeat (first | refine blk_drewN ?_ _ | refine blk_drew ?_ | refine blk_alloc ?_ _)); exact BK132.out⟩, ⟨by repeat (first | (with_reducible first | exact HB.out | apply below_alloc | apply pw_below_drewN | apply below_drew1 | refine below_set ?_ GE131.out | refine below_set ?_ GE132.out) | exact HB.out)⟩⟩
                · rw [if_neg c38] at H
                  have c38b0 : (a1.toList == ([114, 101, 99, 111, 114, 100] : List UInt8)) = false := beq_eq_false_iff_ne.mpr c38
                  have c38b1 : (a1.toList != ([114, 101, 99, 111, 114, 100] : List UInt8)) = true := bne_iff_ne.mpr c38
                  (first | rw [c38b0] | (simp only [i64_w, i32_w]; rw [c38b0]) | rw [c38b1] | rw [c38b2] | skip)
                  have H' := Aside0.mk H
                  clear H
                  go_wp2
                  go_meet
                  case rel => exact ⟨_, ((a1.toList == ([117, 110, 114, 101, 99, 111, 114, 100] : List UInt8))), (by first | rfl | (simp; done) | (simp [*]; done)), H', ⟨by have := HJ8.out; first | omega | exact Nat.le_refl _⟩, ⟨by (with_reducible repeat (first | refine blk_drewN ?_ _ | refine blk_drew ?_ | refine blk_alloc ?_ _)); exact BK131.out⟩, ⟨by (with_reducible repeat (first | refine blk_drewN ?_ _ | refine blk_drew ?_ | refine blk_alloc ?_ _)); exact BK132.out⟩, ⟨by repeat (first | (with_reducible first | exact HB.out | apply below_alloc | apply pw_below_drewN | apply below_drew1 | refine below_set ?_ GE131.out | refine below_set ?_ GE132.out) | exact HB.out)⟩⟩
              case rest =>
                clear HC37
                try clear c3
                try clear c3b0
                try clear c3b1
                try clear c16
                try clear c22
                try clear c22b0
                try clear c22b1
                try clear c31
                try clear c31b0
                try clear c31b1
                try clear hcz11_0
                try clear hcz11_1
                try clear hcz11_2
                try clear hcz11_3
                try clear hcz11_4
                try clear hcz11_5
                try clear hcz11_6
                try clear hcz11_7
                try clear hcz11_8
                try clear hcz11_9
                try clear hcz14_0
                try clear hcz14_1
                try clear hcz14_2
                try clear hcz14_3
                try clear hfz11_0
                try clear hfz11_1
                try clear hfz11_2
                try clear hfz11_3
                try clear hfz11_4
                try clear hfz11_5
                try clear hfz11_6
                try clear hfz11_7
                try clear hfz11_8
                try clear hfz11_9
                try clear hfz14_0
                try clear hfz14_1
                try clear hfz14_2
                try clear hfz14_3
                obtain ⟨kq, x39_36, rfl, HA, HJ36, BK131, BK132, HB⟩ := hcut
                cases kq with
                | zero => exact absurd HA.out (by simp [cmd_texts.j1])
                | succ kj36 =>
                  have H := HA.out
                  clear HA
                  simp only [cmd_texts.j1] at H
                  by_cases c39 : x39_36 = true
                  · subst c39
                    have H1 : (some (([a0_1, a0_4] : List ByteArray))) = some r := by rw [if_pos rfl] at H; exact H
                    clear H
                    have H := H1
                    clear H1
                    obtain ⟨y145, hy145⟩ : ∃ y_ : List ByteArray, y_ = (([a0_1, a0_4] : List ByteArray)) := ⟨_, rfl⟩
                    replace H : (some y145) = some r := by first | (rw [hy145]; with_reducible exact H) | (have H2_ := (Option.bind_some _ _).symm.trans H; rw [hy145]; with_reducible exact H2_) | (have H2_ := (Option.bind_some _ _).symm.trans H; with_reducible exact H2_) | with_reducible exact H | (rw [hy145]; exact H) | exact H
                    have Ny145 := Aside0.mk hy145
                    clear hy145
                    obtain rfl := Option.some.inj H
                    have hnb40 := NB131_132.out
                    have hnc40 := NB132_131.out
                    obtain ⟨hcz41_0, hcz41_1, hcz41_2, hcz41_3, hcz41_4, hcz41_5, hcz41_6, hcz41_7, hcz41_8, hcz41_9, hfz41_0, hfz41_1, hfz41_2, hfz41_3, hfz41_4, hfz41_5, hfz41_6, hfz41_7, hfz41_8, hfz41_9⟩ := cells10 BK131.out
                    go_wp2_with (first | ((with_reducible refine gate_dst (N := 47) rfl ?_); refine Kd.R_lit Kd.string _ 9 ?hg (N := 47) ?hd (xs := ([a0_1, a0_4] : List ByteArray)) (inner := [.string a0_1, .string a0_4]) (ok := fun _ => True) (okp := fun _ => True) ?hr ?hp (fun _ hk => hk) trivial (Below.refl _ _) (Nat.le_refl _) (by simp) ?_; (case hd => rfl); (case hg => rfl); (case hr => first | (go_simp; done) | (go_simp; rfl)); (case hp => exact (Reps.one (show Kd.M Kd.string _ _ _ a0_1 [.string a0_1] from rfl) (Reps.one (show Kd.M Kd.string _ _ _ a0_4 [.string a0_4] from rfl) (Reps.none _ _)))); intro v146 w42 ho43 hb hg_ hnew_; clear hg_ hnew_; (first | rw [← Ny145.out] at ho43 | (simp only [Int.reduceToNat] at ho43; rw [← Ny145.out] at ho43)); have n0_ := Aside0.mk (Kd.R_lower ho43 (below_size (by repeat (first | (with_reducible first | exact HB.out | apply below_alloc | apply pw_below_drewN | apply below_drew1 | refine below_set ?_ GE131.out | refine below_set ?_ GE132.out) | exact HB.out)))); have n1_ := Aside0.mk (blk_below (g := gb131) (o := .cells #[.int .i64 a0_0, .string a0_1, .string a0_2, .int .i64 a0_3, .string a0_4, .slice A0_5 l0_5.length c0_5, .int .i64 a0_6, .string a0_7, .string a0_8, .slice A0_9 l0_9.length c0_9] 34 (0, 0)) (by (with_reducible repeat (first | refine blk_drewN ?_ _ | refine blk_drew ?_ | refine blk_alloc ?_ _)); exact BK131.out) hb); have n2_ := Aside0.mk (blk_below (g := gb132) (o := .cells #[.int .i64 a0_6, .string a0_7, .string a0_8, .slice A0_9 l0_9.length c0_9] 30 (0, 0)) (by (with_reducible repeat (first | refine blk_drewN ?_ _ | refine blk_drew ?_ | refine blk_alloc ?_ _)); exact BK132.out) hb); have n3_ := Aside0.mk (below_step (by repeat (first | (with_reducible first | exact HB.out | apply below_alloc | apply pw_below_drewN | apply below_drew1 | refine below_set ?_ GE131.out | refine below_set ?_ GE132.out) | exact HB.out)) hb); clear BK131; clear BK132; clear HB; have HO147 := n0_; have BK131 := n1_; have BK132 := n2_; have HB := n3_; clear n0_ n1_ n2_ n3_; clear hb ho43))
                    go_ret
                    exact ⟨_, by first | rfl | (simp [errW_none, errW_some] <;> rfl) | (simp [*, errW_none, errW_some] <;> rfl), by (with_reducible repeat (first | apply Kd.R_alloc | apply Kd.R_drewN | apply Kd.R_drew)); exact HO147.out, by repeat (first | (with_reducible first | exact HB.out | apply below_alloc | apply pw_below_drewN | apply below_drew1 | refine below_set ?_ GE131.out | refine below_set ?_ GE132.out) | exact HB.out)⟩
                  · replace c39 := Bool.eq_false_iff.mpr c39
                    subst c39
                    have H1 : (if a1.toList = ([112, 117, 108, 108] : List UInt8) then ((some (([a0_1, a0_2] : List ByteArray) : List ByteArray)).bind fun y148 => (if y148.length + l0_5.length < 8796093022208 then (some (y148 ++ l0_5)) else (none))) else (if a1.toList = ([117, 110, 112, 117, 108, 108] : List UInt8) then ((some (([a0_1] : List ByteArray) : List ByteArray)).bind fun y154 => (if y154.length + l0_5.length < 8796093022208 then (some (y154 ++ l0_5)) else (none))) else (some (([a0_1] : List ByteArray))))) = some r := by rw [if_neg (show ¬ (false = true) by decide)] at H; exact H
                    clear H
                    have H := H1
                    clear H1
                    by_cases c44 : a1.toList = ([112, 117, 108, 108] : List UInt8)
                    · rw [if_pos c44] at H
                      have c44b0 : (a1.toList == ([112, 117, 108, 108] : List UInt8)) = true := beq_iff_eq.mpr c44
                      have c44b1 : (a1.toList != ([112, 117, 108, 108] : List UInt8)) = false := bne_eq_false_iff_eq.mpr c44
                      clear c44
                      obtain ⟨y148, hy148⟩ : ∃ y_ : List ByteArray, y_ = (([a0_1, a0_2] : List ByteArray)) := ⟨_, rfl⟩
                      replace H : (if y148.length + l0_5.length < 8796093022208 then (some (y148 ++ l0_5)) else (none)) = some r := by first | (rw [hy148]; with_reducible exact H) | (have H2_ := (Option.bind_some _ _).symm.trans H; rw [hy148]; with_reducible exact H2_) | (have H2_ := (Option.bind_some _ _).symm.trans H; with_reducible exact H2_) | with_reducible exact H | (rw [hy148]; exact H) | exact H
                      have Ny148 := Aside0.mk hy148
                      clear hy148
                      by_cases c45 : y148.length + l0_5.length < 8796093022208
                      · rw [if_pos c45] at H
                        have LMc45 := Aside0.mk c45
                        clear c45
                        obtain ⟨y151, hy151⟩ : ∃ y_ : List ByteArray, y_ = (y148 ++ l0_5) := ⟨_, rfl⟩
                        replace H : (some y151) = some r := by first | (rw [hy151]; with_reducible exact H) | (have H2_ := (Option.bind_some _ _).symm.trans H; rw [hy151]; with_reducible exact H2_) | (have H2_ := (Option.bind_some _ _).symm.trans H; with_reducible exact H2_) | with_reducible exact H | (rw [hy151]; exact H) | exact H
                        have Ny151 := Aside0.mk hy151
                        clear hy151
                        obtain rfl := Option.some.inj H
                        have hnb46 := NB131_132.out
                        have hnc46 := NB132_131.out
                        obtain ⟨hcz47_0, hcz47_1, hcz47_2, hcz47_3, hcz47_4, hcz47_5, hcz47_6, hcz47_7, hcz47_8, hcz47_9, hfz47_0, hfz47_1, hfz47_2, hfz47_3, hfz47_4, hfz47_5, hfz47_6, hfz47_7, hfz47_8, hfz47_9⟩ := cells10 BK131.out
                        go_wp2_with (first | ((with_reducible refine gate_dst (N := 54) rfl ?_); refine Kd.R_lit Kd.string _ 9 ?hg (N := 54) ?hd (xs := ([a0_1, a0_2] : List ByteArray)) (inner := [.string a0_1, .string a0_2]) (ok := fun _ => True) (okp := fun _ => True) ?hr ?hp (fun _ hk => hk) trivial (Below.refl _ _) (Nat.le_refl _) (by simp) ?_; (case hd => rfl); (case hg => rfl); (case hr => first | (go_simp; done) | (go_simp; rfl)); (case hp => exact (Reps.one (show Kd.M Kd.string _ _ _ a0_1 [.string a0_1] from rfl) (Reps.one (show Kd.M Kd.string _ _ _ a0_2 [.string a0_2] from rfl) (Reps.none _ _)))); intro v149 w48 ho49 hb hg_ hnew_; clear hg_ hnew_; (first | rw [← Ny148.out] at ho49 | (simp only [Int.reduceToNat] at ho49; rw [← Ny148.out] at ho49)); have n0_ := Aside0.mk (Kd.R_lower ho49 (below_size (by repeat (first | (with_reducible first | exact HB.out | apply below_alloc | apply pw_below_drewN | apply below_drew1 | refine below_set ?_ GE131.out | refine below_set ?_ GE132.out) | exact HB.out)))); have n1_ := Aside0.mk (blk_below (g := gb131) (o := .cells #[.int .i64 a0_0, .string a0_1, .string a0_2, .int .i64 a0_3, .string a0_4, .slice A0_5 l0_5.length c0_5, .int .i64 a0_6, .string a0_7, .string a0_8, .slice A0_9 l0_9.length c0_9] 34 (0, 0)) (by (with_reducible repeat (first | refine blk_drewN ?_ _ | refine blk_drew ?_ | refine blk_alloc ?_ _)); exact BK131.out) hb); have n2_ := Aside0.mk (blk_below (g := gb132) (o := .cells #[.int .i64 a0_6, .string a0_7, .string a0_8, .slice A0_9 l0_9.length c0_9] 30 (0, 0)) (by (with_reducible repeat (first | refine blk_drewN ?_ _ | refine blk_drew ?_ | refine blk_alloc ?_ _)); exact BK132.out) hb); have n3_ := Aside0.mk (below_step (by repeat (first | (with_reducible first | exact HB.out | apply below_alloc | apply pw_below_drewN | apply below_drew1 | refine below_set ?_ GE131.out | refine below_set ?_ GE132.out) | exact HB.out)) hb); clear BK131; clear BK132; clear HB; have HO150 := n0_; have BK131 := n1_; have BK132 := n2_; have HB := n3_; clear n0_ n1_ n2_ n3_; clear hb ho49; obtain ⟨hcz50_0, hcz50_1, hcz50_2, hcz50_3, hcz50_4, hcz50_5, hcz50_6, hcz50_7, hcz50_8, hcz50_9, hfz50_0, hfz50_1, hfz50_2, hfz50_3, hfz50_4, hfz50_5, hfz50_6, hfz50_7, hfz50_8, hfz50_9⟩ := cells10 BK131.out) | ((with_reducible refine gate_builtin (b := .append) (xs := #[.tmp 54, .tmp 57]) rfl ?_); at_builtin; refine Kd.R_append_rows Kd.string (w0 := w) w.heap.size rfl (.tmp 54) (.tmp 57) 28 9 (.string ⟨#[]⟩) 16 rfl Tryd.underlying28 info9 rfl (by decide) (by omega) v149 y148 l0_5 _ _ _ (fun _ => True) (fun _ => False) rfl rfl ?aO ?aR (fun _ _ h => h) (fun _ h => h.elim) ?aF ?aB ?aS ?aL ?_; (case aR => repeat (first | exact (Kd.C_below HR0_5.out HB.out) | (with_reducible refine Kd.C_alloc ?_ _) | (with_reducible refine Kd.C_drewN ?_ _) | (with_reducible refine Kd.C_drew ?_))); (case aB => exact (by repeat (first | (with_reducible first | exact HB.out | apply below_alloc | apply pw_below_drewN | apply below_drew1 | refine below_set ?_ GE131.out | refine below_set ?_ GE132.out) | exact HB.out))); (case aF => exact (fun _ _ => trivial)); (case aO => exact (by (with_reducible repeat (first | apply Kd.R_alloc | apply Kd.R_drewN | apply Kd.R_drew)); exact HO150.out)); (case aS => exact (below_size (by repeat (first | (with_reducible first | exact HB.out | apply below_alloc | apply pw_below_drewN | apply below_drew1 | refine below_set ?_ GE131.out | refine below_set ?_ GE132.out) | exact HB.out)))); (case aL => have := LMc45.out; omega); intro v152 w51 ho hb hg hat; rw [← Ny151.out] at ho; have n0_ := Aside0.mk (blk_grown (g := gb131) (o := .cells #[.int .i64 a0_0, .string a0_1, .string a0_2, .int .i64 a0_3, .string a0_4, .slice A0_5 l0_5.length c0_5, .int .i64 a0_6, .string a0_7, .string a0_8, .slice A0_9 l0_9.length c0_9] 34 (0, 0)) (by (with_reducible repeat (first | refine blk_drewN ?_ _ | refine blk_drew ?_ | refine blk_alloc ?_ _)); exact BK131.out) hg (Kd.R_ne HO150.out BK131.out (by decide))); have n1_ := Aside0.mk (blk_grown (g := gb132) (o := .cells #[.int .i64 a0_6, .string a0_7, .string a0_8, .slice A0_9 l0_9.length c0_9] 30 (0, 0)) (by (with_reducible repeat (first | refine blk_drewN ?_ _ | refine blk_drew ?_ | refine blk_alloc ?_ _)); exact BK132.out) hg (Kd.R_ne HO150.out BK132.out (by decide))); have n2_ := Aside0.mk (hb); have n3_ := Aside0.mk (ho); clear BK131; clear BK132; clear HB; clear HO150; have BK131 := n0_; have BK132 := n1_; have HB := n2_; have HO153 := n3_; clear n0_ n1_ n2_ n3_; clear ho hb hg hat))
                        go_ret
                        exact ⟨_, by first | rfl | (simp [errW_none, errW_some] <;> rfl) | (simp [*, errW_none, errW_some] <;> rfl), by (with_reducible repeat (first | apply Kd.R_alloc | apply Kd.R_drewN | apply Kd.R_drew)); exact HO153.out, by repeat (first | (with_reducible first | exact HB.out | apply below_alloc | apply pw_below_drewN | apply below_drew1 | refine below_set ?_ GE131.out | refine below_set ?_ GE132.out) | exact HB.out)⟩
                      · rw [if_neg c45] at H
                        exact absurd H (by simp)
                    · rw [if_neg c44] at H
                      have c44b0 : (a1.toList == ([112, 117, 108, 108] : List UInt8)) = false := beq_eq_false_iff_ne.mpr c44
                      have c44b1 : (a1.toList != ([112, 117, 108, 108] : List UInt8)) = true := bne_iff_ne.mpr c44
                      by_cases c52 : a1.toList = ([117, 110, 112, 117, 108, 108] : List UInt8)
                      · rw [if_pos c52] at H
                        have c52b0 : (a1.toList == ([117, 110, 112, 117, 108, 108] : List UInt8)) = true := beq_iff_eq.mpr c52
                        have c52b1 : (a1.toList != ([117, 110, 112, 117, 108, 108] : List UInt8)) = false := bne_eq_false_iff_eq.mpr c52
                        clear c52
                        obtain ⟨y154, hy154⟩ : ∃ y_ : List ByteArray, y_ = (([a0_1] : List ByteArray)) := ⟨_, rfl⟩
                        replace H : (if y154.length + l0_5.length < 8796093022208 then (some (y154 ++ l0_5)) else (none)) = some r := by first | (rw [hy154]; with_reducible exact H) | (have H2_ := (Option.bind_some _ _).symm.trans H; rw [hy154]; with_reducible exact H2_) | (have H2_ := (Option.bind_some _ _).symm.trans H; with_reducible exact H2_) | with_reducible exact H | (rw [hy154]; exact H) | exact H
                        have Ny154 := Aside0.mk hy154
                        clear hy154
                        by_cases c53 : y154.length + l0_5.length < 8796093022208
                        · rw [if_pos c53] at H
                          have LMc53 := Aside0.mk c53
                          clear c53
                          obtain ⟨y157, hy157⟩ : ∃ y_ : List ByteArray, y_ = (y154 ++ l0_5) := ⟨_, rfl⟩
                          replace H : (some y157) = some r := by first | (rw [hy157]; with_reducible exact H) | (have H2_ := (Option.bind_some _ _).symm.trans H; rw [hy157]; with_reducible exact H2_) | (have H2_ := (Option.bind_some _ _).symm.trans H; with_reducible exact H2_) | with_reducible exact H | (rw [hy157]; exact H) | exact H
                          have Ny157 := Aside0.mk hy157
                          clear hy157
                          obtain rfl := Option.some.inj H
                          have hnb54 := NB131_132.out
                          have hnc54 := NB132_131.out
                          obtain ⟨hcz55_0, hcz55_1, hcz55_2, hcz55_3, hcz55_4, hcz55_5, hcz55_6, hcz55_7, hcz55_8, hcz55_9, hfz55_0, hfz55_1, hfz55_2, hfz55_3, hfz55_4, hfz55_5, hfz55_6, hfz55_7, hfz55_8, hfz55_9⟩ := cells10 BK131.out
                          go_wp2_with (first | ((with_reducible refine gate_dst (N := 63) rfl ?_); refine Kd.R_lit Kd.string _ 9 ?hg (N := 63) ?hd (xs := ([a0_1] : List ByteArray)) (inner := [.string a0_1]) (ok := fun _ => True) (okp := fun _ => True) ?hr ?hp (fun _ hk => hk) trivial (Below.refl _ _) (Nat.le_refl _) (by simp) ?_; (case hd => rfl); (case hg => rfl); (case hr => first | (go_simp; done) | (go_simp; rfl)); (case hp => exact (Reps.one (show Kd.M Kd.string _ _ _ a0_1 [.string a0_1] from rfl) (Reps.none _ _))); intro v155 w56 ho57 hb hg_ hnew_; clear hg_ hnew_; (first | rw [← Ny154.out] at ho57 | (simp only [Int.reduceToNat] at ho57; rw [← Ny154.out] at ho57)); have n0_ := Aside0.mk (Kd.R_lower ho57 (below_size (by repeat (first | (with_reducible first | exact HB.out | apply below_alloc | apply pw_below_drewN | apply below_drew1 | refine below_set ?_ GE131.out | refine below_set ?_ GE132.out) | exact HB.out)))); have n1_ := Aside0.mk (blk_below (g := gb131) (o := .cells #[.int .i64 a0_0, .string a0_1, .string a0_2, .int .i64 a0_3, .string a0_4, .slice A0_5 l0_5.length c0_5, .int .i64 a0_6, .string a0_7, .string a0_8, .slice A0_9 l0_9.length c0_9] 34 (0, 0)) (by (with_reducible repeat (first | refine blk_drewN ?_ _ | refine blk_drew ?_ | refine blk_alloc ?_ _)); exact BK131.out) hb); have n2_ := Aside0.mk (blk_below (g := gb132) (o := .cells #[.int .i64 a0_6, .string a0_7, .string a0_8, .slice A0_9 l0_9.length c0_9] 30 (0, 0)) (by (with_reducible repeat (first | refine blk_drewN ?_ _ | refine blk_drew ?_ | refine blk_alloc ?_ _)); exact BK132.out) hb); have n3_ := Aside0.mk (below_step (by repeat (first | (with_reducible first | exact HB.out | apply below_alloc | apply pw_below_drewN | apply below_drew1 | refine below_set ?_ GE131.out | refine below_set ?_ GE132.out) | exact HB.out)) hb); clear BK131; clear BK132; clear HB; have HO156 := n0_; have BK131 := n1_; have BK132 := n2_; have HB := n3_; clear n0_ n1_ n2_ n3_; clear hb ho57; obtain ⟨hcz58_0, hcz58_1, hcz58_2, hcz58_3, hcz58_4, hcz58_5, hcz58_6, hcz58_7, hcz58_8, hcz58_9, hfz58_0, hfz58_1, hfz58_2, hfz58_3, hfz58_4, hfz58_5, hfz58_6, hfz58_7, hfz58_8, hfz58_9⟩ := cells10 BK131.out) | ((with_reducible refine gate_builtin (b := .append) (xs := #[.tmp 63, .tmp 66]) rfl ?_); at_builtin; refine Kd.R_append_rows Kd.string (w0 := w) w.heap.size rfl (.tmp 63) (.tmp 66) 28 9 (.string ⟨#[]⟩) 16 rfl Tryd.underlying28 info9 rfl (by decide) (by omega) v155 y154 l0_5 _ _ _ (fun _ => True) (fun _ => False) rfl rfl ?aO ?aR (fun _ _ h => h) (fun _ h => h.elim) ?aF ?aB ?aS ?aL ?_; (case aR => repeat (first | exact (Kd.C_below HR0_5.out HB.out) | (with_reducible refine Kd.C_alloc ?_ _) | (with_reducible refine Kd.C_drewN ?_ _) | (with_reducible refine Kd.C_drew ?_))); (case aB => exact (by repeat (first | (with_reducible first | exact HB.out | apply below_alloc | apply pw_below_drewN | apply below_drew1 | refine below_set ?_ GE131.out | refine below_set ?_ GE132.out) | exact HB.out))); (case aF => exact (fun _ _ => trivial)); (case aO => exact (by (with_reducible repeat (first | apply Kd.R_alloc | apply Kd.R_drewN | apply Kd.R_drew)); exact HO156.out)); (case aS => exact (below_size (by repeat (first | (with_reducible first | exact HB.out | apply below_alloc | apply pw_below_drewN | apply below_drew1 | refine below_set ?_ GE131.out | refine below_set ?_ GE132.out) | exact HB.out)))); (case aL => have := LMc53.out; omega); intro v158 w59 ho hb hg hat; rw [← Ny157.out] at ho; have n0_ := Aside0.mk (blk_grown (g := gb131) (o := .cells #[.int .i64 a0_0, .string a0_1, .string a0_2, .int .i64 a0_3, .string a0_4, .slice A0_5 l0_5.length c0_5, .int .i64 a0_6, .string a0_7, .string a0_8, .slice A0_9 l0_9.length c0_9] 34 (0, 0)) (by (with_reducible repeat (first | refine blk_drewN ?_ _ | refine blk_drew ?_ | refine blk_alloc ?_ _)); exact BK131.out) hg (Kd.R_ne HO156.out BK131.out (by decide))); have n1_ := Aside0.mk (blk_grown (g := gb132) (o := .cells #[.int .i64 a0_6, .string a0_7, .string a0_8, .slice A0_9 l0_9.length c0_9] 30 (0, 0)) (by (with_reducible repeat (first | refine blk_drewN ?_ _ | refine blk_drew ?_ | refine blk_alloc ?_ _)); exact BK132.out) hg (Kd.R_ne HO156.out BK132.out (by decide))); have n2_ := Aside0.mk (hb); have n3_ := Aside0.mk (ho); clear BK131; clear BK132; clear HB; clear HO156; have BK131 := n0_; have BK132 := n1_; have HB := n2_; have HO159 := n3_; clear n0_ n1_ n2_ n3_; clear ho hb hg hat))
                          go_ret
                          exact ⟨_, by first | rfl | (simp [errW_none, errW_some] <;> rfl) | (simp [*, errW_none, errW_some] <;> rfl), by (with_reducible repeat (first | apply Kd.R_alloc | apply Kd.R_drewN | apply Kd.R_drew)); exact HO159.out, by repeat (first | (with_reducible first | exact HB.out | apply below_alloc | apply pw_below_drewN | apply below_drew1 | refine below_set ?_ GE131.out | refine below_set ?_ GE132.out) | exact HB.out)⟩
                        · rw [if_neg c53] at H
                          exact absurd H (by simp)
                      · rw [if_neg c52] at H
                        have c52b0 : (a1.toList == ([117, 110, 112, 117, 108, 108] : List UInt8)) = false := beq_eq_false_iff_ne.mpr c52
                        have c52b1 : (a1.toList != ([117, 110, 112, 117, 108, 108] : List UInt8)) = true := bne_iff_ne.mpr c52
                        obtain ⟨y160, hy160⟩ : ∃ y_ : List ByteArray, y_ = (([a0_1] : List ByteArray)) := ⟨_, rfl⟩
                        replace H : (some y160) = some r := by first | (rw [hy160]; with_reducible exact H) | (have H2_ := (Option.bind_some _ _).symm.trans H; rw [hy160]; with_reducible exact H2_) | (have H2_ := (Option.bind_some _ _).symm.trans H; with_reducible exact H2_) | with_reducible exact H | (rw [hy160]; exact H) | exact H
                        have Ny160 := Aside0.mk hy160
                        clear hy160
                        obtain rfl := Option.some.inj H
                        have hnb60 := NB131_132.out
                        have hnc60 := NB132_131.out
                        obtain ⟨hcz61_0, hcz61_1, hcz61_2, hcz61_3, hcz61_4, hcz61_5, hcz61_6, hcz61_7, hcz61_8, hcz61_9, hfz61_0, hfz61_1, hfz61_2, hfz61_3, hfz61_4, hfz61_5, hfz61_6, hfz61_7, hfz61_8, hfz61_9⟩ := cells10 BK131.out
                        go_wp2_with (first | ((with_reducible refine gate_dst (N := 70) rfl ?_); refine Kd.R_lit Kd.string _ 9 ?hg (N := 70) ?hd (xs := ([a0_1] : List ByteArray)) (inner := [.string a0_1]) (ok := fun _ => True) (okp := fun _ => True) ?hr ?hp (fun _ hk => hk) trivial (Below.refl _ _) (Nat.le_refl _) (by simp) ?_; (case hd => rfl); (case hg => rfl); (case hr => first | (go_simp; done) | (go_simp; rfl)); (case hp => exact (Reps.one (show Kd.M Kd.string _ _ _ a0_1 [.string a0_1] from rfl) (Reps.none _ _))); intro v161 w62 ho63 hb hg_ hnew_; clear hg_ hnew_; (first | rw [← Ny160.out] at ho63 | (simp only [Int.reduceToNat] at ho63; rw [← Ny160.out] at ho63)); have n0_ := Aside0.mk (Kd.R_lower ho63 (below_size (by repeat (first | (with_reducible first | exact HB.out | apply below_alloc | apply pw_below_drewN | apply below_drew1 | refine below_set ?_ GE131.out | refine below_set ?_ GE132.out) | exact HB.out)))); have n1_ := Aside0.mk (blk_below (g := gb131) (o := .cells #[.int .i64 a0_0, .string a0_1, .string a0_2, .int .i64 a0_3, .string a0_4, .slice A0_5 l0_5.length c0_5, .int .i64 a0_6, .string a0_7, .string a0_8, .slice A0_9 l0_9.length c0_9] 34 (0, 0)) (by (with_reducible repeat (first | refine blk_drewN ?_ _ | refine blk_drew ?_ | refine blk_alloc ?_ _)); exact BK131.out) hb); have n2_ := Aside0.mk (blk_below (g := gb132) (o := .cells #[.int .i64 a0_6, .string a0_7, .string a0_8, .slice A0_9 l0_9.length c0_9] 30 (0, 0)) (by (with_reducible repeat (first | refine blk_drewN ?_ _ | refine blk_drew ?_ | refine blk_alloc ?_ _)); exact BK132.out) hb); have n3_ := Aside0.mk (below_step (by repeat (first | (with_reducible first | exact HB.out | apply below_alloc | apply pw_below_drewN | apply below_drew1 | refine below_set ?_ GE131.out | refine below_set ?_ GE132.out) | exact HB.out)) hb); clear BK131; clear BK132; clear HB; have HO162 := n0_; have BK131 := n1_; have BK132 := n2_; have HB := n3_; clear n0_ n1_ n2_ n3_; clear hb ho63))
                        go_ret
                        exact ⟨_, by first | rfl | (simp [errW_none, errW_some] <;> rfl) | (simp [*, errW_none, errW_some] <;> rfl), by (with_reducible repeat (first | apply Kd.R_alloc | apply Kd.R_drewN | apply Kd.R_drew)); exact HO162.out, by repeat (first | (with_reducible first | exact HB.out | apply below_alloc | apply pw_below_drewN | apply below_drew1 | refine below_set ?_ GE131.out | refine below_set ?_ GE132.out) | exact HB.out)⟩
/-! ### cmd_shapes: function 114 -/
def cmd_shapes.f  : Option ((List (S93))) := some (([(⟨(⟨#[105, 110, 105, 116]⟩ : ByteArray), 0, 0, 0, 1, false⟩ : S93), (⟨(⟨#[108, 111, 103]⟩ : ByteArray), 2, 0, 0, 1, false⟩ : S93), (⟨(⟨#[110, 101, 119]⟩ : ByteArray), 3, 0, 0, 1, false⟩ : S93), (⟨(⟨#[99, 111, 110, 102, 108, 105, 99, 116, 115]⟩ : ByteArray), 4, 0, 0, 1, false⟩ : S93), (⟨(⟨#[115, 104, 111, 119]⟩ : ByteArray), 5, 0, 0, 1, false⟩ : S93), (⟨(⟨#[99, 104, 101, 99, 107]⟩ : ByteArray), 6, 0, 0, 1, false⟩ : S93), (⟨(⟨#[112, 111, 119, 101, 114]⟩ : ByteArray), 7, 0, 0, 0, false⟩ : S93), (⟨(⟨#[109, 107, 100, 105, 114]⟩ : ByteArray), 1, 0, 0, 2, false⟩ : S93), (⟨(⟨#[119, 114, 105, 116, 101]⟩ : ByteArray), 1, 0, 1, 2, true⟩ : S93), (⟨(⟨#[114, 101, 109, 111, 118, 101]⟩ : ByteArray), 1, 0, 2, 2, false⟩ : S93), (⟨(⟨#[109, 111, 118, 101]⟩ : ByteArray), 1, 0, 3, 3, false⟩ : S93), (⟨(⟨#[114, 101, 99, 111, 114, 100]⟩ : ByteArray), 1, 1, 0, 2, false⟩ : S93), (⟨(⟨#[117, 110, 114, 101, 99, 111, 114, 100]⟩ : ByteArray), 1, 2, 0, 2, false⟩ : S93), (⟨(⟨#[112, 117, 108, 108]⟩ : ByteArray), 1, 3, 0, 2, true⟩ : S93), (⟨(⟨#[117, 110, 112, 117, 108, 108]⟩ : ByteArray), 1, 4, 0, 1, true⟩ : S93), (⟨(⟨#[114, 101, 118, 101, 114, 116]⟩ : ByteArray), 1, 5, 0, 1, false⟩ : S93), (⟨(⟨#[114, 101, 115, 111, 108, 118, 101]⟩ : ByteArray), 1, 6, 0, 1, false⟩ : S93)] : List (S93)))
set_option maxHeartbeats 8000000 in
set_option maxRecDepth 100000 in
theorem cmd_shapes.calls  (r : List (S93)) (w : World) (h : cmd_shapes.f  = some r) :
    Calls Tryd.prog 114 #[] w fun e w' => ∃ v0_ : Value, e = .returned (v0_) ∧ Kd.R k93 93 w' w.heap.size (fun _ => True) v0_ r ∧ Below w.heap.size w w' := by
  have hu93 := Tryd.underlying93
  have HB := Aside0.mk (Below.refl w.heap.size w)
  have H : (some (([(⟨(⟨#[105, 110, 105, 116]⟩ : ByteArray), 0, 0, 0, 1, false⟩ : S93), (⟨(⟨#[108, 111, 103]⟩ : ByteArray), 2, 0, 0, 1, false⟩ : S93), (⟨(⟨#[110, 101, 119]⟩ : ByteArray), 3, 0, 0, 1, false⟩ : S93), (⟨(⟨#[99, 111, 110, 102, 108, 105, 99, 116, 115]⟩ : ByteArray), 4, 0, 0, 1, false⟩ : S93), (⟨(⟨#[115, 104, 111, 119]⟩ : ByteArray), 5, 0, 0, 1, false⟩ : S93), (⟨(⟨#[99, 104, 101, 99, 107]⟩ : ByteArray), 6, 0, 0, 1, false⟩ : S93), (⟨(⟨#[112, 111, 119, 101, 114]⟩ : ByteArray), 7, 0, 0, 0, false⟩ : S93), (⟨(⟨#[109, 107, 100, 105, 114]⟩ : ByteArray), 1, 0, 0, 2, false⟩ : S93), (⟨(⟨#[119, 114, 105, 116, 101]⟩ : ByteArray), 1, 0, 1, 2, true⟩ : S93), (⟨(⟨#[114, 101, 109, 111, 118, 101]⟩ : ByteArray), 1, 0, 2, 2, false⟩ : S93), (⟨(⟨#[109, 111, 118, 101]⟩ : ByteArray), 1, 0, 3, 3, false⟩ : S93), (⟨(⟨#[114, 101, 99, 111, 114, 100]⟩ : ByteArray), 1, 1, 0, 2, false⟩ : S93), (⟨(⟨#[117, 110, 114, 101, 99, 111, 114, 100]⟩ : ByteArray), 1, 2, 0, 2, false⟩ : S93), (⟨(⟨#[112, 117, 108, 108]⟩ : ByteArray), 1, 3, 0, 2, true⟩ : S93), (⟨(⟨#[117, 110, 112, 117, 108, 108]⟩ : ByteArray), 1, 4, 0, 1, true⟩ : S93), (⟨(⟨#[114, 101, 118, 101, 114, 116]⟩ : ByteArray), 1, 5, 0, 1, false⟩ : S93), (⟨(⟨#[114, 101, 115, 111, 108, 118, 101]⟩ : ByteArray), 1, 6, 0, 1, false⟩ : S93)] : List (S93)))) = some r := h
  clear h
  obtain ⟨y163, hy163⟩ : ∃ y_ : List (S93), y_ = (([(⟨(⟨#[105, 110, 105, 116]⟩ : ByteArray), 0, 0, 0, 1, false⟩ : S93), (⟨(⟨#[108, 111, 103]⟩ : ByteArray), 2, 0, 0, 1, false⟩ : S93), (⟨(⟨#[110, 101, 119]⟩ : ByteArray), 3, 0, 0, 1, false⟩ : S93), (⟨(⟨#[99, 111, 110, 102, 108, 105, 99, 116, 115]⟩ : ByteArray), 4, 0, 0, 1, false⟩ : S93), (⟨(⟨#[115, 104, 111, 119]⟩ : ByteArray), 5, 0, 0, 1, false⟩ : S93), (⟨(⟨#[99, 104, 101, 99, 107]⟩ : ByteArray), 6, 0, 0, 1, false⟩ : S93), (⟨(⟨#[112, 111, 119, 101, 114]⟩ : ByteArray), 7, 0, 0, 0, false⟩ : S93), (⟨(⟨#[109, 107, 100, 105, 114]⟩ : ByteArray), 1, 0, 0, 2, false⟩ : S93), (⟨(⟨#[119, 114, 105, 116, 101]⟩ : ByteArray), 1, 0, 1, 2, true⟩ : S93), (⟨(⟨#[114, 101, 109, 111, 118, 101]⟩ : ByteArray), 1, 0, 2, 2, false⟩ : S93), (⟨(⟨#[109, 111, 118, 101]⟩ : ByteArray), 1, 0, 3, 3, false⟩ : S93), (⟨(⟨#[114, 101, 99, 111, 114, 100]⟩ : ByteArray), 1, 1, 0, 2, false⟩ : S93), (⟨(⟨#[117, 110, 114, 101, 99, 111, 114, 100]⟩ : ByteArray), 1, 2, 0, 2, false⟩ : S93), (⟨(⟨#[112, 117, 108, 108]⟩ : ByteArray), 1, 3, 0, 2, true⟩ : S93), (⟨(⟨#[117, 110, 112, 117, 108, 108]⟩ : ByteArray), 1, 4, 0, 1, true⟩ : S93), (⟨(⟨#[114, 101, 118, 101, 114, 116]⟩ : ByteArray), 1, 5, 0, 1, false⟩ : S93), (⟨(⟨#[114, 101, 115, 111, 108, 118, 101]⟩ : ByteArray), 1, 6, 0, 1, false⟩ : S93)] : List (S93))) := ⟨_, rfl⟩
  replace H : (some y163) = some r := by first | (rw [hy163]; with_reducible exact H) | (have H2_ := (Option.bind_some _ _).symm.trans H; rw [hy163]; with_reducible exact H2_) | (have H2_ := (Option.bind_some _ _).symm.trans H; with_reducible exact H2_) | with_reducible exact H | (rw [hy163]; exact H) | exact H
  have Ny163 := Aside0.mk hy163
  clear hy163
  obtain rfl := Option.some.inj H
  go_enter Tryd.func114, Tryd.ntmps114
  go_wp2_with (first | ((with_reducible refine gate_dst (N := 18) rfl ?_); refine Kd.R_lit k93 _ 93 ?hg (N := 18) ?hd (xs := ([(⟨(⟨#[105, 110, 105, 116]⟩ : ByteArray), 0, 0, 0, 1, false⟩ : S93), (⟨(⟨#[108, 111, 103]⟩ : ByteArray), 2, 0, 0, 1, false⟩ : S93), (⟨(⟨#[110, 101, 119]⟩ : ByteArray), 3, 0, 0, 1, false⟩ : S93), (⟨(⟨#[99, 111, 110, 102, 108, 105, 99, 116, 115]⟩ : ByteArray), 4, 0, 0, 1, false⟩ : S93), (⟨(⟨#[115, 104, 111, 119]⟩ : ByteArray), 5, 0, 0, 1, false⟩ : S93), (⟨(⟨#[99, 104, 101, 99, 107]⟩ : ByteArray), 6, 0, 0, 1, false⟩ : S93), (⟨(⟨#[112, 111, 119, 101, 114]⟩ : ByteArray), 7, 0, 0, 0, false⟩ : S93), (⟨(⟨#[109, 107, 100, 105, 114]⟩ : ByteArray), 1, 0, 0, 2, false⟩ : S93), (⟨(⟨#[119, 114, 105, 116, 101]⟩ : ByteArray), 1, 0, 1, 2, true⟩ : S93), (⟨(⟨#[114, 101, 109, 111, 118, 101]⟩ : ByteArray), 1, 0, 2, 2, false⟩ : S93), (⟨(⟨#[109, 111, 118, 101]⟩ : ByteArray), 1, 0, 3, 3, false⟩ : S93), (⟨(⟨#[114, 101, 99, 111, 114, 100]⟩ : ByteArray), 1, 1, 0, 2, false⟩ : S93), (⟨(⟨#[117, 110, 114, 101, 99, 111, 114, 100]⟩ : ByteArray), 1, 2, 0, 2, false⟩ : S93), (⟨(⟨#[112, 117, 108, 108]⟩ : ByteArray), 1, 3, 0, 2, true⟩ : S93), (⟨(⟨#[117, 110, 112, 117, 108, 108]⟩ : ByteArray), 1, 4, 0, 1, true⟩ : S93), (⟨(⟨#[114, 101, 118, 101, 114, 116]⟩ : ByteArray), 1, 5, 0, 1, false⟩ : S93), (⟨(⟨#[114, 101, 115, 111, 108, 118, 101]⟩ : ByteArray), 1, 6, 0, 1, false⟩ : S93)] : List (S93))) (inner := [.string (⟨#[105, 110, 105, 116]⟩ : ByteArray), .int .i64 0, .int .i64 0, .int .i64 0, .int .i64 1, .bool false, .string (⟨#[108, 111, 103]⟩ : ByteArray), .int .i64 2, .int .i64 0, .int .i64 0, .int .i64 1, .bool false, .string (⟨#[110, 101, 119]⟩ : ByteArray), .int .i64 3, .int .i64 0, .int .i64 0, .int .i64 1, .bool false, .string (⟨#[99, 111, 110, 102, 108, 105, 99, 116, 115]⟩ : ByteArray), .int .i64 4, .int .i64 0, .int .i64 0, .int .i64 1, .bool false, .string (⟨#[115, 104, 111, 119]⟩ : ByteArray), .int .i64 5, .int .i64 0, .int .i64 0, .int .i64 1, .bool false, .string (⟨#[99, 104, 101, 99, 107]⟩ : ByteArray), .int .i64 6, .int .i64 0, .int .i64 0, .int .i64 1, .bool false, .string (⟨#[112, 111, 119, 101, 114]⟩ : ByteArray), .int .i64 7, .int .i64 0, .int .i64 0, .int .i64 0, .bool false, .string (⟨#[109, 107, 100, 105, 114]⟩ : ByteArray), .int .i64 1, .int .i64 0, .int .i64 0, .int .i64 2, .bool false, .string (⟨#[119, 114, 105, 116, 101]⟩ : ByteArray), .int .i64 1, .int .i64 0, .int .i64 1, .int .i64 2, .bool true, .string (⟨#[114, 101, 109, 111, 118, 101]⟩ : ByteArray), .int .i64 1, .int .i64 0, .int .i64 2, .int .i64 2, .bool false, .string (⟨#[109, 111, 118, 101]⟩ : ByteArray), .int .i64 1, .int .i64 0, .int .i64 3, .int .i64 3, .bool false, .string (⟨#[114, 101, 99, 111, 114, 100]⟩ : ByteArray), .int .i64 1, .int .i64 1, .int .i64 0, .int .i64 2, .bool false, .string (⟨#[117, 110, 114, 101, 99, 111, 114, 100]⟩ : ByteArray), .int .i64 1, .int .i64 2, .int .i64 0, .int .i64 2, .bool false, .string (⟨#[112, 117, 108, 108]⟩ : ByteArray), .int .i64 1, .int .i64 3, .int .i64 0, .int .i64 2, .bool true, .string (⟨#[117, 110, 112, 117, 108, 108]⟩ : ByteArray), .int .i64 1, .int .i64 4, .int .i64 0, .int .i64 1, .bool true, .string (⟨#[114, 101, 118, 101, 114, 116]⟩ : ByteArray), .int .i64 1, .int .i64 5, .int .i64 0, .int .i64 1, .bool false, .string (⟨#[114, 101, 115, 111, 108, 118, 101]⟩ : ByteArray), .int .i64 1, .int .i64 6, .int .i64 0, .int .i64 1, .bool false]) (ok := fun _ => True) (okp := fun _ => True) ?hr ?hp (fun _ hk => hk) trivial (Below.refl _ _) (Nat.le_refl _) (by simp) ?_; (case hd => rfl); (case hg => rfl); (case hr => first | (go_simp; done) | (go_simp; rfl)); (case hp => exact (Reps.c6 (show Kd.M k93 _ _ _ (⟨(⟨#[105, 110, 105, 116]⟩ : ByteArray), 0, 0, 0, 1, false⟩ : S93) [.string (⟨#[105, 110, 105, 116]⟩ : ByteArray), .int .i64 0, .int .i64 0, .int .i64 0, .int .i64 1, .bool false] from (k93_mkM _ _ _ (⟨(⟨#[105, 110, 105, 116]⟩ : ByteArray), 0, 0, 0, 1, false⟩ : S93) )) (Reps.c6 (show Kd.M k93 _ _ _ (⟨(⟨#[108, 111, 103]⟩ : ByteArray), 2, 0, 0, 1, false⟩ : S93) [.string (⟨#[108, 111, 103]⟩ : ByteArray), .int .i64 2, .int .i64 0, .int .i64 0, .int .i64 1, .bool false] from (k93_mkM _ _ _ (⟨(⟨#[108, 111, 103]⟩ : ByteArray), 2, 0, 0, 1, false⟩ : S93) )) (Reps.c6 (show Kd.M k93 _ _ _ (⟨(⟨#[110, 101, 119]⟩ : ByteArray), 3, 0, 0, 1, false⟩ : S93) [.string (⟨#[110, 101, 119]⟩ : ByteArray), .int .i64 3, .int .i64 0, .int .i64 0, .int .i64 1, .bool false] from (k93_mkM _ _ _ (⟨(⟨#[110, 101, 119]⟩ : ByteArray), 3, 0, 0, 1, false⟩ : S93) )) (Reps.c6 (show Kd.M k93 _ _ _ (⟨(⟨#[99, 111, 110, 102, 108, 105, 99, 116, 115]⟩ : ByteArray), 4, 0, 0, 1, false⟩ : S93) [.string (⟨#[99, 111, 110, 102, 108, 105, 99, 116, 115]⟩ : ByteArray), .int .i64 4, .int .i64 0, .int .i64 0, .int .i64 1, .bool false] from (k93_mkM _ _ _ (⟨(⟨#[99, 111, 110, 102, 108, 105, 99, 116, 115]⟩ : ByteArray), 4, 0, 0, 1, false⟩ : S93) )) (Reps.c6 (show Kd.M k93 _ _ _ (⟨(⟨#[115, 104, 111, 119]⟩ : ByteArray), 5, 0, 0, 1, false⟩ : S93) [.string (⟨#[115, 104, 111, 119]⟩ : ByteArray), .int .i64 5, .int .i64 0, .int .i64 0, .int .i64 1, .bool false] from (k93_mkM _ _ _ (⟨(⟨#[115, 104, 111, 119]⟩ : ByteArray), 5, 0, 0, 1, false⟩ : S93) )) (Reps.c6 (show Kd.M k93 _ _ _ (⟨(⟨#[99, 104, 101, 99, 107]⟩ : ByteArray), 6, 0, 0, 1, false⟩ : S93) [.string (⟨#[99, 104, 101, 99, 107]⟩ : ByteArray), .int .i64 6, .int .i64 0, .int .i64 0, .int .i64 1, .bool false] from (k93_mkM _ _ _ (⟨(⟨#[99, 104, 101, 99, 107]⟩ : ByteArray), 6, 0, 0, 1, false⟩ : S93) )) (Reps.c6 (show Kd.M k93 _ _ _ (⟨(⟨#[112, 111, 119, 101, 114]⟩ : ByteArray), 7, 0, 0, 0, false⟩ : S93) [.string (⟨#[112, 111, 119, 101, 114]⟩ : ByteArray), .int .i64 7, .int .i64 0, .int .i64 0, .int .i64 0, .bool false] from (k93_mkM _ _ _ (⟨(⟨#[112, 111, 119, 101, 114]⟩ : ByteArray), 7, 0, 0, 0, false⟩ : S93) )) (Reps.c6 (show Kd.M k93 _ _ _ (⟨(⟨#[109, 107, 100, 105, 114]⟩ : ByteArray), 1, 0, 0, 2, false⟩ : S93) [.string (⟨#[109, 107, 100, 105, 114]⟩ : ByteArray), .int .i64 1, .int .i64 0, .int .i64 0, .int .i64 2, .bool false] from (k93_mkM _ _ _ (⟨(⟨#[109, 107, 100, 105, 114]⟩ : ByteArray), 1, 0, 0, 2, false⟩ : S93) )) (Reps.c6 (show Kd.M k93 _ _ _ (⟨(⟨#[119, 114, 105, 116, 101]⟩ : ByteArray), 1, 0, 1, 2, true⟩ : S93) [.string (⟨#[119, 114, 105, 116, 101]⟩ : ByteArray), .int .i64 1, .int .i64 0, .int .i64 1, .int .i64 2, .bool true] from (k93_mkM _ _ _ (⟨(⟨#[119, 114, 105, 116, 101]⟩ : ByteArray), 1, 0, 1, 2, true⟩ : S93) )) (Reps.c6 (show Kd.M k93 _ _ _ (⟨(⟨#[114, 101, 109, 111, 118, 101]⟩ : ByteArray), 1, 0, 2, 2, false⟩ : S93) [.string (⟨#[114, 101, 109, 111, 118, 101]⟩ : ByteArray), .int .i64 1, .int .i64 0, .int .i64 2, .int .i64 2, .bool false] from (k93_mkM _ _ _ (⟨(⟨#[114, 101, 109, 111, 118, 101]⟩ : ByteArray), 1, 0, 2, 2, false⟩ : S93) )) (Reps.c6 (show Kd.M k93 _ _ _ (⟨(⟨#[109, 111, 118, 101]⟩ : ByteArray), 1, 0, 3, 3, false⟩ : S93) [.string (⟨#[109, 111, 118, 101]⟩ : ByteArray), .int .i64 1, .int .i64 0, .int .i64 3, .int .i64 3, .bool false] from (k93_mkM _ _ _ (⟨(⟨#[109, 111, 118, 101]⟩ : ByteArray), 1, 0, 3, 3, false⟩ : S93) )) (Reps.c6 (show Kd.M k93 _ _ _ (⟨(⟨#[114, 101, 99, 111, 114, 100]⟩ : ByteArray), 1, 1, 0, 2, false⟩ : S93) [.string (⟨#[114, 101, 99, 111, 114, 100]⟩ : ByteArray), .int .i64 1, .int .i64 1, .int .i64 0, .int .i64 2, .bool false] from (k93_mkM _ _ _ (⟨(⟨#[114, 101, 99, 111, 114, 100]⟩ : ByteArray), 1, 1, 0, 2, false⟩ : S93) )) (Reps.c6 (show Kd.M k93 _ _ _ (⟨(⟨#[117, 110, 114, 101, 99, 111, 114, 100]⟩ : ByteArray), 1, 2, 0, 2, false⟩ : S93) [.string (⟨#[117, 110, 114, 101, 99, 111, 114, 100]⟩ : ByteArray), .int .i64 1, .int .i64 2, .int .i64 0, .int .i64 2, .bool false] from (k93_mkM _ _ _ (⟨(⟨#[117, 110, 114, 101, 99, 111, 114, 100]⟩ : ByteArray), 1, 2, 0, 2, false⟩ : S93) )) (Reps.c6 (show Kd.M k93 _ _ _ (⟨(⟨#[112, 117, 108, 108]⟩ : ByteArray), 1, 3, 0, 2, true⟩ : S93) [.string (⟨#[112, 117, 108, 108]⟩ : ByteArray), .int .i64 1, .int .i64 3, .int .i64 0, .int .i64 2, .bool true] from (k93_mkM _ _ _ (⟨(⟨#[112, 117, 108, 108]⟩ : ByteArray), 1, 3, 0, 2, true⟩ : S93) )) (Reps.c6 (show Kd.M k93 _ _ _ (⟨(⟨#[117, 110, 112, 117, 108, 108]⟩ : ByteArray), 1, 4, 0, 1, true⟩ : S93) [.string (⟨#[117, 110, 112, 117, 108, 108]⟩ : ByteArray), .int .i64 1, .int .i64 4, .int .i64 0, .int .i64 1, .bool true] from (k93_mkM _ _ _ (⟨(⟨#[117, 110, 112, 117, 108, 108]⟩ : ByteArray), 1, 4, 0, 1, true⟩ : S93) )) (Reps.c6 (show Kd.M k93 _ _ _ (⟨(⟨#[114, 101, 118, 101, 114, 116]⟩ : ByteArray), 1, 5, 0, 1, false⟩ : S93) [.string (⟨#[114, 101, 118, 101, 114, 116]⟩ : ByteArray), .int .i64 1, .int .i64 5, .int .i64 0, .int .i64 1, .bool false] from (k93_mkM _ _ _ (⟨(⟨#[114, 101, 118, 101, 114, 116]⟩ : ByteArray), 1, 5, 0, 1, false⟩ : S93) )) (Reps.c6 (show Kd.M k93 _ _ _ (⟨(⟨#[114, 101, 115, 111, 108, 118, 101]⟩ : ByteArray), 1, 6, 0, 1, false⟩ : S93) [.string (⟨#[114, 101, 115, 111, 108, 118, 101]⟩ : ByteArray), .int .i64 1, .int .i64 6, .int .i64 0, .int .i64 1, .bool false] from (k93_mkM _ _ _ (⟨(⟨#[114, 101, 115, 111, 108, 118, 101]⟩ : ByteArray), 1, 6, 0, 1, false⟩ : S93) )) (Reps.none _ _))))))))))))))))))); intro v164 w1 ho2 hb hg_ hnew_; clear hg_ hnew_; (first | rw [← Ny163.out] at ho2 | (simp only [Int.reduceToNat] at ho2; rw [← Ny163.out] at ho2)); have n0_ := Aside0.mk (Kd.R_lower ho2 (below_size (by repeat (first | (with_reducible first | exact HB.out | apply below_alloc | apply pw_below_drewN | apply below_drew1) | exact HB.out)))); have n1_ := Aside0.mk (below_step (by repeat (first | (with_reducible first | exact HB.out | apply below_alloc | apply pw_below_drewN | apply below_drew1) | exact HB.out)) hb); clear HB; have HO165 := n0_; have HB := n1_; clear n0_ n1_; clear hb ho2))
  go_ret
  exact ⟨_, by first | rfl | (simp [errW_none, errW_some] <;> rfl) | (simp [*, errW_none, errW_some] <;> rfl), by (with_reducible repeat (first | apply Kd.R_alloc | apply Kd.R_drewN | apply Kd.R_drew)); exact HO165.out, by repeat (first | (with_reducible first | exact HB.out | apply below_alloc | apply pw_below_drewN | apply below_drew1) | exact HB.out)⟩

end Go.Proofs.YtloibeefopdhpaaDoor.G
