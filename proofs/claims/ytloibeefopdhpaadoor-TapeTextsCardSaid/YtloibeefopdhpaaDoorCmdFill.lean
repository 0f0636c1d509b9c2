-- Words of the kit's print (as it laid them for this seat); what this claim does not use is left out.
import Derived.Test.YtloibeefopdhpaaDoorG12
import Derived.Deep.RegionLaw
import Derived.Outline
set_option linter.unusedVariables false
namespace Go.Proofs.YtloibeefopdhpaaDoor.G
open Go.RowKit Go.Proofs.YtloibeefopdhpaaDoorW.PrintWords Go.Proofs.YtloibeefopdhpaaDoorW.PrintLast Go.Proofs.YtloibeefopdhpaaDoorW.PrintMore Go.Proofs.YtloibeefopdhpaaDoor.Plain
theorem put10 {W : World} {g t : Nat} {u0 u1 u2 u3 u4 u5 u6 u7 u8 u9 c0 c1 c2 c3 c4 c5 c6 c7 c8 c9 : Value} (h : W.heap[g]? = some (.cells #[c0, c1, c2, c3, c4, c5, c6, c7, c8, c9] t (0, 0))) :
    ((((((((((W.setCell ⟨g, 0, none⟩ u0).setCell ⟨g, 1, none⟩ u1).setCell ⟨g, 2, none⟩ u2).setCell ⟨g, 3, none⟩ u3).setCell ⟨g, 4, none⟩ u4).setCell ⟨g, 5, none⟩ u5).setCell ⟨g, 6, none⟩ u6).setCell ⟨g, 7, none⟩ u7).setCell ⟨g, 8, none⟩ u8).setCell ⟨g, 9, none⟩ u9).heap[g]? = some (.cells #[u0, u1, u2, u3, u4, u5, u6, u7, u8, u9] t (0, 0)) := by
  refine blk_put (cs := #[u0, u1, u2, u3, u4, u5, u6, u7, u8, c9]) ?_ 9 _ rfl
  refine blk_put (cs := #[u0, u1, u2, u3, u4, u5, u6, u7, c8, c9]) ?_ 8 _ rfl
  refine blk_put (cs := #[u0, u1, u2, u3, u4, u5, u6, c7, c8, c9]) ?_ 7 _ rfl
  refine blk_put (cs := #[u0, u1, u2, u3, u4, u5, c6, c7, c8, c9]) ?_ 6 _ rfl
  refine blk_put (cs := #[u0, u1, u2, u3, u4, c5, c6, c7, c8, c9]) ?_ 5 _ rfl
  refine blk_put (cs := #[u0, u1, u2, u3, c4, c5, c6, c7, c8, c9]) ?_ 4 _ rfl
  refine blk_put (cs := #[u0, u1, u2, c3, c4, c5, c6, c7, c8, c9]) ?_ 3 _ rfl
  refine blk_put (cs := #[u0, u1, c2, c3, c4, c5, c6, c7, c8, c9]) ?_ 2 _ rfl
  refine blk_put (cs := #[u0, c1, c2, c3, c4, c5, c6, c7, c8, c9]) ?_ 1 _ rfl
  exact blk_put h 0 _ rfl
theorem below10 {W0 W : World} {g : Nat} {u0 u1 u2 u3 u4 u5 u6 u7 u8 u9 : Value} (h : Below W0.heap.size W0 W) (hg : W0.heap.size ≤ g) : Below W0.heap.size W0 ((((((((((W.setCell ⟨g, 0, none⟩ u0).setCell ⟨g, 1, none⟩ u1).setCell ⟨g, 2, none⟩ u2).setCell ⟨g, 3, none⟩ u3).setCell ⟨g, 4, none⟩ u4).setCell ⟨g, 5, none⟩ u5).setCell ⟨g, 6, none⟩ u6).setCell ⟨g, 7, none⟩ u7).setCell ⟨g, 8, none⟩ u8).setCell ⟨g, 9, none⟩ u9) :=
  below_set (below_set (below_set (below_set (below_set (below_set (below_set (below_set (below_set (below_set h hg) hg) hg) hg) hg) hg) hg) hg) hg) hg
theorem R10 {α : Type} {d : Kd α} {e base g : Nat} {W : World} {ok : Nat → Prop} {v : Value} {xs : List α} {u0 u1 u2 u3 u4 u5 u6 u7 u8 u9 : Value} (h : d.R e W base ok v xs) (hok : ∀ k, ok k → k ≠ g) : d.R e ((((((((((W.setCell ⟨g, 0, none⟩ u0).setCell ⟨g, 1, none⟩ u1).setCell ⟨g, 2, none⟩ u2).setCell ⟨g, 3, none⟩ u3).setCell ⟨g, 4, none⟩ u4).setCell ⟨g, 5, none⟩ u5).setCell ⟨g, 6, none⟩ u6).setCell ⟨g, 7, none⟩ u7).setCell ⟨g, 8, none⟩ u8).setCell ⟨g, 9, none⟩ u9) base ok v xs :=
  Kd.R_far (Kd.R_far (Kd.R_far (Kd.R_far (Kd.R_far (Kd.R_far (Kd.R_far (Kd.R_far (Kd.R_far (Kd.R_far h hok _) hok _) hok _) hok _) hok _) hok _) hok _) hok _) hok _) hok _
theorem row_cells {w : World} {A : Option Addr} {l : List ByteArray} (hr : Kd.C Kd.string w A l.length l) (h : 0 < l.length) :
    ∃ bk o, A = some ⟨bk, o, none⟩ ∧ bk < w.heap.size ∧ ∀ j : Nat, j < l.length → w.cell? ⟨bk, o + j, none⟩ = some (.string (rdOf ByteArray.empty l (j : Int))) := by
  obtain ⟨ad, e0, hx0⟩ := Kd.at_string hr 0 (by omega) (by omega)
  subst e0
  have hsp : ad.spot = none := by
    have := World.cell?_spot hx0
    simpa [Addr.add] using this
  obtain ⟨bk, o, sp⟩ := ad
  simp only at hsp
  subst hsp
  refine ⟨bk, o, rfl, World.block_lt_of_cell? w _ hx0, fun j hj => ?_⟩
  obtain ⟨ad2, e2, hx⟩ := Kd.at_string hr (j : Int) (by omega) (by omega)
  injection e2 with e2
  subst e2
  rw [Int.toNat_natCast, add_at] at hx
  exact hx
def cmd_fill.f (a0_0 : ByteArray) (a0_1 : Int) (a0_2 : Int) (a0_3 : Int) (a0_4 : Int) (a0_5 : Bool) (l1 : List ByteArray) : Option (Int × ByteArray × ByteArray × Int × ByteArray × List ByteArray × Int × ByteArray × ByteArray × List ByteArray) :=
  if a0_0.toList = ([112, 111, 119, 101, 114] : List UInt8) then (some (a0_1, (⟨#[]⟩ : ByteArray), (⟨#[]⟩ : ByteArray), a0_2, (⟨#[]⟩ : ByteArray), ([] : List ByteArray), a0_3, (⟨#[]⟩ : ByteArray), (⟨#[]⟩ : ByteArray), ([] : List ByteArray))) else
  if a0_0.toList = ([109, 111, 118, 101] : List UInt8) then (if 3 ≤ l1.length then some (a0_1, rdOf ByteArray.empty l1 0, (⟨#[]⟩ : ByteArray), a0_2, (⟨#[]⟩ : ByteArray), ([] : List ByteArray), a0_3, rdOf ByteArray.empty l1 1, rdOf ByteArray.empty l1 2, ([] : List ByteArray)) else none) else
  if a0_0.toList = ([109, 107, 100, 105, 114] : List UInt8) then (if 2 ≤ l1.length then some (a0_1, rdOf ByteArray.empty l1 0, (⟨#[]⟩ : ByteArray), a0_2, (⟨#[]⟩ : ByteArray), ([] : List ByteArray), a0_3, rdOf ByteArray.empty l1 1, (⟨#[]⟩ : ByteArray), ([] : List ByteArray)) else none) else
  if a0_0.toList = ([114, 101, 109, 111, 118, 101] : List UInt8) then (if 2 ≤ l1.length then some (a0_1, rdOf ByteArray.empty l1 0, (⟨#[]⟩ : ByteArray), a0_2, (⟨#[]⟩ : ByteArray), ([] : List ByteArray), a0_3, rdOf ByteArray.empty l1 1, (⟨#[]⟩ : ByteArray), ([] : List ByteArray)) else none) else
  if a0_0.toList = ([119, 114, 105, 116, 101] : List UInt8) then (if 2 ≤ l1.length then (if (l1.drop 2).length * 16 ≤ 140737488355328 then some (a0_1, rdOf ByteArray.empty l1 0, (⟨#[]⟩ : ByteArray), a0_2, (⟨#[]⟩ : ByteArray), ([] : List ByteArray), a0_3, rdOf ByteArray.empty l1 1, (⟨#[]⟩ : ByteArray), l1.drop 2) else none) else none) else
  if a0_0.toList = ([114, 101, 99, 111, 114, 100] : List UInt8) then (if 2 ≤ l1.length then some (a0_1, rdOf ByteArray.empty l1 0, (⟨#[]⟩ : ByteArray), a0_2, rdOf ByteArray.empty l1 1, ([] : List ByteArray), a0_3, (⟨#[]⟩ : ByteArray), (⟨#[]⟩ : ByteArray), ([] : List ByteArray)) else none) else
  if a0_0.toList = ([117, 110, 114, 101, 99, 111, 114, 100] : List UInt8) then (if 2 ≤ l1.length then some (a0_1, rdOf ByteArray.empty l1 0, (⟨#[]⟩ : ByteArray), a0_2, rdOf ByteArray.empty l1 1, ([] : List ByteArray), a0_3, (⟨#[]⟩ : ByteArray), (⟨#[]⟩ : ByteArray), ([] : List ByteArray)) else none) else
  if a0_0.toList = ([112, 117, 108, 108] : List UInt8) then (if 2 ≤ l1.length then (if (l1.drop 2).length * 16 ≤ 140737488355328 then some (a0_1, rdOf ByteArray.empty l1 0, rdOf ByteArray.empty l1 1, a0_2, (⟨#[]⟩ : ByteArray), l1.drop 2, a0_3, (⟨#[]⟩ : ByteArray), (⟨#[]⟩ : ByteArray), ([] : List ByteArray)) else none) else none) else
  if a0_0.toList = ([117, 110, 112, 117, 108, 108] : List UInt8) then (if 1 ≤ l1.length then (if (l1.drop 1).length * 16 ≤ 140737488355328 then some (a0_1, rdOf ByteArray.empty l1 0, (⟨#[]⟩ : ByteArray), a0_2, (⟨#[]⟩ : ByteArray), l1.drop 1, a0_3, (⟨#[]⟩ : ByteArray), (⟨#[]⟩ : ByteArray), ([] : List ByteArray)) else none) else none) else
  (if 1 ≤ l1.length then some (a0_1, rdOf ByteArray.empty l1 0, (⟨#[]⟩ : ByteArray), a0_2, (⟨#[]⟩ : ByteArray), ([] : List ByteArray), a0_3, (⟨#[]⟩ : ByteArray), (⟨#[]⟩ : ByteArray), ([] : List ByteArray)) else none)
set_option maxHeartbeats 8000000 in
set_option maxRecDepth 100000 in
theorem cmd_fill.calls (a0_0 : ByteArray) (a0_1 : Int) (a0_2 : Int) (a0_3 : Int) (a0_4 : Int) (a0_5 : Bool) (A1 : Option Addr) (c1 : Nat) (l1 : List ByteArray) (r1 : Int) (r2 : ByteArray) (r3 : ByteArray) (r4 : Int) (r5 : ByteArray) (r6 : List ByteArray) (r7 : Int) (r8 : ByteArray) (r9 : ByteArray) (r10 : List ByteArray) (w : World) (hr1 : Kd.C Kd.string w A1 l1.length l1) (hc1 : l1.length ≤ c1) (h : cmd_fill.f a0_0 a0_1 a0_2 a0_3 a0_4 a0_5 l1 = some (r1, r2, r3, r4, r5, r6, r7, r8, r9, r10)) :
    Calls Tryd.prog 66 #[.agg #[.string a0_0, .int .i64 a0_1, .int .i64 a0_2, .int .i64 a0_3, .int .i64 a0_4, .bool a0_5], .slice A1 l1.length c1] w fun e w' => ∃ v5_ v9_ : Value, e = .returned (.agg #[.int .i64 r1, .string r2, .string r3, .int .i64 r4, .string r5, v5_, .int .i64 r7, .string r8, .string r9, v9_]) ∧ Kd.R Kd.string 9 w' w.heap.size (fun k_ => some k_ ≠ (v9_ : Value).ownBlock) v5_ r6 ∧ Kd.R Kd.string 9 w' w.heap.size (fun k_ => some k_ ≠ (v5_ : Value).ownBlock) v9_ r10 ∧ Below w.heap.size w w' := by
  go_enter Tryd.func66, Tryd.ntmps66
  go_upto_region 2 with (fail)
  obtain ⟨W, hW⟩ : ∃ W, W = (((w.alloc (.cells #[.string a0_0, .int .i64 a0_1, .int .i64 a0_2, .int .i64 a0_3, .int .i64 a0_4, .bool a0_5] 93)).alloc (.cells #[.int .i64 0, .string ⟨#[]⟩, .string ⟨#[]⟩, .int .i64 0, .string ⟨#[]⟩, .slice none 0 0, .int .i64 0, .string ⟨#[]⟩, .string ⟨#[]⟩, .slice none 0 0] 34)).alloc (.cells #[.int .i64 a0_1, .string ⟨#[]⟩, .string ⟨#[]⟩, .int .i64 a0_2, .string ⟨#[]⟩, .slice none 0 0, .int .i64 a0_3, .string ⟨#[]⟩, .string ⟨#[]⟩, .slice none 0 0] 34)) := ⟨_, rfl⟩
  have f2 : W.cell? ⟨w.heap.size, 0, none⟩ = some (.string a0_0) := by rw [hW]; exact (blk_cell (blk_alloc (blk_alloc (heap_alloc_new w _) _) _) 0).trans rfl
  have q4 : W.heap[w.heap.size + 1]? = some (.cells #[.int .i64 0, .string ⟨#[]⟩, .string ⟨#[]⟩, .int .i64 0, .string ⟨#[]⟩, .slice none 0 0, .int .i64 0, .string ⟨#[]⟩, .string ⟨#[]⟩, .slice none 0 0] 34 (0, 0)) := by
    rw [hW]
    refine blk_alloc ?_ _
    have := heap_alloc_new (w.alloc (.cells #[.string a0_0, .int .i64 a0_1, .int .i64 a0_2, .int .i64 a0_3, .int .i64 a0_4, .bool a0_5] 93)) (.cells #[.int .i64 0, .string ⟨#[]⟩, .string ⟨#[]⟩, .int .i64 0, .string ⟨#[]⟩, .slice none 0 0, .int .i64 0, .string ⟨#[]⟩, .string ⟨#[]⟩, .slice none 0 0] 34)
    simpa using this
  have q5 : W.heap[w.heap.size + 1 + 1]? = some (.cells #[.int .i64 a0_1, .string ⟨#[]⟩, .string ⟨#[]⟩, .int .i64 a0_2, .string ⟨#[]⟩, .slice none 0 0, .int .i64 a0_3, .string ⟨#[]⟩, .string ⟨#[]⟩, .slice none 0 0] 34 (0, 0)) := by
    rw [hW]
    have := heap_alloc_new ((w.alloc (.cells #[.string a0_0, .int .i64 a0_1, .int .i64 a0_2, .int .i64 a0_3, .int .i64 a0_4, .bool a0_5] 93)).alloc (.cells #[.int .i64 0, .string ⟨#[]⟩, .string ⟨#[]⟩, .int .i64 0, .string ⟨#[]⟩, .slice none 0 0, .int .i64 0, .string ⟨#[]⟩, .string ⟨#[]⟩, .slice none 0 0] 34)) (.cells #[.int .i64 a0_1, .string ⟨#[]⟩, .string ⟨#[]⟩, .int .i64 a0_2, .string ⟨#[]⟩, .slice none 0 0, .int .i64 a0_3, .string ⟨#[]⟩, .string ⟨#[]⟩, .slice none 0 0] 34)
    simpa using this
  have qB : Below w.heap.size w W := by rw [hW]; exact (((Below.refl _ w).alloc (Nat.le_refl _) _).alloc (by simp) _).alloc (by simp; omega) _
  have HR := Aside0.mk (Kd.C_below hr1 qB)
  have HR0 := Aside0.mk hr1
  have HC := Aside0.mk hc1
  have hm := Kd.C_max hr1
  rw [← hW]
  clear hW hr1 hc1
  have Q4 := Aside0.mk q4
  have Q5 := Aside0.mk q5
  have QB := Aside0.mk qB
  clear q4 q5 qB
  unfold cmd_fill.f at h
  by_cases c_power : a0_0.toList = ([112, 111, 119, 101, 114] : List UInt8)
  · rw [if_pos c_power] at h
    have k_power : (a0_0.toList == ([112, 111, 119, 101, 114] : List UInt8)) = true := beq_iff_eq.mpr c_power
    clear c_power
    injection h with h
    simp only [Prod.mk.injEq] at h
    obtain ⟨rfl, rfl, rfl, rfl, rfl, rfl, rfl, rfl, rfl, rfl⟩ := h
    obtain ⟨y0, y1, y2, y3, y4, y5, y6, y7, y8, y9, d0, d1, d2, d3, d4, d5, d6, d7, d8, d9⟩ := cells10 Q5.out
    obtain ⟨z0, z1, z2, z3, z4, z5, z6, z7, z8, z9, t0, t1, t2, t3, t4, t5, t6, t7, t8, t9⟩ := cells10 Q4.out
    go_wp2
    refine bodyPost_ret (results_cell_row rfl _ _ (w.heap.size + 1) 34 #[.int .i64 a0_1, .string ⟨#[]⟩, .string ⟨#[]⟩, .int .i64 a0_2, .string ⟨#[]⟩, .slice none 0 0, .int .i64 a0_3, .string ⟨#[]⟩, .string ⟨#[]⟩, .slice none 0 0] (0, 0) _ rfl (put10 Q4.out) Tryd.underlying34 rfl (by kernel_rfl)) rfl ?_
    exact ⟨_, _, rfl, Kd.R_nil _ _ _ _ _, Kd.R_nil _ _ _ _ _, below10 QB.out (by omega)⟩
  rw [if_neg c_power] at h
  by_cases c_move : a0_0.toList = ([109, 111, 118, 101] : List UInt8)
  · rw [if_pos c_move] at h
    have k_power : (a0_0.toList == ([112, 111, 119, 101, 114] : List UInt8)) = false := beq_eq_false_iff_ne.mpr c_power
    have k_move : (a0_0.toList == ([109, 111, 118, 101] : List UInt8)) = true := beq_iff_eq.mpr c_move
    clear c_power c_move
    by_cases hn : 3 ≤ l1.length
    case neg => rw [if_neg hn] at h; cases h
    rw [if_pos hn] at h
    injection h with h
    simp only [Prod.mk.injEq] at h
    obtain ⟨rfl, rfl, rfl, rfl, rfl, rfl, rfl, rfl, rfl, rfl⟩ := h
    obtain ⟨bk, o, rfl, hbk, hcell⟩ := row_cells HR0.out (by omega)
    have hj0 : decide ((0 : Int) < (l1.length : Int)) = true := decide_eq_true (by omega)
    have hk0 : decide (0 < l1.length) = true := decide_eq_true (by omega)
    have hl0 : (0 : Int) < (l1.length : Int) := by omega
    have x0 : W.cell? ⟨bk, o, none⟩ = some (.string (rdOf ByteArray.empty l1 0)) := (QB.out.cell (p := ⟨bk, o + 0, none⟩) hbk).trans (hcell 0 (by omega))
    have hj1 : decide ((1 : Int) < (l1.length : Int)) = true := decide_eq_true (by omega)
    have hk1 : decide (1 < l1.length) = true := decide_eq_true (by omega)
    have hl1 : (1 : Int) < (l1.length : Int) := by omega
    have x1 : W.cell? ⟨bk, o + 1, none⟩ = some (.string (rdOf ByteArray.empty l1 1)) := (QB.out.cell (p := ⟨bk, o + 1, none⟩) hbk).trans (hcell 1 (by omega))
    have hj2 : decide ((2 : Int) < (l1.length : Int)) = true := decide_eq_true (by omega)
    have hk2 : decide (2 < l1.length) = true := decide_eq_true (by omega)
    have hl2 : (2 : Int) < (l1.length : Int) := by omega
    have x2 : W.cell? ⟨bk, o + 2, none⟩ = some (.string (rdOf ByteArray.empty l1 2)) := (QB.out.cell (p := ⟨bk, o + 2, none⟩) hbk).trans (hcell 2 (by omega))
    have b0 : bk ≠ w.heap.size := by omega
    have b1 : bk ≠ w.heap.size + 1 := by omega
    have b2 : bk ≠ w.heap.size + 1 + 1 := by omega
    clear hcell
    obtain ⟨y0, y1, y2, y3, y4, y5, y6, y7, y8, y9, d0, d1, d2, d3, d4, d5, d6, d7, d8, d9⟩ := cells10 Q5.out
    obtain ⟨z0, z1, z2, z3, z4, z5, z6, z7, z8, z9, t0, t1, t2, t3, t4, t5, t6, t7, t8, t9⟩ := cells10 Q4.out
    go_upto_region 20 with (fail)
    clear y0 z0 d0 t0 y1 z1 d1 t1 y2 z2 d2 t2 y3 z3 d3 t3 y4 z4 d4 t4 y5 z5 d5 t5 y6 z6 d6 t6 y7 z7 d7 t7 y8 z8 d8 t8 y9 z9 d9 t9
    obtain ⟨W2, hW2⟩ : ∃ W2, W2 = (((W.setCell ⟨w.heap.size + 1 + 1, 8, none⟩ (.string (rdOf ByteArray.empty l1 2))).setCell ⟨w.heap.size + 1 + 1, 7, none⟩ (.string (rdOf ByteArray.empty l1 1))).setCell ⟨w.heap.size + 1 + 1, 1, none⟩ (.string (rdOf ByteArray.empty l1 0))) := ⟨_, rfl⟩
    have p4 : W2.heap[w.heap.size + 1]? = some (.cells #[.int .i64 0, .string ⟨#[]⟩, .string ⟨#[]⟩, .int .i64 0, .string ⟨#[]⟩, .slice none 0 0, .int .i64 0, .string ⟨#[]⟩, .string ⟨#[]⟩, .slice none 0 0] 34 (0, 0)) := by rw [hW2]; exact blk_far (blk_far (blk_far (Q4.out) (show w.heap.size + 1 ≠ w.heap.size + 1 + 1 by omega) _) (show w.heap.size + 1 ≠ w.heap.size + 1 + 1 by omega) _) (show w.heap.size + 1 ≠ w.heap.size + 1 + 1 by omega) _
    have p5 : W2.heap[w.heap.size + 1 + 1]? = some (.cells #[.int .i64 a0_1, .string (rdOf ByteArray.empty l1 0), .string ⟨#[]⟩, .int .i64 a0_2, .string ⟨#[]⟩, .slice none 0 0, .int .i64 a0_3, .string (rdOf ByteArray.empty l1 1), .string (rdOf ByteArray.empty l1 2), .slice none 0 0] 34 (0, 0)) := by
      rw [hW2]
      refine blk_put (cs := #[.int .i64 a0_1, .string ⟨#[]⟩, .string ⟨#[]⟩, .int .i64 a0_2, .string ⟨#[]⟩, .slice none 0 0, .int .i64 a0_3, .string (rdOf ByteArray.empty l1 1), .string (rdOf ByteArray.empty l1 2), .slice none 0 0]) ?_ 1 _ rfl
      refine blk_put (cs := #[.int .i64 a0_1, .string ⟨#[]⟩, .string ⟨#[]⟩, .int .i64 a0_2, .string ⟨#[]⟩, .slice none 0 0, .int .i64 a0_3, .string ⟨#[]⟩, .string (rdOf ByteArray.empty l1 2), .slice none 0 0]) ?_ 7 _ rfl
      refine blk_put (cs := #[.int .i64 a0_1, .string ⟨#[]⟩, .string ⟨#[]⟩, .int .i64 a0_2, .string ⟨#[]⟩, .slice none 0 0, .int .i64 a0_3, .string ⟨#[]⟩, .string ⟨#[]⟩, .slice none 0 0]) ?_ 8 _ rfl
      exact Q5.out
    have pB : Below w.heap.size w W2 := by rw [hW2]; exact below_set (below_set (below_set (QB.out) (by omega)) (by omega)) (by omega)
    rw [← hW2]
    clear hW2
    obtain ⟨f0_, f1_, f2_, f3_, f4_, f5_, f6_, f7_, f8_, f9_, _, _, _, _, _, _, _, _, _, _⟩ := cells10 p5
    obtain ⟨i0_, i1_, i2_, i3_, i4_, i5_, i6_, i7_, i8_, i9_, g0_, g1_, g2_, g3_, g4_, g5_, g6_, g7_, g8_, g9_⟩ := cells10 p4
    have P4 := Aside0.mk p4
    have PB := Aside0.mk pB
    clear p4 p5 pB
    go_wp2
    refine bodyPost_ret (results_cell_row rfl _ _ (w.heap.size + 1) 34 #[.int .i64 a0_1, .string (rdOf ByteArray.empty l1 0), .string ⟨#[]⟩, .int .i64 a0_2, .string ⟨#[]⟩, .slice none 0 0, .int .i64 a0_3, .string (rdOf ByteArray.empty l1 1), .string (rdOf ByteArray.empty l1 2), .slice none 0 0] (0, 0) _ rfl (put10 P4.out) Tryd.underlying34 rfl (by kernel_rfl)) rfl ?_
    exact ⟨_, _, rfl, Kd.R_nil _ _ _ _ _, Kd.R_nil _ _ _ _ _, below10 PB.out (by omega)⟩
  rw [if_neg c_move] at h
  by_cases c_mkdir : a0_0.toList = ([109, 107, 100, 105, 114] : List UInt8)
  · rw [if_pos c_mkdir] at h
    have k_power : (a0_0.toList == ([112, 111, 119, 101, 114] : List UInt8)) = false := beq_eq_false_iff_ne.mpr c_power
    have k_move : (a0_0.toList == ([109, 111, 118, 101] : List UInt8)) = false := beq_eq_false_iff_ne.mpr c_move
    have k_mkdir : (a0_0.toList == ([109, 107, 100, 105, 114] : List UInt8)) = true := beq_iff_eq.mpr c_mkdir
    clear c_power c_move c_mkdir
    by_cases hn : 2 ≤ l1.length
    case neg => rw [if_neg hn] at h; cases h
    rw [if_pos hn] at h
    injection h with h
    simp only [Prod.mk.injEq] at h
    obtain ⟨rfl, rfl, rfl, rfl, rfl, rfl, rfl, rfl, rfl, rfl⟩ := h
    obtain ⟨bk, o, rfl, hbk, hcell⟩ := row_cells HR0.out (by omega)
    have hj0 : decide ((0 : Int) < (l1.length : Int)) = true := decide_eq_true (by omega)
    have hk0 : decide (0 < l1.length) = true := decide_eq_true (by omega)
    have hl0 : (0 : Int) < (l1.length : Int) := by omega
    have x0 : W.cell? ⟨bk, o, none⟩ = some (.string (rdOf ByteArray.empty l1 0)) := (QB.out.cell (p := ⟨bk, o + 0, none⟩) hbk).trans (hcell 0 (by omega))
    have hj1 : decide ((1 : Int) < (l1.length : Int)) = true := decide_eq_true (by omega)
    have hk1 : decide (1 < l1.length) = true := decide_eq_true (by omega)
    have hl1 : (1 : Int) < (l1.length : Int) := by omega
    have x1 : W.cell? ⟨bk, o + 1, none⟩ = some (.string (rdOf ByteArray.empty l1 1)) := (QB.out.cell (p := ⟨bk, o + 1, none⟩) hbk).trans (hcell 1 (by omega))
    have b0 : bk ≠ w.heap.size := by omega
    have b1 : bk ≠ w.heap.size + 1 := by omega
    have b2 : bk ≠ w.heap.size + 1 + 1 := by omega
    clear hcell
    obtain ⟨y0, y1, y2, y3, y4, y5, y6, y7, y8, y9, d0, d1, d2, d3, d4, d5, d6, d7, d8, d9⟩ := cells10 Q5.out
    obtain ⟨z0, z1, z2, z3, z4, z5, z6, z7, z8, z9, t0, t1, t2, t3, t4, t5, t6, t7, t8, t9⟩ := cells10 Q4.out
    go_upto_region 20 with (fail)
    clear y0 z0 d0 t0 y1 z1 d1 t1 y2 z2 d2 t2 y3 z3 d3 t3 y4 z4 d4 t4 y5 z5 d5 t5 y6 z6 d6 t6 y7 z7 d7 t7 y8 z8 d8 t8 y9 z9 d9 t9
    obtain ⟨W2, hW2⟩ : ∃ W2, W2 = ((W.setCell ⟨w.heap.size + 1 + 1, 7, none⟩ (.string (rdOf ByteArray.empty l1 1))).setCell ⟨w.heap.size + 1 + 1, 1, none⟩ (.string (rdOf ByteArray.empty l1 0))) := ⟨_, rfl⟩
    have p4 : W2.heap[w.heap.size + 1]? = some (.cells #[.int .i64 0, .string ⟨#[]⟩, .string ⟨#[]⟩, .int .i64 0, .string ⟨#[]⟩, .slice none 0 0, .int .i64 0, .string ⟨#[]⟩, .string ⟨#[]⟩, .slice none 0 0] 34 (0, 0)) := by rw [hW2]; exact blk_far (blk_far (Q4.out) (show w.heap.size + 1 ≠ w.heap.size + 1 + 1 by omega) _) (show w.heap.size + 1 ≠ w.heap.size + 1 + 1 by omega) _
    have p5 : W2.heap[w.heap.size + 1 + 1]? = some (.cells #[.int .i64 a0_1, .string (rdOf ByteArray.empty l1 0), .string ⟨#[]⟩, .int .i64 a0_2, .string ⟨#[]⟩, .slice none 0 0, .int .i64 a0_3, .string (rdOf ByteArray.empty l1 1), .string ⟨#[]⟩, .slice none 0 0] 34 (0, 0)) := by
      rw [hW2]
      refine blk_put (cs := #[.int .i64 a0_1, .string ⟨#[]⟩, .string ⟨#[]⟩, .int .i64 a0_2, .string ⟨#[]⟩, .slice none 0 0, .int .i64 a0_3, .string (rdOf ByteArray.empty l1 1), .string ⟨#[]⟩, .slice none 0 0]) ?_ 1 _ rfl
      refine blk_put (cs := #[.int .i64 a0_1, .string ⟨#[]⟩, .string ⟨#[]⟩, .int .i64 a0_2, .string ⟨#[]⟩, .slice none 0 0, .int .i64 a0_3, .string ⟨#[]⟩, .string ⟨#[]⟩, .slice none 0 0]) ?_ 7 _ rfl
      exact Q5.out
    have pB : Below w.heap.size w W2 := by rw [hW2]; exact below_set (below_set (QB.out) (by omega)) (by omega)
    rw [← hW2]
    clear hW2
    obtain ⟨f0_, f1_, f2_, f3_, f4_, f5_, f6_, f7_, f8_, f9_, _, _, _, _, _, _, _, _, _, _⟩ := cells10 p5
    obtain ⟨i0_, i1_, i2_, i3_, i4_, i5_, i6_, i7_, i8_, i9_, g0_, g1_, g2_, g3_, g4_, g5_, g6_, g7_, g8_, g9_⟩ := cells10 p4
    have P4 := Aside0.mk p4
    have PB := Aside0.mk pB
    clear p4 p5 pB
    go_wp2
    refine bodyPost_ret (results_cell_row rfl _ _ (w.heap.size + 1) 34 #[.int .i64 a0_1, .string (rdOf ByteArray.empty l1 0), .string ⟨#[]⟩, .int .i64 a0_2, .string ⟨#[]⟩, .slice none 0 0, .int .i64 a0_3, .string (rdOf ByteArray.empty l1 1), .string ⟨#[]⟩, .slice none 0 0] (0, 0) _ rfl (put10 P4.out) Tryd.underlying34 rfl (by kernel_rfl)) rfl ?_
    exact ⟨_, _, rfl, Kd.R_nil _ _ _ _ _, Kd.R_nil _ _ _ _ _, below10 PB.out (by omega)⟩
  rw [if_neg c_mkdir] at h
  by_cases c_remove : a0_0.toList = ([114, 101, 109, 111, 118, 101] : List UInt8)
  · rw [if_pos c_remove] at h
    have k_power : (a0_0.toList == ([112, 111, 119, 101, 114] : List UInt8)) = false := beq_eq_false_iff_ne.mpr c_power
    have k_move : (a0_0.toList == ([109, 111, 118, 101] : List UInt8)) = false := beq_eq_false_iff_ne.mpr c_move
    have k_mkdir : (a0_0.toList == ([109, 107, 100, 105, 114] : List UInt8)) = false := beq_eq_false_iff_ne.mpr c_mkdir
    have k_remove : (a0_0.toList == ([114, 101, 109, 111, 118, 101] : List UInt8)) = true := beq_iff_eq.mpr c_remove
    clear c_power c_move c_mkdir c_remove
    by_cases hn : 2 ≤ l1.length
    case neg => rw [if_neg hn] at h; cases h
    rw [if_pos hn] at h
    injection h with h
    simp only [Prod.mk.injEq] at h
    obtain ⟨rfl, rfl, rfl, rfl, rfl, rfl, rfl, rfl, rfl, rfl⟩ := h
    obtain ⟨bk, o, rfl, hbk, hcell⟩ := row_cells HR0.out (by omega)
    have hj0 : decide ((0 : Int) < (l1.length : Int)) = true := decide_eq_true (by omega)
    have hk0 : decide (0 < l1.length) = true := decide_eq_true (by omega)
    have hl0 : (0 : Int) < (l1.length : Int) := by omega
    have x0 : W.cell? ⟨bk, o, none⟩ = some (.string (rdOf ByteArray.empty l1 0)) := (QB.out.cell (p := ⟨bk, o + 0, none⟩) hbk).trans (hcell 0 (by omega))
    have hj1 : decide ((1 : Int) < (l1.length : Int)) = true := decide_eq_true (by omega)
    have hk1 : decide (1 < l1.length) = true := decide_eq_true (by omega)
    have hl1 : (1 : Int) < (l1.length : Int) := by omega
    have x1 : W.cell? ⟨bk, o + 1, none⟩ = some (.string (rdOf ByteArray.empty l1 1)) := (QB.out.cell (p := ⟨bk, o + 1, none⟩) hbk).trans (hcell 1 (by omega))
    have b0 : bk ≠ w.heap.size := by omega
    have b1 : bk ≠ w.heap.size + 1 := by omega
    have b2 : bk ≠ w.heap.size + 1 + 1 := by omega
    clear hcell
    obtain ⟨y0, y1, y2, y3, y4, y5, y6, y7, y8, y9, d0, d1, d2, d3, d4, d5, d6, d7, d8, d9⟩ := cells10 Q5.out
    obtain ⟨z0, z1, z2, z3, z4, z5, z6, z7, z8, z9, t0, t1, t2, t3, t4, t5, t6, t7, t8, t9⟩ := cells10 Q4.out
    go_upto_region 20 with (fail)
    clear y0 z0 d0 t0 y1 z1 d1 t1 y2 z2 d2 t2 y3 z3 d3 t3 y4 z4 d4 t4 y5 z5 d5 t5 y6 z6 d6 t6 y7 z7 d7 t7 y8 z8 d8 t8 y9 z9 d9 t9
    obtain ⟨W2, hW2⟩ : ∃ W2, W2 = ((W.setCell ⟨w.heap.size + 1 + 1, 7, none⟩ (.string (rdOf ByteArray.empty l1 1))).setCell ⟨w.heap.size + 1 + 1, 1, none⟩ (.string (rdOf ByteArray.empty l1 0))) := ⟨_, rfl⟩
    have p4 : W2.heap[w.heap.size + 1]? = some (.cells #[.int .i64 0, .string ⟨#[]⟩, .string ⟨#[]⟩, .int .i64 0, .string ⟨#[]⟩, .slice none 0 0, .int .i64 0, .string ⟨#[]⟩, .string ⟨#[]⟩, .slice none 0 0] 34 (0, 0)) := by rw [hW2]; exact blk_far (blk_far (Q4.out) (show w.heap.size + 1 ≠ w.heap.size + 1 + 1 by omega) _) (show w.heap.size + 1 ≠ w.heap.size + 1 + 1 by omega) _
    have p5 : W2.heap[w.heap.size + 1 + 1]? = some (.cells #[.int .i64 a0_1, .string (rdOf ByteArray.empty l1 0), .string ⟨#[]⟩, .int .i64 a0_2, .string ⟨#[]⟩, .slice none 0 0, .int .i64 a0_3, .string (rdOf ByteArray.empty l1 1), .string ⟨#[]⟩, .slice none 0 0] 34 (0, 0)) := by
      rw [hW2]
      refine blk_put (cs := #[.int .i64 a0_1, .string ⟨#[]⟩, .string ⟨#[]⟩, .int .i64 a0_2, .string ⟨#[]⟩, .slice none 0 0, .int .i64 a0_3, .string (rdOf ByteArray.empty l1 1), .string ⟨#[]⟩, .slice none 0 0]) ?_ 1 _ rfl
      refine blk_put (cs := #[.int .i64 a0_1, .string ⟨#[]⟩, .string ⟨#[]⟩, .int .i64 a0_2, .string ⟨#[]⟩, .slice none 0 0, .int .i64 a0_3, .string ⟨#[]⟩, .string ⟨#[]⟩, .slice none 0 0]) ?_ 7 _ rfl
      exact Q5.out
    have pB : Below w.heap.size w W2 := by rw [hW2]; exact below_set (below_set (QB.out) (by omega)) (by omega)
    rw [← hW2]
    clear hW2
    obtain ⟨f0_, f1_, f2_, f3_, f4_, f5_, f6_, f7_, f8_, f9_, _, _, _, _, _, _, _, _, _, _⟩ := cells10 p5
    obtain ⟨i0_, i1_, i2_, i3_, i4_, i5_, i6_, i7_, i8_, i9_, g0_, g1_, g2_, g3_, g4_, g5_, g6_, g7_, g8_, g9_⟩ := cells10 p4
    have P4 := Aside0.mk p4
    have PB := Aside0.mk pB
    clear p4 p5 pB
    go_wp2
    refine bodyPost_ret (results_cell_row rfl _ _ (w.heap.size + 1) 34 #[.int .i64 a0_1, .string (rdOf ByteArray.empty l1 0), .string ⟨#[]⟩, .int .i64 a0_2, .string ⟨#[]⟩, .slice none 0 0, .int .i64 a0_3, .string (rdOf ByteArray.empty l1 1), .string ⟨#[]⟩, .slice none 0 0] (0, 0) _ rfl (put10 P4.out) Tryd.underlying34 rfl (by kernel_rfl)) rfl ?_
    exact ⟨_, _, rfl, Kd.R_nil _ _ _ _ _, Kd.R_nil _ _ _ _ _, below10 PB.out (by omega)⟩
  rw [if_neg c_remove] at h
  by_cases c_write : a0_0.toList = ([119, 114, 105, 116, 101] : List UInt8)
  · rw [if_pos c_write] at h
    have k_power : (a0_0.toList == ([112, 111, 119, 101, 114] : List UInt8)) = false := beq_eq_false_iff_ne.mpr c_power
    have k_move : (a0_0.toList == ([109, 111, 118, 101] : List UInt8)) = false := beq_eq_false_iff_ne.mpr c_move
    have k_mkdir : (a0_0.toList == ([109, 107, 100, 105, 114] : List UInt8)) = false := beq_eq_false_iff_ne.mpr c_mkdir
    have k_remove : (a0_0.toList == ([114, 101, 109, 111, 118, 101] : List UInt8)) = false := beq_eq_false_iff_ne.mpr c_remove
    have k_write : (a0_0.toList == ([119, 114, 105, 116, 101] : List UInt8)) = true := beq_iff_eq.mpr c_write
    clear c_power c_move c_mkdir c_remove c_write
    by_cases hn : 2 ≤ l1.length
    case neg => rw [if_neg hn] at h; cases h
    rw [if_pos hn] at h
    by_cases hd : (l1.drop 2).length * 16 ≤ 140737488355328
    case neg => rw [if_neg hd] at h; cases h
    rw [if_pos hd] at h
    injection h with h
    simp only [Prod.mk.injEq] at h
    obtain ⟨rfl, rfl, rfl, rfl, rfl, rfl, rfl, rfl, rfl, rfl⟩ := h
    obtain ⟨bk, o, rfl, hbk, hcell⟩ := row_cells HR0.out (by omega)
    have hj0 : decide ((0 : Int) < (l1.length : Int)) = true := decide_eq_true (by omega)
    have hk0 : decide (0 < l1.length) = true := decide_eq_true (by omega)
    have hl0 : (0 : Int) < (l1.length : Int) := by omega
    have x0 : W.cell? ⟨bk, o, none⟩ = some (.string (rdOf ByteArray.empty l1 0)) := (QB.out.cell (p := ⟨bk, o + 0, none⟩) hbk).trans (hcell 0 (by omega))
    have hj1 : decide ((1 : Int) < (l1.length : Int)) = true := decide_eq_true (by omega)
    have hk1 : decide (1 < l1.length) = true := decide_eq_true (by omega)
    have hl1 : (1 : Int) < (l1.length : Int) := by omega
    have x1 : W.cell? ⟨bk, o + 1, none⟩ = some (.string (rdOf ByteArray.empty l1 1)) := (QB.out.cell (p := ⟨bk, o + 1, none⟩) hbk).trans (hcell 1 (by omega))
    have b0 : bk ≠ w.heap.size := by omega
    have b1 : bk ≠ w.heap.size + 1 := by omega
    have b2 : bk ≠ w.heap.size + 1 + 1 := by omega
    clear hcell
    obtain ⟨y0, y1, y2, y3, y4, y5, y6, y7, y8, y9, d0, d1, d2, d3, d4, d5, d6, d7, d8, d9⟩ := cells10 Q5.out
    obtain ⟨z0, z1, z2, z3, z4, z5, z6, z7, z8, z9, t0, t1, t2, t3, t4, t5, t6, t7, t8, t9⟩ := cells10 Q4.out
    obtain ⟨o2, ho2, HCL⟩ : ∃ o2, (c1 = 2 ∧ o = o2 ∨ ¬ c1 = 2 ∧ o + 2 = o2) ∧ Aside0 (∀ W1 : World, Kd.C Kd.string W1 (some ⟨bk, o, none⟩) l1.length l1 → Calls Tryd.prog 112 #[.slice (some ⟨bk, o2, none⟩) (l1.length - 2) (c1 - 2)] W1 fun e w' => ∃ v0_ : Value, e = .returned v0_ ∧ Kd.R Kd.string 9 w' W1.heap.size (fun _ => True) v0_ (l1.drop 2) ∧ Below W1.heap.size W1 w') := by
      have hcl := fun (W1 : World) (hC1 : Kd.C Kd.string W1 (some ⟨bk, o, none⟩) l1.length l1) => slices_Clone_string_string.calls _ (c1 - 2) (l1.drop 2) (l1.drop 2) W1 (Kd.C_drop hC1 (show 2 ≤ l1.length by omega) HC.out) (by rw [List.length_drop]; have := HC.out; omega) (by rw [slices_Clone_string_string.f, if_pos hd])
      by_cases hcc : c1 = 2
      · refine ⟨o, .inl ⟨hcc, rfl⟩, ⟨fun W1 hC1 => ?_⟩⟩
        have := hcl W1 hC1
        rw [if_pos hcc, List.length_drop] at this
        exact this
      · refine ⟨o + 2, .inr ⟨hcc, rfl⟩, ⟨fun W1 hC1 => ?_⟩⟩
        have := hcl W1 hC1
        rw [if_neg hcc, List.length_drop, show ((some (⟨bk, o, none⟩ : Addr)).map (·.add (2 * Kd.string.sz))) = some ⟨bk, o + 2, none⟩ from congrArg some (add_at bk o 2)] at this
        exact this
    have hs1 : (2 : Int) ≤ (c1 : Int) := by have := HC.out; omega
    have hs2 : decide (2 ≤ c1) = true := decide_eq_true (by omega)
    have hs3 : decide (2 ≤ l1.length) = true := decide_eq_true (by omega)
    have hs4 : 2 ≤ c1 := by omega
    have hs5 : (2 : Int) ≤ (l1.length : Int) := by omega
    have hs6 : (2 ≤ l1.length) = True := eq_true (by omega)
    clear hd
    rcases ho2 with ⟨rfl, rfl⟩ | ⟨hcc, rfl⟩
    all_goals
      try (have H9 := HCL.out; simp only [Nat.sub_self] at H9; clear HCL; have HCL := Aside0.mk H9; clear H9)
      have WQ4 := Aside0.mk (blk_drew Q4.out)
      have WQ5 := Aside0.mk (blk_drew Q5.out)
      have WQB := Aside0.mk (below_drew1 QB.out)
      clear y0 d0 y2 d2 y3 d3 y4 d4 y5 d5 y6 d6 y8 d8 z0 t0 z1 t1 z2 t2 z3 t3 z4 t4 z5 t5 z6 t6 z7 t7 z8 t8 z9 t9
      go_upto_region 15 with (fail)
      go_region_law (first | (go_simp; go_at_call 112; refine (HCL.out _ (Kd.C_drew HR.out)).mono ?_; rintro e w2 ⟨v2, rfl, hR2, hB2⟩; obtain ⟨A2, c2, rfl, _⟩ := Kd.R_reads hR2; have HR2 := Aside0.mk hR2; have Q4b := Aside0.mk (blk_below WQ4.out hB2); have Q5b := Aside0.mk (blk_below WQ5.out hB2); have QBb := Aside0.mk (below_then WQB.out WQB.out.size hB2); have xb0 := (hB2.cell (p := ⟨bk, o, none⟩) (Nat.lt_of_lt_of_le hbk WQB.out.size)).trans (x0); have db1 := blk_frozen Q5b.out 1; have yb1 : w2.cell? ⟨w.heap.size + 1 + 1, 1, none⟩ = some (.string ⟨#[]⟩) := (blk_cell Q5b.out 1).trans rfl; have db9 := blk_frozen Q5b.out 9; have yb9 : w2.cell? ⟨w.heap.size + 1 + 1, 9, none⟩ = some (.slice none 0 0) := (blk_cell Q5b.out 9).trans rfl; have db7 := blk_frozen Q5b.out 7; have yb7 : w2.cell? ⟨w.heap.size + 1 + 1, 7, none⟩ = some (.string ⟨#[]⟩) := (blk_cell Q5b.out 7).trans rfl; have xb1 := (hB2.cell (p := ⟨bk, o + 1, none⟩) (Nat.lt_of_lt_of_le hbk WQB.out.size)).trans x1; clear hR2 hB2))
      all_goals
        go_upto_region 20 with (fail)
        clear yb1 db1 y1 d1 yb9 db9 y9 d9 yb7 db7 y7 d7
        obtain ⟨W2, hW2⟩ : ∃ W2, W2 = (((w2.setCell ⟨w.heap.size + 1 + 1, 7, none⟩ (.string (rdOf ByteArray.empty l1 1))).setCell ⟨w.heap.size + 1 + 1, 9, none⟩ (.slice A2 (l1.length - 2) c2)).setCell ⟨w.heap.size + 1 + 1, 1, none⟩ (.string (rdOf ByteArray.empty l1 0))) := ⟨_, rfl⟩
        have p4 : W2.heap[w.heap.size + 1]? = some (.cells #[.int .i64 0, .string ⟨#[]⟩, .string ⟨#[]⟩, .int .i64 0, .string ⟨#[]⟩, .slice none 0 0, .int .i64 0, .string ⟨#[]⟩, .string ⟨#[]⟩, .slice none 0 0] 34 (0, 0)) := by rw [hW2]; exact blk_far (blk_far (blk_far (Q4b.out) (show w.heap.size + 1 ≠ w.heap.size + 1 + 1 by omega) _) (show w.heap.size + 1 ≠ w.heap.size + 1 + 1 by omega) _) (show w.heap.size + 1 ≠ w.heap.size + 1 + 1 by omega) _
        have p5 : W2.heap[w.heap.size + 1 + 1]? = some (.cells #[.int .i64 a0_1, .string (rdOf ByteArray.empty l1 0), .string ⟨#[]⟩, .int .i64 a0_2, .string ⟨#[]⟩, .slice none 0 0, .int .i64 a0_3, .string (rdOf ByteArray.empty l1 1), .string ⟨#[]⟩, .slice A2 (l1.length - 2) c2] 34 (0, 0)) := by
          rw [hW2]
          refine blk_put (cs := #[.int .i64 a0_1, .string ⟨#[]⟩, .string ⟨#[]⟩, .int .i64 a0_2, .string ⟨#[]⟩, .slice none 0 0, .int .i64 a0_3, .string (rdOf ByteArray.empty l1 1), .string ⟨#[]⟩, .slice A2 (l1.length - 2) c2]) ?_ 1 _ rfl
          refine blk_put (cs := #[.int .i64 a0_1, .string ⟨#[]⟩, .string ⟨#[]⟩, .int .i64 a0_2, .string ⟨#[]⟩, .slice none 0 0, .int .i64 a0_3, .string (rdOf ByteArray.empty l1 1), .string ⟨#[]⟩, .slice none 0 0]) ?_ 9 _ rfl
          refine blk_put (cs := #[.int .i64 a0_1, .string ⟨#[]⟩, .string ⟨#[]⟩, .int .i64 a0_2, .string ⟨#[]⟩, .slice none 0 0, .int .i64 a0_3, .string ⟨#[]⟩, .string ⟨#[]⟩, .slice none 0 0]) ?_ 7 _ rfl
          exact Q5b.out
        have pB : Below w.heap.size w W2 := by rw [hW2]; exact below_set (below_set (below_set (QBb.out) (by omega)) (by omega)) (by omega)
        have hR8 := Kd.R_newB (Kd.R_newB HR2.out WQ5.out) WQ4.out
        rw [List.length_drop] at hR8
        have hRn : Kd.R Kd.string 9 W2 w.heap.size (fun k_ => (True ∧ k_ ≠ w.heap.size + 1 + 1) ∧ k_ ≠ w.heap.size + 1) (.slice A2 (l1.length - 2) c2) (l1.drop 2) := by
          rw [hW2]
          exact Kd.R_lower (Kd.R_far (Kd.R_far (Kd.R_far (hR8) (fun _ hk => hk.1.2) _) (fun _ hk => hk.1.2) _) (fun _ hk => hk.1.2) _) WQB.out.size
        clear hR8
        rw [← hW2]
        clear hW2
        obtain ⟨f0_, f1_, f2_, f3_, f4_, f5_, f6_, f7_, f8_, f9_, _, _, _, _, _, _, _, _, _, _⟩ := cells10 p5
        obtain ⟨i0_, i1_, i2_, i3_, i4_, i5_, i6_, i7_, i8_, i9_, g0_, g1_, g2_, g3_, g4_, g5_, g6_, g7_, g8_, g9_⟩ := cells10 p4
        have P4 := Aside0.mk p4
        have PB := Aside0.mk pB
        clear p4 p5 pB
        go_wp2
        refine bodyPost_ret (results_cell_row rfl _ _ (w.heap.size + 1) 34 #[.int .i64 a0_1, .string (rdOf ByteArray.empty l1 0), .string ⟨#[]⟩, .int .i64 a0_2, .string ⟨#[]⟩, .slice none 0 0, .int .i64 a0_3, .string (rdOf ByteArray.empty l1 1), .string ⟨#[]⟩, .slice A2 (l1.length - 2) c2] (0, 0) _ rfl (put10 P4.out) Tryd.underlying34 rfl (by kernel_rfl)) rfl ?_
        exact ⟨_, _, rfl, Kd.R_nil _ _ _ _ _, Kd.R_mono (R10 hRn (fun _ hk => hk.2)) (fun _ _ => by simp [Value.ownBlock]), below10 PB.out (by omega)⟩
  rw [if_neg c_write] at h
  by_cases c_record : a0_0.toList = ([114, 101, 99, 111, 114, 100] : List UInt8)
  · rw [if_pos c_record] at h
    have k_power : (a0_0.toList == ([112, 111, 119, 101, 114] : List UInt8)) = false := beq_eq_false_iff_ne.mpr c_power
    have k_move : (a0_0.toList == ([109, 111, 118, 101] : List UInt8)) = false := beq_eq_false_iff_ne.mpr c_move
    have k_mkdir : (a0_0.toList == ([109, 107, 100, 105, 114] : List UInt8)) = false := beq_eq_false_iff_ne.mpr c_mkdir
    have k_remove : (a0_0.toList == ([114, 101, 109, 111, 118, 101] : List UInt8)) = false := beq_eq_false_iff_ne.mpr c_remove
    have k_write : (a0_0.toList == ([119, 114, 105, 116, 101] : List UInt8)) = false := beq_eq_false_iff_ne.mpr c_write
    have k_record : (a0_0.toList == ([114, 101, 99, 111, 114, 100] : List UInt8)) = true := beq_iff_eq.mpr c_record
    clear c_power c_move c_mkdir c_remove c_write c_record
    by_cases hn : 2 ≤ l1.length
    case neg => rw [if_neg hn] at h; cases h
    rw [if_pos hn] at h
    injection h with h
    simp only [Prod.mk.injEq] at h
    obtain ⟨rfl, rfl, rfl, rfl, rfl, rfl, rfl, rfl, rfl, rfl⟩ := h
    obtain ⟨bk, o, rfl, hbk, hcell⟩ := row_cells HR0.out (by omega)
    have hj0 : decide ((0 : Int) < (l1.length : Int)) = true := decide_eq_true (by omega)
    have hk0 : decide (0 < l1.length) = true := decide_eq_true (by omega)
    have hl0 : (0 : Int) < (l1.length : Int) := by omega
    have x0 : W.cell? ⟨bk, o, none⟩ = some (.string (rdOf ByteArray.empty l1 0)) := (QB.out.cell (p := ⟨bk, o + 0, none⟩) hbk).trans (hcell 0 (by omega))
    have hj1 : decide ((1 : Int) < (l1.length : Int)) = true := decide_eq_true (by omega)
    have hk1 : decide (1 < l1.length) = true := decide_eq_true (by omega)
    have hl1 : (1 : Int) < (l1.length : Int) := by omega
    have x1 : W.cell? ⟨bk, o + 1, none⟩ = some (.string (rdOf ByteArray.empty l1 1)) := (QB.out.cell (p := ⟨bk, o + 1, none⟩) hbk).trans (hcell 1 (by omega))
    have b0 : bk ≠ w.heap.size := by omega
    have b1 : bk ≠ w.heap.size + 1 := by omega
    have b2 : bk ≠ w.heap.size + 1 + 1 := by omega
    clear hcell
    obtain ⟨y0, y1, y2, y3, y4, y5, y6, y7, y8, y9, d0, d1, d2, d3, d4, d5, d6, d7, d8, d9⟩ := cells10 Q5.out
    obtain ⟨z0, z1, z2, z3, z4, z5, z6, z7, z8, z9, t0, t1, t2, t3, t4, t5, t6, t7, t8, t9⟩ := cells10 Q4.out
    go_upto_region 20 with (fail)
    clear y0 z0 d0 t0 y1 z1 d1 t1 y2 z2 d2 t2 y3 z3 d3 t3 y4 z4 d4 t4 y5 z5 d5 t5 y6 z6 d6 t6 y7 z7 d7 t7 y8 z8 d8 t8 y9 z9 d9 t9
    obtain ⟨W2, hW2⟩ : ∃ W2, W2 = ((W.setCell ⟨w.heap.size + 1 + 1, 4, none⟩ (.string (rdOf ByteArray.empty l1 1))).setCell ⟨w.heap.size + 1 + 1, 1, none⟩ (.string (rdOf ByteArray.empty l1 0))) := ⟨_, rfl⟩
    have p4 : W2.heap[w.heap.size + 1]? = some (.cells #[.int .i64 0, .string ⟨#[]⟩, .string ⟨#[]⟩, .int .i64 0, .string ⟨#[]⟩, .slice none 0 0, .int .i64 0, .string ⟨#[]⟩, .string ⟨#[]⟩, .slice none 0 0] 34 (0, 0)) := by rw [hW2]; exact blk_far (blk_far (Q4.out) (show w.heap.size + 1 ≠ w.heap.size + 1 + 1 by omega) _) (show w.heap.size + 1 ≠ w.heap.size + 1 + 1 by omega) _
    have p5 : W2.heap[w.heap.size + 1 + 1]? = some (.cells #[.int .i64 a0_1, .string (rdOf ByteArray.empty l1 0), .string ⟨#[]⟩, .int .i64 a0_2, .string (rdOf ByteArray.empty l1 1), .slice none 0 0, .int .i64 a0_3, .string ⟨#[]⟩, .string ⟨#[]⟩, .slice none 0 0] 34 (0, 0)) := by
      rw [hW2]
      refine blk_put (cs := #[.int .i64 a0_1, .string ⟨#[]⟩, .string ⟨#[]⟩, .int .i64 a0_2, .string (rdOf ByteArray.empty l1 1), .slice none 0 0, .int .i64 a0_3, .string ⟨#[]⟩, .string ⟨#[]⟩, .slice none 0 0]) ?_ 1 _ rfl
      refine blk_put (cs := #[.int .i64 a0_1, .string ⟨#[]⟩, .string ⟨#[]⟩, .int .i64 a0_2, .string ⟨#[]⟩, .slice none 0 0, .int .i64 a0_3, .string ⟨#[]⟩, .string ⟨#[]⟩, .slice none 0 0]) ?_ 4 _ rfl
      exact Q5.out
    have pB : Below w.heap.size w W2 := by rw [hW2]; exact below_set (below_set (QB.out) (by omega)) (by omega)
    rw [← hW2]
    clear hW2
    obtain ⟨f0_, f1_, f2_, f3_, f4_, f5_, f6_, f7_, f8_, f9_, _, _, _, _, _, _, _, _, _, _⟩ := cells10 p5
    obtain ⟨i0_, i1_, i2_, i3_, i4_, i5_, i6_, i7_, i8_, i9_, g0_, g1_, g2_, g3_, g4_, g5_, g6_, g7_, g8_, g9_⟩ := cells10 p4
    have P4 := Aside0.mk p4
    have PB := Aside0.mk pB
    clear p4 p5 pB
    go_wp2
    refine bodyPost_ret (results_cell_row rfl _ _ (w.heap.size + 1) 34 #[.int .i64 a0_1, .string (rdOf ByteArray.empty l1 0), .string ⟨#[]⟩, .int .i64 a0_2, .string (rdOf ByteArray.empty l1 1), .slice none 0 0, .int .i64 a0_3, .string ⟨#[]⟩, .string ⟨#[]⟩, .slice none 0 0] (0, 0) _ rfl (put10 P4.out) Tryd.underlying34 rfl (by kernel_rfl)) rfl ?_
    exact ⟨_, _, rfl, Kd.R_nil _ _ _ _ _, Kd.R_nil _ _ _ _ _, below10 PB.out (by omega)⟩
  rw [if_neg c_record] at h
  by_cases c_unrecord : a0_0.toList = ([117, 110, 114, 101, 99, 111, 114, 100] : List UInt8)
  · rw [if_pos c_unrecord] at h
    have k_power : (a0_0.toList == ([112, 111, 119, 101, 114] : List UInt8)) = false := beq_eq_false_iff_ne.mpr c_power
    have k_move : (a0_0.toList == ([109, 111, 118, 101] : List UInt8)) = false := beq_eq_false_iff_ne.mpr c_move
    have k_mkdir : (a0_0.toList == ([109, 107, 100, 105, 114] : List UInt8)) = false := beq_eq_false_iff_ne.mpr c_mkdir
    have k_remove : (a0_0.toList == ([114, 101, 109, 111, 118, 101] : List UInt8)) = false := beq_eq_false_iff_ne.mpr c_remove
    have k_write : (a0_0.toList == ([119, 114, 105, 116, 101] : List UInt8)) = false := beq_eq_false_iff_ne.mpr c_write
    have k_record : (a0_0.toList == ([114, 101, 99, 111, 114, 100] : List UInt8)) = false := beq_eq_false_iff_ne.mpr c_record
    have k_unrecord : (a0_0.toList == ([117, 110, 114, 101, 99, 111, 114, 100] : List UInt8)) = true := beq_iff_eq.mpr c_unrecord
    clear c_power c_move c_mkdir c_remove c_write c_record c_unrecord
    by_cases hn : 2 ≤ l1.length
    case neg => rw [if_neg hn] at h; cases h
    rw [if_pos hn] at h
    injection h with h
    simp only [Prod.mk.injEq] at h
    obtain ⟨rfl, rfl, rfl, rfl, rfl, rfl, rfl, rfl, rfl, rfl⟩ := h
    obtain ⟨bk, o, rfl, hbk, hcell⟩ := row_cells HR0.out (by omega)
    have hj0 : decide ((0 : Int) < (l1.length : Int)) = true := decide_eq_true (by omega)
    have hk0 : decide (0 < l1.length) = true := decide_eq_true (by omega)
    have hl0 : (0 : Int) < (l1.length : Int) := by omega
    have x0 : W.cell? ⟨bk, o, none⟩ = some (.string (rdOf ByteArray.empty l1 0)) := (QB.out.cell (p := ⟨bk, o + 0, none⟩) hbk).trans (hcell 0 (by omega))
    have hj1 : decide ((1 : Int) < (l1.length : Int)) = true := decide_eq_true (by omega)
    have hk1 : decide (1 < l1.length) = true := decide_eq_true (by omega)
    have hl1 : (1 : Int) < (l1.length : Int) := by omega
    have x1 : W.cell? ⟨bk, o + 1, none⟩ = some (.string (rdOf ByteArray.empty l1 1)) := (QB.out.cell (p := ⟨bk, o + 1, none⟩) hbk).trans (hcell 1 (by omega))
    have b0 : bk ≠ w.heap.size := by omega
    have b1 : bk ≠ w.heap.size + 1 := by omega
    have b2 : bk ≠ w.heap.size + 1 + 1 := by omega
    clear hcell
    obtain ⟨y0, y1, y2, y3, y4, y5, y6, y7, y8, y9, d0, d1, d2, d3, d4, d5, d6, d7, d8, d9⟩ := cells10 Q5.out
    obtain ⟨z0, z1, z2, z3, z4, z5, z6, z7, z8, z9, t0, t1, t2, t3, t4, t5, t6, t7, t8, t9⟩ := cells10 Q4.out
    go_upto_region 20 with (fail)
    clear y0 z0 d0 t0 y1 z1 d1 t1 y2 z2 d2 t2 y3 z3 d3 t3 y4 z4 d4 t4 y5 z5 d5 t5 y6 z6 d6 t6 y7 z7 d7 t7 y8 z8 d8 t8 y9 z9 d9 t9
    obtain ⟨W2, hW2⟩ : ∃ W2, W2 = ((W.setCell ⟨w.heap.size + 1 + 1, 4, none⟩ (.string (rdOf ByteArray.empty l1 1))).setCell ⟨w.heap.size + 1 + 1, 1, none⟩ (.string (rdOf ByteArray.empty l1 0))) := ⟨_, rfl⟩
    have p4 : W2.heap[w.heap.size + 1]? = some (.cells #[.int .i64 0, .string ⟨#[]⟩, .string ⟨#[]⟩, .int .i64 0, .string ⟨#[]⟩, .slice none 0 0, .int .i64 0, .string ⟨#[]⟩, .string ⟨#[]⟩, .slice none 0 0] 34 (0, 0)) := by rw [hW2]; exact blk_far (blk_far (Q4.out) (show w.heap.size + 1 ≠ w.heap.size + 1 + 1 by omega) _) (show w.heap.size + 1 ≠ w.heap.size + 1 + 1 by omega) _
    have p5 : W2.heap[w.heap.size + 1 + 1]? = some (.cells #[.int .i64 a0_1, .string (rdOf ByteArray.empty l1 0), .string ⟨#[]⟩, .int .i64 a0_2, .string (rdOf ByteArray.empty l1 1), .slice none 0 0, .int .i64 a0_3, .string ⟨#[]⟩, .string ⟨#[]⟩, .slice none 0 0] 34 (0, 0)) := by
      rw [hW2]
      refine blk_put (cs := #[.int .i64 a0_1, .string ⟨#[]⟩, .string ⟨#[]⟩, .int .i64 a0_2, .string (rdOf ByteArray.empty l1 1), .slice none 0 0, .int .i64 a0_3, .string ⟨#[]⟩, .string ⟨#[]⟩, .slice none 0 0]) ?_ 1 _ rfl
      refine blk_put (cs := #[.int .i64 a0_1, .string ⟨#[]⟩, .string ⟨#[]⟩, .int .i64 a0_2, .string ⟨#[]⟩, .slice none 0 0, .int .i64 a0_3, .string ⟨#[]⟩, .string ⟨#[]⟩, .slice none 0 0]) ?_ 4 _ rfl
      exact Q5.out
    have pB : Below w.heap.size w W2 := by rw [hW2]; exact below_set (below_set (QB.out) (by omega)) (by omega)
    rw [← hW2]
    clear hW2
    obtain ⟨f0_, f1_, f2_, f3_, f4_, f5_, f6_, f7_, f8_, f9_, _, _, _, _, _, _, _, _, _, _⟩ := cells10 p5
    obtain ⟨i0_, i1_, i2_, i3_, i4_, i5_, i6_, i7_, i8_, i9_, g0_, g1_, g2_, g3_, g4_, g5_, g6_, g7_, g8_, g9_⟩ := cells10 p4
    have P4 := Aside0.mk p4
    have PB := Aside0.mk pB
    clear p4 p5 pB
    go_wp2
    refine bodyPost_ret (results_cell_row rfl _ _ (w.heap.size + 1) 34 #[.int .i64 a0_1, .string (rdOf ByteArray.empty l1 0), .string ⟨#[]⟩, .int .i64 a0_2, .string (rdOf ByteArray.empty l1 1), .slice none 0 0, .int .i64 a0_3, .string ⟨#[]⟩, .string ⟨#[]⟩, .slice none 0 0] (0, 0) _ rfl (put10 P4.out) Tryd.underlying34 rfl (by kernel_rfl)) rfl ?_
    exact ⟨_, _, rfl, Kd.R_nil _ _ _ _ _, Kd.R_nil _ _ _ _ _, below10 PB.out (by omega)⟩
  rw [if_neg c_unrecord] at h
  by_cases c_pull : a0_0.toList = ([112, 117, 108, 108] : List UInt8)
  · rw [if_pos c_pull] at h
    have k_power : (a0_0.toList == ([112, 111, 119, 101, 114] : List UInt8)) = false := beq_eq_false_iff_ne.mpr c_power
    have k_move : (a0_0.toList == ([109, 111, 118, 101] : List UInt8)) = false := beq_eq_false_iff_ne.mpr c_move
    have k_mkdir : (a0_0.toList == ([109, 107, 100, 105, 114] : List UInt8)) = false := beq_eq_false_iff_ne.mpr c_mkdir
    have k_remove : (a0_0.toList == ([114, 101, 109, 111, 118, 101] : List UInt8)) = false := beq_eq_false_iff_ne.mpr c_remove
    have k_write : (a0_0.toList == ([119, 114, 105, 116, 101] : List UInt8)) = false := beq_eq_false_iff_ne.mpr c_write
    have k_record : (a0_0.toList == ([114, 101, 99, 111, 114, 100] : List UInt8)) = false := beq_eq_false_iff_ne.mpr c_record
    have k_unrecord : (a0_0.toList == ([117, 110, 114, 101, 99, 111, 114, 100] : List UInt8)) = false := beq_eq_false_iff_ne.mpr c_unrecord
    have k_pull : (a0_0.toList == ([112, 117, 108, 108] : List UInt8)) = true := beq_iff_eq.mpr c_pull
    clear c_power c_move c_mkdir c_remove c_write c_record c_unrecord c_pull
    by_cases hn : 2 ≤ l1.length
    case neg => rw [if_neg hn] at h; cases h
    rw [if_pos hn] at h
    by_cases hd : (l1.drop 2).length * 16 ≤ 140737488355328
    case neg => rw [if_neg hd] at h; cases h
    rw [if_pos hd] at h
    injection h with h
    simp only [Prod.mk.injEq] at h
    obtain ⟨rfl, rfl, rfl, rfl, rfl, rfl, rfl, rfl, rfl, rfl⟩ := h
    obtain ⟨bk, o, rfl, hbk, hcell⟩ := row_cells HR0.out (by omega)
    have hj0 : decide ((0 : Int) < (l1.length : Int)) = true := decide_eq_true (by omega)
    have hk0 : decide (0 < l1.length) = true := decide_eq_true (by omega)
    have hl0 : (0 : Int) < (l1.length : Int) := by omega
    have x0 : W.cell? ⟨bk, o, none⟩ = some (.string (rdOf ByteArray.empty l1 0)) := (QB.out.cell (p := ⟨bk, o + 0, none⟩) hbk).trans (hcell 0 (by omega))
    have hj1 : decide ((1 : Int) < (l1.length : Int)) = true := decide_eq_true (by omega)
    have hk1 : decide (1 < l1.length) = true := decide_eq_true (by omega)
    have hl1 : (1 : Int) < (l1.length : Int) := by omega
    have x1 : W.cell? ⟨bk, o + 1, none⟩ = some (.string (rdOf ByteArray.empty l1 1)) := (QB.out.cell (p := ⟨bk, o + 1, none⟩) hbk).trans (hcell 1 (by omega))
    have b0 : bk ≠ w.heap.size := by omega
    have b1 : bk ≠ w.heap.size + 1 := by omega
    have b2 : bk ≠ w.heap.size + 1 + 1 := by omega
    clear hcell
    obtain ⟨y0, y1, y2, y3, y4, y5, y6, y7, y8, y9, d0, d1, d2, d3, d4, d5, d6, d7, d8, d9⟩ := cells10 Q5.out
    obtain ⟨z0, z1, z2, z3, z4, z5, z6, z7, z8, z9, t0, t1, t2, t3, t4, t5, t6, t7, t8, t9⟩ := cells10 Q4.out
    obtain ⟨o2, ho2, HCL⟩ : ∃ o2, (c1 = 2 ∧ o = o2 ∨ ¬ c1 = 2 ∧ o + 2 = o2) ∧ Aside0 (∀ W1 : World, Kd.C Kd.string W1 (some ⟨bk, o, none⟩) l1.length l1 → Calls Tryd.prog 112 #[.slice (some ⟨bk, o2, none⟩) (l1.length - 2) (c1 - 2)] W1 fun e w' => ∃ v0_ : Value, e = .returned v0_ ∧ Kd.R Kd.string 9 w' W1.heap.size (fun _ => True) v0_ (l1.drop 2) ∧ Below W1.heap.size W1 w') := by
      have hcl := fun (W1 : World) (hC1 : Kd.C Kd.string W1 (some ⟨bk, o, none⟩) l1.length l1) => slices_Clone_string_string.calls _ (c1 - 2) (l1.drop 2) (l1.drop 2) W1 (Kd.C_drop hC1 (show 2 ≤ l1.length by omega) HC.out) (by rw [List.length_drop]; have := HC.out; omega) (by rw [slices_Clone_string_string.f, if_pos hd])
      by_cases hcc : c1 = 2
      · refine ⟨o, .inl ⟨hcc, rfl⟩, ⟨fun W1 hC1 => ?_⟩⟩
        have := hcl W1 hC1
        rw [if_pos hcc, List.length_drop] at this
        exact this
      · refine ⟨o + 2, .inr ⟨hcc, rfl⟩, ⟨fun W1 hC1 => ?_⟩⟩
        have := hcl W1 hC1
        rw [if_neg hcc, List.length_drop, show ((some (⟨bk, o, none⟩ : Addr)).map (·.add (2 * Kd.string.sz))) = some ⟨bk, o + 2, none⟩ from congrArg some (add_at bk o 2)] at this
        exact this
    have hs1 : (2 : Int) ≤ (c1 : Int) := by have := HC.out; omega
    have hs2 : decide (2 ≤ c1) = true := decide_eq_true (by omega)
    have hs3 : decide (2 ≤ l1.length) = true := decide_eq_true (by omega)
    have hs4 : 2 ≤ c1 := by omega
    have hs5 : (2 : Int) ≤ (l1.length : Int) := by omega
    have hs6 : (2 ≤ l1.length) = True := eq_true (by omega)
    clear hd
    rcases ho2 with ⟨rfl, rfl⟩ | ⟨hcc, rfl⟩
    all_goals
      try (have H9 := HCL.out; simp only [Nat.sub_self] at H9; clear HCL; have HCL := Aside0.mk H9; clear H9)
      have WQ4 := Aside0.mk (blk_drew Q4.out)
      have WQ5 := Aside0.mk (blk_drew Q5.out)
      have WQB := Aside0.mk (below_drew1 QB.out)
      clear y0 d0 y3 d3 y4 d4 y6 d6 y7 d7 y8 d8 y9 d9 z0 t0 z1 t1 z2 t2 z3 t3 z4 t4 z5 t5 z6 t6 z7 t7 z8 t8 z9 t9
      go_upto_region 17 with (fail)
      go_region_law (first | (go_simp; go_at_call 112; refine (HCL.out _ (Kd.C_drew HR.out)).mono ?_; rintro e w2 ⟨v2, rfl, hR2, hB2⟩; obtain ⟨A2, c2, rfl, _⟩ := Kd.R_reads hR2; have HR2 := Aside0.mk hR2; have Q4b := Aside0.mk (blk_below WQ4.out hB2); have Q5b := Aside0.mk (blk_below WQ5.out hB2); have QBb := Aside0.mk (below_then WQB.out WQB.out.size hB2); have xb0 := (hB2.cell (p := ⟨bk, o, none⟩) (Nat.lt_of_lt_of_le hbk WQB.out.size)).trans (x0); have db1 := blk_frozen Q5b.out 1; have yb1 : w2.cell? ⟨w.heap.size + 1 + 1, 1, none⟩ = some (.string ⟨#[]⟩) := (blk_cell Q5b.out 1).trans rfl; have db5 := blk_frozen Q5b.out 5; have yb5 : w2.cell? ⟨w.heap.size + 1 + 1, 5, none⟩ = some (.slice none 0 0) := (blk_cell Q5b.out 5).trans rfl; have db2 := blk_frozen Q5b.out 2; have yb2 : w2.cell? ⟨w.heap.size + 1 + 1, 2, none⟩ = some (.string ⟨#[]⟩) := (blk_cell Q5b.out 2).trans rfl; have xb1 := (hB2.cell (p := ⟨bk, o + 1, none⟩) (Nat.lt_of_lt_of_le hbk WQB.out.size)).trans x1; clear hR2 hB2))
      all_goals
        go_upto_region 20 with (fail)
        clear yb1 db1 y1 d1 yb5 db5 y5 d5 yb2 db2 y2 d2
        obtain ⟨W2, hW2⟩ : ∃ W2, W2 = (((w2.setCell ⟨w.heap.size + 1 + 1, 2, none⟩ (.string (rdOf ByteArray.empty l1 1))).setCell ⟨w.heap.size + 1 + 1, 5, none⟩ (.slice A2 (l1.length - 2) c2)).setCell ⟨w.heap.size + 1 + 1, 1, none⟩ (.string (rdOf ByteArray.empty l1 0))) := ⟨_, rfl⟩
        have p4 : W2.heap[w.heap.size + 1]? = some (.cells #[.int .i64 0, .string ⟨#[]⟩, .string ⟨#[]⟩, .int .i64 0, .string ⟨#[]⟩, .slice none 0 0, .int .i64 0, .string ⟨#[]⟩, .string ⟨#[]⟩, .slice none 0 0] 34 (0, 0)) := by rw [hW2]; exact blk_far (blk_far (blk_far (Q4b.out) (show w.heap.size + 1 ≠ w.heap.size + 1 + 1 by omega) _) (show w.heap.size + 1 ≠ w.heap.size + 1 + 1 by omega) _) (show w.heap.size + 1 ≠ w.heap.size + 1 + 1 by omega) _
        have p5 : W2.heap[w.heap.size + 1 + 1]? = some (.cells #[.int .i64 a0_1, .string (rdOf ByteArray.empty l1 0), .string (rdOf ByteArray.empty l1 1), .int .i64 a0_2, .string ⟨#[]⟩, .slice A2 (l1.length - 2) c2, .int .i64 a0_3, .string ⟨#[]⟩, .string ⟨#[]⟩, .slice none 0 0] 34 (0, 0)) := by
          rw [hW2]
          refine blk_put (cs := #[.int .i64 a0_1, .string ⟨#[]⟩, .string (rdOf ByteArray.empty l1 1), .int .i64 a0_2, .string ⟨#[]⟩, .slice A2 (l1.length - 2) c2, .int .i64 a0_3, .string ⟨#[]⟩, .string ⟨#[]⟩, .slice none 0 0]) ?_ 1 _ rfl
          refine blk_put (cs := #[.int .i64 a0_1, .string ⟨#[]⟩, .string (rdOf ByteArray.empty l1 1), .int .i64 a0_2, .string ⟨#[]⟩, .slice none 0 0, .int .i64 a0_3, .string ⟨#[]⟩, .string ⟨#[]⟩, .slice none 0 0]) ?_ 5 _ rfl
          refine blk_put (cs := #[.int .i64 a0_1, .string ⟨#[]⟩, .string ⟨#[]⟩, .int .i64 a0_2, .string ⟨#[]⟩, .slice none 0 0, .int .i64 a0_3, .string ⟨#[]⟩, .string ⟨#[]⟩, .slice none 0 0]) ?_ 2 _ rfl
          exact Q5b.out
        have pB : Below w.heap.size w W2 := by rw [hW2]; exact below_set (below_set (below_set (QBb.out) (by omega)) (by omega)) (by omega)
        have hR8 := Kd.R_newB (Kd.R_newB HR2.out WQ5.out) WQ4.out
        rw [List.length_drop] at hR8
        have hRn : Kd.R Kd.string 9 W2 w.heap.size (fun k_ => (True ∧ k_ ≠ w.heap.size + 1 + 1) ∧ k_ ≠ w.heap.size + 1) (.slice A2 (l1.length - 2) c2) (l1.drop 2) := by
          rw [hW2]
          exact Kd.R_lower (Kd.R_far (Kd.R_far (Kd.R_far (hR8) (fun _ hk => hk.1.2) _) (fun _ hk => hk.1.2) _) (fun _ hk => hk.1.2) _) WQB.out.size
        clear hR8
        rw [← hW2]
        clear hW2
        obtain ⟨f0_, f1_, f2_, f3_, f4_, f5_, f6_, f7_, f8_, f9_, _, _, _, _, _, _, _, _, _, _⟩ := cells10 p5
        obtain ⟨i0_, i1_, i2_, i3_, i4_, i5_, i6_, i7_, i8_, i9_, g0_, g1_, g2_, g3_, g4_, g5_, g6_, g7_, g8_, g9_⟩ := cells10 p4
        have P4 := Aside0.mk p4
        have PB := Aside0.mk pB
        clear p4 p5 pB
        go_wp2
        refine bodyPost_ret (results_cell_row rfl _ _ (w.heap.size + 1) 34 #[.int .i64 a0_1, .string (rdOf ByteArray.empty l1 0), .string (rdOf ByteArray.empty l1 1), .int .i64 a0_2, .string ⟨#[]⟩, .slice A2 (l1.length - 2) c2, .int .i64 a0_3, .string ⟨#[]⟩, .string ⟨#[]⟩, .slice none 0 0] (0, 0) _ rfl (put10 P4.out) Tryd.underlying34 rfl (by kernel_rfl)) rfl ?_
        exact ⟨_, _, rfl, Kd.R_mono (R10 hRn (fun _ hk => hk.2)) (fun _ _ => by simp [Value.ownBlock]), Kd.R_nil _ _ _ _ _, below10 PB.out (by omega)⟩
  rw [if_neg c_pull] at h
  by_cases c_unpull : a0_0.toList = ([117, 110, 112, 117, 108, 108] : List UInt8)
  · rw [if_pos c_unpull] at h
    have k_power : (a0_0.toList == ([112, 111, 119, 101, 114] : List UInt8)) = false := beq_eq_false_iff_ne.mpr c_power
    have k_move : (a0_0.toList == ([109, 111, 118, 101] : List UInt8)) = false := beq_eq_false_iff_ne.mpr c_move
    have k_mkdir : (a0_0.toList == ([109, 107, 100, 105, 114] : List UInt8)) = false := beq_eq_false_iff_ne.mpr c_mkdir
    have k_remove : (a0_0.toList == ([114, 101, 109, 111, 118, 101] : List UInt8)) = false := beq_eq_false_iff_ne.mpr c_remove
    have k_write : (a0_0.toList == ([119, 114, 105, 116, 101] : List UInt8)) = false := beq_eq_false_iff_ne.mpr c_write
    have k_record : (a0_0.toList == ([114, 101, 99, 111, 114, 100] : List UInt8)) = false := beq_eq_false_iff_ne.mpr c_record
    have k_unrecord : (a0_0.toList == ([117, 110, 114, 101, 99, 111, 114, 100] : List UInt8)) = false := beq_eq_false_iff_ne.mpr c_unrecord
    have k_pull : (a0_0.toList == ([112, 117, 108, 108] : List UInt8)) = false := beq_eq_false_iff_ne.mpr c_pull
    have k_unpull : (a0_0.toList == ([117, 110, 112, 117, 108, 108] : List UInt8)) = true := beq_iff_eq.mpr c_unpull
    clear c_power c_move c_mkdir c_remove c_write c_record c_unrecord c_pull c_unpull
    by_cases hn : 1 ≤ l1.length
    case neg => rw [if_neg hn] at h; cases h
    rw [if_pos hn] at h
    by_cases hd : (l1.drop 1).length * 16 ≤ 140737488355328
    case neg => rw [if_neg hd] at h; cases h
    rw [if_pos hd] at h
    injection h with h
    simp only [Prod.mk.injEq] at h
    obtain ⟨rfl, rfl, rfl, rfl, rfl, rfl, rfl, rfl, rfl, rfl⟩ := h
    obtain ⟨bk, o, rfl, hbk, hcell⟩ := row_cells HR0.out (by omega)
    have hj0 : decide ((0 : Int) < (l1.length : Int)) = true := decide_eq_true (by omega)
    have hk0 : decide (0 < l1.length) = true := decide_eq_true (by omega)
    have hl0 : (0 : Int) < (l1.length : Int) := by omega
    have x0 : W.cell? ⟨bk, o, none⟩ = some (.string (rdOf ByteArray.empty l1 0)) := (QB.out.cell (p := ⟨bk, o + 0, none⟩) hbk).trans (hcell 0 (by omega))
    have b0 : bk ≠ w.heap.size := by omega
    have b1 : bk ≠ w.heap.size + 1 := by omega
    have b2 : bk ≠ w.heap.size + 1 + 1 := by omega
    clear hcell
    obtain ⟨y0, y1, y2, y3, y4, y5, y6, y7, y8, y9, d0, d1, d2, d3, d4, d5, d6, d7, d8, d9⟩ := cells10 Q5.out
    obtain ⟨z0, z1, z2, z3, z4, z5, z6, z7, z8, z9, t0, t1, t2, t3, t4, t5, t6, t7, t8, t9⟩ := cells10 Q4.out
    obtain ⟨o2, ho2, HCL⟩ : ∃ o2, (c1 = 1 ∧ o = o2 ∨ ¬ c1 = 1 ∧ o + 1 = o2) ∧ Aside0 (∀ W1 : World, Kd.C Kd.string W1 (some ⟨bk, o, none⟩) l1.length l1 → Calls Tryd.prog 112 #[.slice (some ⟨bk, o2, none⟩) (l1.length - 1) (c1 - 1)] W1 fun e w' => ∃ v0_ : Value, e = .returned v0_ ∧ Kd.R Kd.string 9 w' W1.heap.size (fun _ => True) v0_ (l1.drop 1) ∧ Below W1.heap.size W1 w') := by
      have hcl := fun (W1 : World) (hC1 : Kd.C Kd.string W1 (some ⟨bk, o, none⟩) l1.length l1) => slices_Clone_string_string.calls _ (c1 - 1) (l1.drop 1) (l1.drop 1) W1 (Kd.C_drop hC1 (show 1 ≤ l1.length by omega) HC.out) (by rw [List.length_drop]; have := HC.out; omega) (by rw [slices_Clone_string_string.f, if_pos hd])
      by_cases hcc : c1 = 1
      · refine ⟨o, .inl ⟨hcc, rfl⟩, ⟨fun W1 hC1 => ?_⟩⟩
        have := hcl W1 hC1
        rw [if_pos hcc, List.length_drop] at this
        exact this
      · refine ⟨o + 1, .inr ⟨hcc, rfl⟩, ⟨fun W1 hC1 => ?_⟩⟩
        have := hcl W1 hC1
        rw [if_neg hcc, List.length_drop, show ((some (⟨bk, o, none⟩ : Addr)).map (·.add (1 * Kd.string.sz))) = some ⟨bk, o + 1, none⟩ from congrArg some (add_at bk o 1)] at this
        exact this
    have hs1 : (1 : Int) ≤ (c1 : Int) := by have := HC.out; omega
    have hs2 : decide (1 ≤ c1) = true := decide_eq_true (by omega)
    have hs3 : decide (1 ≤ l1.length) = true := decide_eq_true (by omega)
    have hs4 : 1 ≤ c1 := by omega
    have hs5 : (1 : Int) ≤ (l1.length : Int) := by omega
    have hs6 : (1 ≤ l1.length) = True := eq_true (by omega)
    clear hd
    rcases ho2 with ⟨rfl, rfl⟩ | ⟨hcc, rfl⟩
    all_goals
      try (have H9 := HCL.out; simp only [Nat.sub_self] at H9; clear HCL; have HCL := Aside0.mk H9; clear H9)
      have WQ4 := Q4; have WQ5 := Q5; have WQB := QB
      go_upto_region 20 with (first | (go_at_call 112; refine (HCL.out _ HR.out).mono ?_; rintro e w2 ⟨v2, rfl, hR2, hB2⟩; obtain ⟨A2, c2, rfl, _⟩ := Kd.R_reads hR2; have HR2 := Aside0.mk hR2; have Q4b := Aside0.mk (blk_below WQ4.out hB2); have Q5b := Aside0.mk (blk_below WQ5.out hB2); have QBb := Aside0.mk (below_then WQB.out WQB.out.size hB2); have xb0 := (hB2.cell (p := ⟨bk, o, none⟩) (Nat.lt_of_lt_of_le hbk WQB.out.size)).trans (x0); have db5 := blk_frozen Q5b.out 5; have yb5 : w2.cell? ⟨w.heap.size + 1 + 1, 5, none⟩ = some (.slice none 0 0) := (blk_cell Q5b.out 5).trans rfl; have db1 := blk_frozen Q5b.out 1; have yb1 : w2.cell? ⟨w.heap.size + 1 + 1, 1, none⟩ = some (.string ⟨#[]⟩) := (blk_cell Q5b.out 1).trans rfl; clear hR2 hB2))
      clear y0 z0 d0 t0 y1 z1 d1 t1 y2 z2 d2 t2 y3 z3 d3 t3 y4 z4 d4 t4 y5 z5 d5 t5 y6 z6 d6 t6 y7 z7 d7 t7 y8 z8 d8 t8 y9 z9 d9 t9
      obtain ⟨W2, hW2⟩ : ∃ W2, W2 = ((w2.setCell ⟨w.heap.size + 1 + 1, 5, none⟩ (.slice A2 (l1.length - 1) c2)).setCell ⟨w.heap.size + 1 + 1, 1, none⟩ (.string (rdOf ByteArray.empty l1 0))) := ⟨_, rfl⟩
      have p4 : W2.heap[w.heap.size + 1]? = some (.cells #[.int .i64 0, .string ⟨#[]⟩, .string ⟨#[]⟩, .int .i64 0, .string ⟨#[]⟩, .slice none 0 0, .int .i64 0, .string ⟨#[]⟩, .string ⟨#[]⟩, .slice none 0 0] 34 (0, 0)) := by rw [hW2]; exact blk_far (blk_far (Q4b.out) (show w.heap.size + 1 ≠ w.heap.size + 1 + 1 by omega) _) (show w.heap.size + 1 ≠ w.heap.size + 1 + 1 by omega) _
      have p5 : W2.heap[w.heap.size + 1 + 1]? = some (.cells #[.int .i64 a0_1, .string (rdOf ByteArray.empty l1 0), .string ⟨#[]⟩, .int .i64 a0_2, .string ⟨#[]⟩, .slice A2 (l1.length - 1) c2, .int .i64 a0_3, .string ⟨#[]⟩, .string ⟨#[]⟩, .slice none 0 0] 34 (0, 0)) := by
        rw [hW2]
        refine blk_put (cs := #[.int .i64 a0_1, .string ⟨#[]⟩, .string ⟨#[]⟩, .int .i64 a0_2, .string ⟨#[]⟩, .slice A2 (l1.length - 1) c2, .int .i64 a0_3, .string ⟨#[]⟩, .string ⟨#[]⟩, .slice none 0 0]) ?_ 1 _ rfl
        refine blk_put (cs := #[.int .i64 a0_1, .string ⟨#[]⟩, .string ⟨#[]⟩, .int .i64 a0_2, .string ⟨#[]⟩, .slice none 0 0, .int .i64 a0_3, .string ⟨#[]⟩, .string ⟨#[]⟩, .slice none 0 0]) ?_ 5 _ rfl
        exact Q5b.out
      have pB : Below w.heap.size w W2 := by rw [hW2]; exact below_set (below_set (QBb.out) (by omega)) (by omega)
      have hR8 := Kd.R_newB (Kd.R_newB HR2.out WQ5.out) WQ4.out
      rw [List.length_drop] at hR8
      have hRn : Kd.R Kd.string 9 W2 w.heap.size (fun k_ => (True ∧ k_ ≠ w.heap.size + 1 + 1) ∧ k_ ≠ w.heap.size + 1) (.slice A2 (l1.length - 1) c2) (l1.drop 1) := by
        rw [hW2]
        exact Kd.R_lower (Kd.R_far (Kd.R_far (hR8) (fun _ hk => hk.1.2) _) (fun _ hk => hk.1.2) _) WQB.out.size
      clear hR8
      rw [← hW2]
      clear hW2
      obtain ⟨f0_, f1_, f2_, f3_, f4_, f5_, f6_, f7_, f8_, f9_, _, _, _, _, _, _, _, _, _, _⟩ := cells10 p5
      obtain ⟨i0_, i1_, i2_, i3_, i4_, i5_, i6_, i7_, i8_, i9_, g0_, g1_, g2_, g3_, g4_, g5_, g6_, g7_, g8_, g9_⟩ := cells10 p4
      have P4 := Aside0.mk p4
      have PB := Aside0.mk pB
      clear p4 p5 pB
      go_wp2
      refine bodyPost_ret (results_cell_row rfl _ _ (w.heap.size + 1) 34 #[.int .i64 a0_1, .string (rdOf ByteArray.empty l1 0), .string ⟨#[]⟩, .int .i64 a0_2, .string ⟨#[]⟩, .slice A2 (l1.length - 1) c2, .int .i64 a0_3, .string ⟨#[]⟩, .string ⟨#[]⟩, .slice none 0 0] (0, 0) _ rfl (put10 P4.out) Tryd.underlying34 rfl (by kernel_rfl)) rfl ?_
      exact ⟨_, _, rfl, Kd.R_mono (R10 hRn (fun _ hk => hk.2)) (fun _ _ => by simp [Value.ownBlock]), Kd.R_nil _ _ _ _ _, below10 PB.out (by omega)⟩
  rw [if_neg c_unpull] at h
  have k_power : (a0_0.toList == ([112, 111, 119, 101, 114] : List UInt8)) = false := beq_eq_false_iff_ne.mpr c_power
  have k_move : (a0_0.toList == ([109, 111, 118, 101] : List UInt8)) = false := beq_eq_false_iff_ne.mpr c_move
  have k_mkdir : (a0_0.toList == ([109, 107, 100, 105, 114] : List UInt8)) = false := beq_eq_false_iff_ne.mpr c_mkdir
  have k_remove : (a0_0.toList == ([114, 101, 109, 111, 118, 101] : List UInt8)) = false := beq_eq_false_iff_ne.mpr c_remove
  have k_write : (a0_0.toList == ([119, 114, 105, 116, 101] : List UInt8)) = false := beq_eq_false_iff_ne.mpr c_write
  have k_record : (a0_0.toList == ([114, 101, 99, 111, 114, 100] : List UInt8)) = false := beq_eq_false_iff_ne.mpr c_record
  have k_unrecord : (a0_0.toList == ([117, 110, 114, 101, 99, 111, 114, 100] : List UInt8)) = false := beq_eq_false_iff_ne.mpr c_unrecord
  have k_pull : (a0_0.toList == ([112, 117, 108, 108] : List UInt8)) = false := beq_eq_false_iff_ne.mpr c_pull
  have k_unpull : (a0_0.toList == ([117, 110, 112, 117, 108, 108] : List UInt8)) = false := beq_eq_false_iff_ne.mpr c_unpull
  clear c_power c_move c_mkdir c_remove c_write c_record c_unrecord c_pull c_unpull
  by_cases hn : 1 ≤ l1.length
  case neg => rw [if_neg hn] at h; cases h
  rw [if_pos hn] at h
  injection h with h
  simp only [Prod.mk.injEq] at h
  obtain ⟨rfl, rfl, rfl, rfl, rfl, rfl, rfl, rfl, rfl, rfl⟩ := h
  obtain ⟨bk, o, rfl, hbk, hcell⟩ := row_cells HR0.out (by omega)
  have hj0 : decide ((0 : Int) < (l1.length : Int)) = true := decide_eq_true (by omega)
  have hk0 : decide (0 < l1.length) = true := decide_eq_true (by omega)
  have hl0 : (0 : Int) < (l1.length : Int) := by omega
  have x0 : W.cell? ⟨bk, o, none⟩ = some (.string (rdOf ByteArray.empty l1 0)) := (QB.out.cell (p := ⟨bk, o + 0, none⟩) hbk).trans (hcell 0 (by omega))
  have b0 : bk ≠ w.heap.size := by omega
  have b1 : bk ≠ w.heap.size + 1 := by omega
  have b2 : bk ≠ w.heap.size + 1 + 1 := by omega
  clear hcell
  obtain ⟨y0, y1, y2, y3, y4, y5, y6, y7, y8, y9, d0, d1, d2, d3, d4, d5, d6, d7, d8, d9⟩ := cells10 Q5.out
  obtain ⟨z0, z1, z2, z3, z4, z5, z6, z7, z8, z9, t0, t1, t2, t3, t4, t5, t6, t7, t8, t9⟩ := cells10 Q4.out
  go_upto_region 20 with (fail)
  clear y0 z0 d0 t0 y1 z1 d1 t1 y2 z2 d2 t2 y3 z3 d3 t3 y4 z4 d4 t4 y5 z5 d5 t5 y6 z6 d6 t6 y7 z7 d7 t7 y8 z8 d8 t8 y9 z9 d9 t9
  obtain ⟨W2, hW2⟩ : ∃ W2, W2 = (W.setCell ⟨w.heap.size + 1 + 1, 1, none⟩ (.string (rdOf ByteArray.empty l1 0))) := ⟨_, rfl⟩
  have p4 : W2.heap[w.heap.size + 1]? = some (.cells #[.int .i64 0, .string ⟨#[]⟩, .string ⟨#[]⟩, .int .i64 0, .string ⟨#[]⟩, .slice none 0 0, .int .i64 0, .string ⟨#[]⟩, .string ⟨#[]⟩, .slice none 0 0] 34 (0, 0)) := by rw [hW2]; exact blk_far (Q4.out) (show w.heap.size + 1 ≠ w.heap.size + 1 + 1 by omega) _
  have p5 : W2.heap[w.heap.size + 1 + 1]? = some (.cells #[.int .i64 a0_1, .string (rdOf ByteArray.empty l1 0), .string ⟨#[]⟩, .int .i64 a0_2, .string ⟨#[]⟩, .slice none 0 0, .int .i64 a0_3, .string ⟨#[]⟩, .string ⟨#[]⟩, .slice none 0 0] 34 (0, 0)) := by
    rw [hW2]
    refine blk_put (cs := #[.int .i64 a0_1, .string ⟨#[]⟩, .string ⟨#[]⟩, .int .i64 a0_2, .string ⟨#[]⟩, .slice none 0 0, .int .i64 a0_3, .string ⟨#[]⟩, .string ⟨#[]⟩, .slice none 0 0]) ?_ 1 _ rfl
    exact Q5.out
  have pB : Below w.heap.size w W2 := by rw [hW2]; exact below_set (QB.out) (by omega)
  rw [← hW2]
  clear hW2
  obtain ⟨f0_, f1_, f2_, f3_, f4_, f5_, f6_, f7_, f8_, f9_, _, _, _, _, _, _, _, _, _, _⟩ := cells10 p5
  obtain ⟨i0_, i1_, i2_, i3_, i4_, i5_, i6_, i7_, i8_, i9_, g0_, g1_, g2_, g3_, g4_, g5_, g6_, g7_, g8_, g9_⟩ := cells10 p4
  have P4 := Aside0.mk p4
  have PB := Aside0.mk pB
  clear p4 p5 pB
  go_wp2
  refine bodyPost_ret (results_cell_row rfl _ _ (w.heap.size + 1) 34 #[.int .i64 a0_1, .string (rdOf ByteArray.empty l1 0), .string ⟨#[]⟩, .int .i64 a0_2, .string ⟨#[]⟩, .slice none 0 0, .int .i64 a0_3, .string ⟨#[]⟩, .string ⟨#[]⟩, .slice none 0 0] (0, 0) _ rfl (put10 P4.out) Tryd.underlying34 rfl (by kernel_rfl)) rfl ?_
  exact ⟨_, _, rfl, Kd.R_nil _ _ _ _ _, Kd.R_nil _ _ _ _ _, below10 PB.out (by omega)⟩
end Go.Proofs.YtloibeefopdhpaaDoor.G
