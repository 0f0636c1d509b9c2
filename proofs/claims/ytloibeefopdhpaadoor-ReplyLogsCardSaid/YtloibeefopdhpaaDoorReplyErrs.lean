/- reply.Errs: how many replies there are of each error: twenty counters. -/
import Derived.Test.YtloibeefopdhpaaDoorIndexByte
import Derived.Outline
import Derived.Laws.Tables
set_option linter.unusedVariables false
namespace Go.Proofs.YtloibeefopdhpaaDoor.G
open Go.RowKit Go.Proofs.YtloibeefopdhpaaDoorW.PrintWords Go.Proofs.YtloibeefopdhpaaDoorW.PrintLast Go.Proofs.YtloibeefopdhpaaDoorW.PrintMore

/-- Which counter an error goes to. -/
def errIx (e : Int) : Nat := if e < 0 then 19 else if 18 < e then 19 else e.toNat
theorem errIx_lt (e : Int) : errIx e < 20 := by
  unfold errIx
  split
  · omega
  · split <;> omega
def bump (c : List Int) (e : Int) : List Int := c.set (errIx e) (wrap64 (c.getD (errIx e) 0 + 1))
theorem bump_length (c : List Int) (e : Int) : (bump c e).length = c.length := by simp [bump]
def errsL (l : List S54) : List Int := l.foldl (fun c r => bump c r.f0) (List.replicate 20 0)
def ints (c : List Int) : List Value := c.map (Value.int .i64)
theorem errs_take (l : List S54) (i : Nat) (h : i < l.length) : (l.take (i + 1)).foldl (fun c r => bump c r.f0) (List.replicate 20 0) = bump ((l.take i).foldl (fun c r => bump c r.f0) (List.replicate 20 0)) l[i].f0 := by
  rw [List.take_succ_eq_append_getElem h, List.foldl_append]
  rfl
theorem ints_cell {w : World} {g t : Nat} {c : List Int} (h : w.heap[g]? = some (.cells (ints c).toArray t (0, 0))) (j : Nat) (hj : j < c.length) : w.cell? ⟨g, j, none⟩ = some (.int .i64 (c.getD j 0)) := by
  rw [blk_cell h j]
  simp [ints, hj]
theorem ints_set {w : World} {g t : Nat} {c : List Int} (h : w.heap[g]? = some (.cells (ints c).toArray t (0, 0))) (j : Nat) (x : Int) : (w.setCell ⟨g, j, none⟩ (.int .i64 x)).heap[g]? = some (.cells (ints (c.set j x)).toArray t (0, 0)) := by
  have := blk_set h j (.int .i64 x)
  rw [this]
  simp [ints, List.map_set]
theorem below_setRow {W0 W : World} {g : Nat} {cs : Array Value} (h : Below W0.heap.size W0 W) (hg : W0.heap.size ≤ g) : Below W0.heap.size W0 (W.setRow g cs) :=
  ⟨h.os, h.tape, h.output, by simpa [World.setRow] using h.size, fun k hk => (setRow_other W g k cs (by omega)).trans (h.block k hk)⟩
set_option maxHeartbeats 4000000 in
set_option maxRecDepth 100000 in
theorem reply_Errs.calls (A0 : Option Addr) (c0 : Nat) (l0 : List S54) (w : World) (hr0 : Kd.C k54 w A0 l0.length l0) :
    Calls Tryd.prog 39 #[.slice A0 l0.length c0] w fun e w' => e = .returned (.agg (ints (errsL l0)).toArray) ∧ Below w.heap.size w w' := by
  have hm := Kd.C_max hr0
  have HR := Aside0.mk hr0
  obtain ⟨W2, hW2⟩ : ∃ W2 : World, W2 = (w.alloc (.cells #[.int .i64 0, .int .i64 0, .int .i64 0, .int .i64 0, .int .i64 0, .int .i64 0, .int .i64 0, .int .i64 0, .int .i64 0, .int .i64 0, .int .i64 0, .int .i64 0, .int .i64 0, .int .i64 0, .int .i64 0, .int .i64 0, .int .i64 0, .int .i64 0, .int .i64 0, .int .i64 0] 65)).alloc (.cells #[.int .i64 0, .int .i64 0, .int .i64 0, .int .i64 0, .int .i64 0, .int .i64 0, .int .i64 0, .int .i64 0, .int .i64 0, .int .i64 0, .int .i64 0, .int .i64 0, .int .i64 0, .int .i64 0, .int .i64 0, .int .i64 0, .int .i64 0, .int .i64 0, .int .i64 0, .int .i64 0] 65) := ⟨_, rfl⟩
  have HZ : Aside0 (((w.alloc (.cells #[.int .i64 0, .int .i64 0, .int .i64 0, .int .i64 0, .int .i64 0, .int .i64 0, .int .i64 0, .int .i64 0, .int .i64 0, .int .i64 0, .int .i64 0, .int .i64 0, .int .i64 0, .int .i64 0, .int .i64 0, .int .i64 0, .int .i64 0, .int .i64 0, .int .i64 0, .int .i64 0] 65)).alloc (.cells #[.int .i64 0, .int .i64 0, .int .i64 0, .int .i64 0, .int .i64 0, .int .i64 0, .int .i64 0, .int .i64 0, .int .i64 0, .int .i64 0, .int .i64 0, .int .i64 0, .int .i64 0, .int .i64 0, .int .i64 0, .int .i64 0, .int .i64 0, .int .i64 0, .int .i64 0, .int .i64 0] 65)).heap[w.heap.size]? = some (.cells #[.int .i64 0, .int .i64 0, .int .i64 0, .int .i64 0, .int .i64 0, .int .i64 0, .int .i64 0, .int .i64 0, .int .i64 0, .int .i64 0, .int .i64 0, .int .i64 0, .int .i64 0, .int .i64 0, .int .i64 0, .int .i64 0, .int .i64 0, .int .i64 0, .int .i64 0, .int .i64 0] 65 (0, 0))) := ⟨blk_alloc (by simpa using heap_alloc_new w (.cells #[.int .i64 0, .int .i64 0, .int .i64 0, .int .i64 0, .int .i64 0, .int .i64 0, .int .i64 0, .int .i64 0, .int .i64 0, .int .i64 0, .int .i64 0, .int .i64 0, .int .i64 0, .int .i64 0, .int .i64 0, .int .i64 0, .int .i64 0, .int .i64 0, .int .i64 0, .int .i64 0] 65)) _⟩
  have HG : Aside0 (((w.alloc (.cells #[.int .i64 0, .int .i64 0, .int .i64 0, .int .i64 0, .int .i64 0, .int .i64 0, .int .i64 0, .int .i64 0, .int .i64 0, .int .i64 0, .int .i64 0, .int .i64 0, .int .i64 0, .int .i64 0, .int .i64 0, .int .i64 0, .int .i64 0, .int .i64 0, .int .i64 0, .int .i64 0] 65)).alloc (.cells #[.int .i64 0, .int .i64 0, .int .i64 0, .int .i64 0, .int .i64 0, .int .i64 0, .int .i64 0, .int .i64 0, .int .i64 0, .int .i64 0, .int .i64 0, .int .i64 0, .int .i64 0, .int .i64 0, .int .i64 0, .int .i64 0, .int .i64 0, .int .i64 0, .int .i64 0, .int .i64 0] 65)).heap[w.heap.size + 1]? = some (.cells (ints (List.replicate 20 0)).toArray 65 (0, 0))) := ⟨by
    have h_ := heap_alloc_new (w.alloc (.cells #[.int .i64 0, .int .i64 0, .int .i64 0, .int .i64 0, .int .i64 0, .int .i64 0, .int .i64 0, .int .i64 0, .int .i64 0, .int .i64 0, .int .i64 0, .int .i64 0, .int .i64 0, .int .i64 0, .int .i64 0, .int .i64 0, .int .i64 0, .int .i64 0, .int .i64 0, .int .i64 0] 65)) (.cells #[.int .i64 0, .int .i64 0, .int .i64 0, .int .i64 0, .int .i64 0, .int .i64 0, .int .i64 0, .int .i64 0, .int .i64 0, .int .i64 0, .int .i64 0, .int .i64 0, .int .i64 0, .int .i64 0, .int .i64 0, .int .i64 0, .int .i64 0, .int .i64 0, .int .i64 0, .int .i64 0] 65)
    simpa [ints, List.replicate] using h_⟩
  have HB : Aside0 (Below w.heap.size w ((w.alloc (.cells #[.int .i64 0, .int .i64 0, .int .i64 0, .int .i64 0, .int .i64 0, .int .i64 0, .int .i64 0, .int .i64 0, .int .i64 0, .int .i64 0, .int .i64 0, .int .i64 0, .int .i64 0, .int .i64 0, .int .i64 0, .int .i64 0, .int .i64 0, .int .i64 0, .int .i64 0, .int .i64 0] 65)).alloc (.cells #[.int .i64 0, .int .i64 0, .int .i64 0, .int .i64 0, .int .i64 0, .int .i64 0, .int .i64 0, .int .i64 0, .int .i64 0, .int .i64 0, .int .i64 0, .int .i64 0, .int .i64 0, .int .i64 0, .int .i64 0, .int .i64 0, .int .i64 0, .int .i64 0, .int .i64 0, .int .i64 0] 65))) := ⟨((Below.refl _ w).alloc (Nat.le_refl _) _).alloc (by simp) _⟩
  clear hr0 hW2 W2
  go_enter Tryd.func39, Tryd.ntmps39
  go_wp2
  go_loopg [8] l0.length (fun gk v8 w' => ∃ (i : Nat) (c : List Int), v8 = .int .i64 i ∧ Aside0 (i + gk = l0.length) ∧ Aside0 (c = (l0.take i).foldl (fun c r => bump c r.f0) (List.replicate 20 0)) ∧ Aside0 (c.length = 20) ∧ Aside0 (w'.heap[w.heap.size]? = some (.cells #[.int .i64 0, .int .i64 0, .int .i64 0, .int .i64 0, .int .i64 0, .int .i64 0, .int .i64 0, .int .i64 0, .int .i64 0, .int .i64 0, .int .i64 0, .int .i64 0, .int .i64 0, .int .i64 0, .int .i64 0, .int .i64 0, .int .i64 0, .int .i64 0, .int .i64 0, .int .i64 0] 65 (0, 0))) ∧ Aside0 (w'.heap[w.heap.size + 1]? = some (.cells (ints c).toArray 65 (0, 0))) ∧ Aside0 (Below w.heap.size w w'))
  case atStart => exact ⟨0, List.replicate 20 0, rfl, ⟨by omega⟩, ⟨rfl⟩, ⟨by simp⟩, HZ, HG, HB⟩
  case round =>
    clear HZ HG HB
    obtain ⟨i, c, rfl, HI, HC, HL, HZ, HG, HB⟩ := hrel
    by_cases hi : i < l0.length
    · have HT := Aside0.mk (errs_take l0 i hi)
      have hx := at_T54 HR.out (i : Int) (by omega) (by omega)
      have e1 : rd_T54 l0 (i : Int) = l0[i] := by simp [rd_T54, hi]
      rw [e1, Int.toNat_natCast] at hx
      clear e1
      generalize l0[i] = x at hx HT
      obtain ⟨ad, A1, c1, A2, c2, A3, c3, A4, c4, e0, x0, x1, x2, x3, x4, _, _, _, _, _, _, _, _⟩ := hx
      cases e0
      have hbl : ∀ q : Addr, ∀ u, w.cell? q = some u → wr.cell? q = some u := fun q u hq => (HB.out.cell (World.block_lt_of_cell? w _ hq)).trans hq
      replace x0 := hbl _ _ x0
      replace x1 := hbl _ _ x1
      replace x2 := hbl _ _ x2
      replace x3 := hbl _ _ x3
      replace x4 := hbl _ _ x4
      clear hbl
      have hi' : (i : Int) < (l0.length : Int) := by omega
      have HG1 := Aside0.mk (blk_alloc HG.out (.cells #[.int .i64 x.f0, .slice A1 x.f1.length c1, .slice A2 x.f2.length c2, .slice A3 x.f3.length c3, .slice A4 x.f4.length c4] 54))
      have HZ1 := Aside0.mk (blk_alloc HZ.out (.cells #[.int .i64 x.f0, .slice A1 x.f1.length c1, .slice A2 x.f2.length c2, .slice A3 x.f3.length c3, .slice A4 x.f4.length c4] 54))
      have HB1 := Aside0.mk (below_alloc HB.out (.cells #[.int .i64 x.f0, .slice A1 x.f1.length c1, .slice A2 x.f2.length c2, .slice A3 x.f3.length c3, .slice A4 x.f4.length c4] 54))
      have hix := errIx_lt x.f0
      have hcell := ints_cell HG1.out (errIx x.f0) (by rw [HL.out]; exact hix)
      have hfro := blk_frozen HG1.out (errIx x.f0)
      have hfin : ∀ v w' : Value, True := fun _ _ => trivial
      clear hfin
      have hcase : (x.f0 < 0 ∧ errIx x.f0 = 19) ∨ (¬ x.f0 < 0 ∧ 18 < x.f0 ∧ errIx x.f0 = 19) ∨ (¬ x.f0 < 0 ∧ ¬ 18 < x.f0 ∧ errIx x.f0 = x.f0.toNat) := by
        unfold errIx
        by_cases h1 : x.f0 < 0
        · exact .inl ⟨h1, by rw [if_pos h1]⟩
        · by_cases h2 : 18 < x.f0
          · exact .inr (.inl ⟨h1, h2, by rw [if_neg h1, if_pos h2]⟩)
          · exact .inr (.inr ⟨h1, h2, by rw [if_neg h1, if_neg h2]⟩)
      obtain ⟨ix, hix1⟩ : ∃ ix, ix = errIx x.f0 := ⟨_, rfl⟩
      have HBU : Aside0 (bump c x.f0 = c.set ix (wrap64 (c.getD ix 0 + 1))) := ⟨by rw [hix1]; rfl⟩
      rw [← hix1] at hix hcell hfro hcase
      clear hix1
      rw [← HC.out] at HT
      rcases hcase with ⟨k1, rfl⟩ | ⟨k1, k2, rfl⟩ | ⟨k1, k2, rfl⟩
      all_goals
        try (have k3 : 0 ≤ x.f0 := by omega)
        try (have k4 : x.f0 < 20 := by omega)
        go_wp2
        go_roundg (gk - 1)
        case measure => have := HI.out; omega
        case rel => exact ⟨i + 1, bump c x.f0, by go_num, ⟨by have := HI.out; omega⟩, ⟨HT.out.symm⟩, ⟨by rw [bump_length]; exact HL.out⟩, ⟨blk_far HZ1.out (by simp only; omega) _⟩, ⟨by rw [HBU.out]; exact ints_set HG1.out _ _⟩, ⟨below_set HB1.out (by omega)⟩⟩
    · have hge : l0.length ≤ i := by omega
      have HF : Aside0 (c = errsL l0) := ⟨by rw [HC.out, List.take_of_length_le hge]; rfl⟩
      have HSZ : Aside0 ((Tryd.prog.info? 65).map (·.size) = some (ints c).toArray.size) := ⟨by
        rw [show (ints c).toArray.size = 20 by simp [ints, HL.out]]
        kernel_rfl⟩
      have HOL : Aside0 ((#[.int .i64 0, .int .i64 0, .int .i64 0, .int .i64 0, .int .i64 0, .int .i64 0, .int .i64 0, .int .i64 0, .int .i64 0, .int .i64 0, .int .i64 0, .int .i64 0, .int .i64 0, .int .i64 0, .int .i64 0, .int .i64 0, .int .i64 0, .int .i64 0, .int .i64 0, .int .i64 0] : Array Value).size = (ints c).toArray.size) := ⟨by
        rw [show (ints c).toArray.size = 20 by simp [ints, HL.out]]
        rfl⟩
      have hi' : ¬ (i : Int) < (l0.length : Int) := by omega
      clear HC HL
      go_wp2_with (first | (refine gate_ (.load 65 (.tmp 3)) rfl ?_; refine wpList_load_row rfl 65 (.tmp 3) rfl (w.heap.size + 1) rfl 65 (ints c).toArray (0, 0) _ HG.out Tryd.underlying65 rfl HSZ.out ?_) | (refine gate_ (.store 65 (.tmp 2) (.tmp 31)) rfl ?_; refine wpList_store_row rfl 65 (.tmp 2) (.tmp 31) rfl w.heap.size (ints c).toArray rfl rfl 65 _ HZ.out HSZ.out HOL.out (by simp [ints, Value.oneCell']) ?_))
      refine bodyPost_ret (results_cell_row rfl _ _ w.heap.size 65 (ints c).toArray (0, 0) _ rfl (setRow_heap _ _ _ _ _ _ HZ.out) Tryd.underlying65 rfl HSZ.out) rfl ?_
      exact ⟨by rw [HF.out], below_setRow HB.out (Nat.le_refl _)⟩

end Go.Proofs.YtloibeefopdhpaaDoor.G
