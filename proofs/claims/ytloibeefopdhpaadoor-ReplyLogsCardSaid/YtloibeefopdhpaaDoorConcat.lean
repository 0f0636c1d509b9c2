-- Words of the kit's print (as it laid them for this seat); what this claim does not use is left out.
import Derived.Test.YtloibeefopdhpaaDoorG0
import Derived.Lib.AppendZerosOnto
import Derived.Lib.Walk
import Derived.Outline
set_option linter.unusedVariables false
namespace Go.Proofs.YtloibeefopdhpaaDoor.G
open Go.RowKit Go.Proofs.YtloibeefopdhpaaDoorW.PrintWords Go.Proofs.YtloibeefopdhpaaDoorW.PrintLast Go.Proofs.YtloibeefopdhpaaDoorW.PrintMore
set_option maxRecDepth 100000 in
theorem grow_any (n : Nat) (hn : n * 16 ≤ 140737488355328) (w : World) :
    Calls Tryd.prog 130 #[.slice none 0 0, .int .i64 n] w fun e w' => ∃ v, e = .returned v ∧ Kd.R Kd.string 9 w' w.heap.size (fun _ => True) v [] ∧ Below w.heap.size w w' := by
  by_cases h0 : n = 0
  · subst h0
    go_enter Tryd.func130, Tryd.ntmps130
    go_wp2
    go_ret
    exact ⟨_, rfl, Kd.R_nil _ _ _ _ _, Below.refl _ _⟩
  · obtain ⟨i0, hi0, hz0, hs0, hb0⟩ := info_parts info9
    have hrz : ∀ ty, (Builtin.append_ #[28, 3] ty #[.slice none 0 0, .int .i64 (n : Int)]).run Tryd.prog w =
        .ok (.slice (some ⟨w.heap.size, 0, none⟩) n (grownCap w n 0 9)) (w.drew.alloc (.cells (#[] ++ Builtin.zeroCells (Value.string ⟨#[]⟩).cells n ++ Builtin.zeroCells (Value.string ⟨#[]⟩).cells (grownCap w n 0 9 - n)) 9)) := fun ty => by
      have h := Lib.run_append_grow_zeros (P := Tryd.prog) w 28 3 ty 9 i0 (.string ⟨#[]⟩) .i64 .i64 Tryd.underlying28 Tryd.underlying3 hi0 hz0 none 0 0 [] (by rw [hs0]; exact run_firstCells_none w.drew 1 0 0 0) n (by omega) (by omega) (by omega) (by omega)
        (by rw [hb0]; omega) (by rw [hb0]; exact growslice_fits (by omega) (by omega))
      rw [Nat.zero_add] at h
      exact h
    have hGn : n ≤ grownCap w n 0 9 := grownCap_ge w _ _ _
    have hGm := grownCap_le_maxLen w n 0 9 (by simp only [maxLen]; omega)
    obtain ⟨G, hG⟩ : ∃ G, G = grownCap w n 0 9 := ⟨_, rfl⟩
    rw [← hG] at hrz hGn hGm
    obtain ⟨cells, hcells, hsz⟩ : ∃ cells : Array Value, cells = #[] ++ Builtin.zeroCells (Value.string ⟨#[]⟩).cells n ++ Builtin.zeroCells (Value.string ⟨#[]⟩).cells (G - n) ∧ cells.size = G := by
      refine ⟨_, rfl, ?_⟩
      have hz1 : (Value.string ⟨#[]⟩).cells.size = 1 := rfl
      simp only [Array.size_append, List.size_toArray, List.length_nil, size_zeroCells, hz1]
      omega
    rw [← hcells] at hrz
    have HM := Aside0.mk hGm
    have hG63 : G ≤ 9223372036854775807 := by simp only [maxLen] at hGm; omega
    have HS := Aside0.mk hsz
    have hn0 : 0 < n := by omega
    clear hG hcells hsz hi0 hz0 hs0 hb0 h0 hGm
    go_enter Tryd.func130, Tryd.ntmps130
    go_wp2_with (at_builtin; refine Lib.wpList_append_run _ rfl _ _ _ _ rfl _ _ rfl rfl _ _ (hrz _) ?_)
    all_goals
      go_ret
      refine ⟨_, rfl, ⟨fun _ _ => trivial, [], ⟨by simp, .inr ⟨w.heap.size, G, cells, rfl, Nat.le_refl _, (show (w.alloc (.cells cells 9)).heap[w.heap.size]? = some (.cells cells 9 (0, 0)) from by simpa using heap_alloc_new w (.cells cells 9)), Nat.zero_le _, HM.out, by rw [HS.out]; simp [Kd.string, Kd.scalar], by simp⟩⟩, ⟨by simp, fun j p hj => by simp at hj⟩⟩, ?_⟩
      exact below_drew (below_alloc (Below.refl _ _) _)
def slices_Concat_string_string.f (l0 : List (List ByteArray)) : Option (List ByteArray) := if l0.flatten.length * 16 ≤ 140737488355328 then some l0.flatten else none
theorem take_flat (l : List (List ByteArray)) (i : Nat) (h : i < l.length) : (l.take (i + 1)).flatten = (l.take i).flatten ++ l[i] := by
  rw [List.take_succ_eq_append_getElem h, List.flatten_append]
  simp
theorem take_flat_le (l : List (List ByteArray)) (i : Nat) : (l.take i).flatten.length ≤ l.flatten.length := by
  conv => rhs; rw [← List.take_append_drop i l, List.flatten_append]
  rw [List.length_append]
  omega
set_option maxHeartbeats 4000000 in
set_option maxRecDepth 100000 in
theorem slices_Concat_string_string.calls (A0 : Option Addr) (c0 : Nat) (l0 : List (List ByteArray)) (r : List ByteArray) (w : World) (hr0 : Kd.C (Kd.slice 9 Kd.string) w A0 l0.length l0) (hc0 : l0.length ≤ c0) (h : slices_Concat_string_string.f l0 = some r) :
    Calls Tryd.prog 117 #[.slice A0 l0.length c0] w fun e w' => ∃ v0_ : Value, e = .returned v0_ ∧ Kd.R Kd.string 9 w' w.heap.size (fun _ => True) v0_ r ∧ Below w.heap.size w w' := by
  unfold slices_Concat_string_string.f at h
  by_cases hb : l0.flatten.length * 16 ≤ 140737488355328
  case neg => rw [if_neg hb] at h; cases h
  rw [if_pos hb] at h
  injection h with h
  subst h
  have hx : ∀ (i : Nat) (h : i < l0.length), ∃ ad A c, A0 = some ad ∧ w.cell? (ad.add i) = some (.slice A (l0[i]).length c) ∧ l0[i].length ≤ c ∧ Kd.C Kd.string w A l0[i].length l0[i] := by
    intro i hi
    obtain ⟨ad, c, e, _, ⟨A, cc, rfl, hl, hC⟩, hc⟩ := Kd.C_get hr0 ([] : List ByteArray) (i : Int) (by omega) (by omega)
    have e1 : l0.getD (i : Int).toNat [] = l0[i] := by simp [hi]
    rw [e1] at hl hC hc
    have := hc 0 _ rfl
    rw [Int.toNat_natCast, Nat.add_zero, show (Kd.slice 9 Kd.string).sz = 1 from rfl, Nat.mul_one] at this
    exact ⟨ad, A, cc, e, this, hl, hC⟩
  have HX := Aside0.mk hx
  have hm := Kd.C_max hr0
  have HBD := Aside0.mk hb
  clear hr0 hc0 hx hb
  go_enter Tryd.func117, Tryd.ntmps117
  go_wp2
  go_loopg [3, 5, 11] l0.length (fun gk v3 v5 v11 w' => ∃ (i m : Nat), v3 = .int .i64 m ∧ v11 = .int .i64 i ∧ Aside0 (i + gk = l0.length) ∧ Aside0 (m = (l0.take i).flatten.length) ∧ w = w')
  case atStart => exact ⟨0, 0, rfl, rfl, ⟨by omega⟩, ⟨by simp⟩, rfl⟩
  case round =>
    obtain ⟨i, m, rfl, rfl, HI, HM, rfl⟩ := hrel
    by_cases hi : i < l0.length
    · obtain ⟨ad, A, c, e0, hc, hlc, hC⟩ := HX.out i hi
      cases e0
      have hm1 : m + l0[i].length ≤ 8796093022208 := by
        have h1 := take_flat_le l0 (i + 1)
        rw [take_flat l0 i hi, List.length_append, ← HM.out] at h1
        have := HBD.out
        omega
      have HM2 : Aside0 (m + l0[i].length = (l0.take (i + 1)).flatten.length) := ⟨by rw [take_flat l0 i hi, List.length_append, ← HM.out]⟩
      clear HM hC hlc
      generalize l0[i].length = n at hc hm1 HM2
      have hi' : (i : Int) < (l0.length : Int) := by omega
      have hs0 : (0 : Int) ≤ (m : Int) + (n : Int) := by omega
      have hs1 : (m : Int) + (n : Int) ≤ 8796093022208 := by omega
      go_wp2
      go_roundg (gk - 1)
      case measure => have := HI.out; omega
      case rel => exact ⟨i + 1, m + n, by go_num, by go_num, ⟨by have := HI.out; omega⟩, HM2, rfl⟩
    · have hge : l0.length ≤ i := by omega
      have HT : Aside0 (m = l0.flatten.length) := ⟨by have := HM.out; rwa [List.take_of_length_le hge] at this⟩
      have hi' : ¬ (i : Int) < (l0.length : Int) := by omega
      clear HM HI
      go_wp2_with (go_at_call 130; refine (grow_any m (by have := HT.out; have := HBD.out; omega) _).mono ?_; rintro e w1 ⟨v, rfl, hR, hB⟩; have HR := Aside0.mk hR; have HB := Aside0.mk hB; clear hR hB)
      clear HT hi' hge
      go_loopg [6, 8, 27] l0.length (fun gk v6 v8 v27 w' => ∃ (i : Nat) (v : Value) (xs : List ByteArray), v6 = v ∧ v27 = .int .i64 i ∧ Aside0 (i + gk = l0.length) ∧ Aside0 (xs = (l0.take i).flatten) ∧ Aside0 (Kd.R Kd.string 9 w' w.heap.size (fun _ => True) v xs) ∧ Aside0 (Below w.heap.size w w'))
      case atStart => exact ⟨0, v, [], rfl, rfl, ⟨by omega⟩, ⟨rfl⟩, HR, HB⟩
      case round =>
        clear HR HB
        obtain ⟨i, u, xs, rfl, rfl, HI, HXS, HR, HB⟩ := hrel
        obtain ⟨A6, c6, rfl⟩ := Kd.R_slice HR.out
        by_cases hi : i < l0.length
        · obtain ⟨ad, A, c, e0, hc, hlc, hC⟩ := HX.out i hi
          cases e0
          replace hc := (HB.out.cell (World.block_lt_of_cell? w _ hc)).trans hc
          have HC := Aside0.mk (Kd.C_below hC HB.out)
          have HT : Aside0 (xs ++ l0[i] = (l0.take (i + 1)).flatten) := ⟨by rw [HXS.out]; exact (take_flat l0 i hi).symm⟩
          have HL : Aside0 ((xs.length + l0[i].length) * 16 ≤ 140737488355328) := ⟨by
            have h1 := take_flat_le l0 (i + 1)
            rw [take_flat l0 i hi, List.length_append, ← HXS.out] at h1
            have := HBD.out
            omega⟩
          clear hC hlc HXS
          generalize l0[i] = x at hc HC HT HL
          have hi' : (i : Int) < (l0.length : Int) := by omega
          go_wp2_with (at_builtin; (refine Kd.R_append_rows Kd.string (w0 := w) w.heap.size rfl (.tmp 31) (.tmp 32) 28 9 (.string ⟨#[]⟩) 16 rfl Tryd.underlying28 info9 rfl (by decide) (by omega) _ xs x _ _ _ (fun _ => True) (fun _ => False) rfl rfl HR.out HC.out (fun _ _ h => h) (fun _ h => h.elim) (fun _ _ => trivial) HB.out HB.out.size HL.out ?_; intro v2 w2 ho hb _ _; have HR2 := Aside0.mk ho; have HB2 := Aside0.mk hb; clear ho hb))
          go_roundg (gk - 1)
          case measure => have := HI.out; omega
          case rel => exact ⟨i + 1, v2, xs ++ x, rfl, by go_num, ⟨by have := HI.out; omega⟩, HT, HR2, HB2⟩
        · have hge : l0.length ≤ i := by omega
          have HF : Aside0 (xs = l0.flatten) := ⟨by rw [HXS.out, List.take_of_length_le hge]⟩
          clear HXS
          have hi' : ¬ (i : Int) < (l0.length : Int) := by omega
          go_wp2
          go_ret
          exact ⟨_, rfl, by rw [← HF.out]; exact HR.out, HB.out⟩
end Go.Proofs.YtloibeefopdhpaaDoor.G
