/- lines.Find: the walk, with its closure. -/
import Derived.Test.YtigpnhgheameoaaDoorG9
import Derived.Test.YtigpnhgheameoaaDoorBytes
import Derived.Deep.RegionLaw
import Derived.Outline
set_option linter.unusedVariables false
namespace Go.Proofs.YtigpnhgheameoaaDoor.G
open Go.RowKit Go.Proofs.YtigpnhgheameoaaDoorW.PrintWords Go.Proofs.YtigpnhgheameoaaDoorW.PrintLast Go.Proofs.YtigpnhgheameoaaDoorW.PrintMore Go.Proofs.YtigpnhgheameoaaDoor.Plain

/-! ### slices.Equal in plain words -/
theorem rdOf_drop {l : List ByteArray} {i : Nat} {s : ByteArray} {t : List ByteArray} (h : l.drop i = s :: t) : rdOf ByteArray.empty l (i : Int) = s := by
  have : l[i]? = some s := by
    have := congrArg (fun l => l[0]?) h
    simpa using this
  rw [rdOf, Int.toNat_natCast, List.getD_eq_getElem?_getD, this]
  rfl
theorem equal_loop (a b : List ByteArray) (hl : a.length = b.length) (hm : a.length ≤ 9223372036854775807) : ∀ (t u : List ByteArray) (i : Nat), a.drop i = t → b.drop i = u →
    Ev (fun k => slices_Equal_string_string.l0 k a b (a.length : Int) (i : Int)) (decide (t.map ByteArray.toList = u.map ByteArray.toList))
  | [], u, i, ht, hu => by
    have hge := List.drop_eq_nil_iff.1 ht
    have e : u = [] := by rw [← hu]; exact List.drop_eq_nil_iff.2 (by omega)
    subst e
    refine Ev.step (f := fun k => some true) (fun k => ?_) (Ev.now _)
    simp only [slices_Equal_string_string.l0]
    rw [if_neg (by omega)]
  | x :: t, u, i, ht, hu => by
    have hlt : i < a.length := by
      rcases Nat.lt_or_ge i a.length with h' | h'
      · exact h'
      · rw [List.drop_eq_nil_of_le h'] at ht; cases ht
    have ht2 : a.drop (i + 1) = t := by rw [← List.drop_drop, ht]; rfl
    cases u with
    | nil =>
      have := List.drop_eq_nil_iff.1 hu
      omega
    | cons y u =>
      have hu2 : b.drop (i + 1) = u := by rw [← List.drop_drop, hu]; rfl
      have hw : wrap64 ((i : Int) + 1) = ((i + 1 : Nat) : Int) := by rw [wrap64_in (by omega) (by omega)]; omega
      by_cases e : x.toList = y.toList
      · have ih := equal_loop a b hl hm t u (i + 1) ht2 hu2
        have e2 : decide ((x :: t).map ByteArray.toList = (y :: u).map ByteArray.toList) = decide (t.map ByteArray.toList = u.map ByteArray.toList) := by simp [e]
        rw [e2]
        refine Ev.step (fun k => ?_) ih
        simp only [slices_Equal_string_string.l0]
        rw [if_pos (by omega), if_pos (by omega), if_pos (by omega), if_pos (by omega), rdOf_drop ht, rdOf_drop hu, if_pos e, hw]
      · have e2 : decide ((x :: t).map ByteArray.toList = (y :: u).map ByteArray.toList) = false := decide_eq_false (fun h => e (by simp at h; exact h.1))
        rw [e2]
        refine Ev.step (f := fun k => some false) (fun k => ?_) (Ev.now _)
        simp only [slices_Equal_string_string.l0]
        rw [if_pos (by omega), if_pos (by omega), if_pos (by omega), if_pos (by omega), rdOf_drop ht, rdOf_drop hu, if_neg e]
theorem equal_ev (a b : List ByteArray) (hm : a.length ≤ 9223372036854775807) : Ev (fun k => slices_Equal_string_string.f k a b) (decide (a.map ByteArray.toList = b.map ByteArray.toList)) := by
  unfold slices_Equal_string_string.f
  by_cases h : a.length = b.length
  · exact Ev.pos (by omega) (equal_loop a b h hm _ _ 0 rfl rfl)
  · refine Ev.neg (by omega) ?_
    rw [decide_eq_false (fun e => h (by have := congrArg List.length e; simpa using this))]
    exact Ev.now _

/-! ### the closure: do the lines stand at a place? -/
set_option maxRecDepth 100000 in
set_option maxHeartbeats 2000000 in
theorem find_at.calls (A0 : Option Addr) (c0 : Nat) (l0 : List ByteArray) (A1 : Option Addr) (c1 : Nat) (l1 : List ByteArray) (g1 g2 i : Nat) (w : World) (h1 : w.cell? ⟨g1, 0, none⟩ = some (.slice A0 l0.length c0)) (h2 : w.cell? ⟨g2, 0, none⟩ = some (.slice A1 l1.length c1))
    (hr0 : Kd.C Kd.string w A0 l0.length l0) (hc0 : l0.length ≤ c0) (hr1 : Kd.C Kd.string w A1 l1.length l1) (hc1 : l1.length ≤ c1) (hi : i + l1.length ≤ l0.length) :
    Calls Tryd.prog 87 #[.int .i64 i, .pointer (some ⟨g1, 0, none⟩), .pointer (some ⟨g2, 0, none⟩)] w fun e w' => e = .returned (.bool (decide (((l0.drop i).take l1.length).map ByteArray.toList = l1.map ByteArray.toList))) ∧ Drawn0 w w' := by
  have hN := Kd.C_max hr0
  have hC : Kd.C Kd.string w (if c0 = i then A0 else A0.map (fun x => x.add i)) ((l0.take (i + l1.length)).drop i).length ((l0.take (i + l1.length)).drop i) := by
    have := Kd.C_mid (c := c0) hr0 (show i ≤ i + l1.length by omega) hi hc0
    rw [show Kd.string.sz = 1 from rfl, Nat.mul_one] at this
    exact this
  have hm : (l0.take (i + l1.length)).drop i = (l0.drop i).take l1.length := by rw [List.drop_take]; congr 1; omega
  rw [hm] at hC
  have hml : ((l0.drop i).take l1.length).length = l1.length := by rw [List.length_take, List.length_drop]; omega
  have k1 : (0 ≤ (i : Int) + (l1.length : Int)) = True := eq_true (by omega)
  have k2 : ((i : Int) + (l1.length : Int) ≤ (c0 : Int)) = True := eq_true (by omega)
  have k3 : (i ≤ ((i : Int) + (l1.length : Int)).toNat) = True := eq_true (by omega)
  have k4 : ((i : Int) + (l1.length : Int)).toNat - i = ((l0.drop i).take l1.length).length := by omega
  have k5 : IntKind.i64.wrap ((i : Int) + (l1.length : Int)) = (i : Int) + (l1.length : Int) := by
    have := wrap64_in (n := (i : Int) + (l1.length : Int)) (by omega) (by omega)
    rw [IntKind.wrap_i64]
    unfold wrap64 at this
    omega
  obtain ⟨N, hE⟩ := equal_ev ((l0.drop i).take l1.length) l1 (by omega)
  have hE := hE N (Nat.le_refl _)
  have hc' : ((l0.drop i).take l1.length).length ≤ c0 - i := by omega
  generalize (l0.drop i).take l1.length = m at *
  have HE := Aside0.mk (fun (A : Option Addr) (W : World) (h : Kd.C Kd.string W A m.length m) (hb : Kd.C Kd.string W A1 l1.length l1) => slices_Equal_string_string.calls N A (c0 - i) m A1 c1 l1 _ W h hc' hb hc1 hE)
  have HC := Aside0.mk hC
  have HR1 := Aside0.mk hr1
  clear hE hC hr1 hm hml hc' hr0
  go_enter Tryd.func87, Tryd.ntmps87
  go_wp2
  go_region_law (first | (go_simp; go_at_call 88; refine (HE.out _ _ (Kd.C_drew HC.out) (Kd.C_drew HR1.out)).mono ?_; rintro e w1 ⟨rfl, ⟨nd, rfl⟩⟩))
  all_goals go_wp2
  all_goals
    go_ret
    exact ⟨rfl, ⟨⟨_, rfl⟩⟩⟩

def findFrom (l p : List (List UInt8)) : Nat → Nat → Int
  | 0, _ => -1
  | n + 1, i => if i + p.length ≤ l.length then (if (l.drop i).take p.length = p then (i : Int) else findFrom l p n (i + 1)) else -1
def lines_Find.f (l0 l1 : List ByteArray) (a2 : Int) : Option Int := some (findFrom (l0.map ByteArray.toList) (l1.map ByteArray.toList) (l0.length + 1) a2.toNat)
theorem findFrom_end (l p : List (List UInt8)) (n i : Nat) (h : ¬ i + p.length ≤ l.length) : findFrom l p n i = -1 := by
  cases n with
  | zero => rfl
  | succ n => rw [findFrom, if_neg h]

set_option maxHeartbeats 2000000 in
set_option maxRecDepth 100000 in
theorem lines_Find.calls (A0 : Option Addr) (c0 : Nat) (l0 : List ByteArray) (A1 : Option Addr) (c1 : Nat) (l1 : List ByteArray) (a2 : Int) (r : Int) (w : World) (hr0 : Kd.C Kd.string w A0 l0.length l0) (hc0 : l0.length ≤ c0) (hr1 : Kd.C Kd.string w A1 l1.length l1) (hc1 : l1.length ≤ c1) (h : lines_Find.f l0 l1 a2 = some r) :
    Calls Tryd.prog 49 #[.slice A0 l0.length c0, .slice A1 l1.length c1, .int .i64 a2] w fun e w' => e = .returned (.int .i64 r) ∧ Below w.heap.size w w' := by
  injection h with h
  have hn0 := Kd.C_max hr0
  have hn1 := Kd.C_max hr1
  obtain ⟨st, hst⟩ : ∃ st : Nat, st = a2.toNat := ⟨_, rfl⟩
  rw [← hst] at h
  have HC0 := Aside0.mk hc0
  have HC1 := Aside0.mk hc1
  have HR0 : Aside0 (Kd.C Kd.string ((w.alloc (.cells #[.slice A0 l0.length c0] 25)).alloc (.cells #[.slice A1 l1.length c1] 25)) A0 l0.length l0) := ⟨Kd.C_alloc (Kd.C_alloc hr0 _) _⟩
  have HR1 : Aside0 (Kd.C Kd.string ((w.alloc (.cells #[.slice A0 l0.length c0] 25)).alloc (.cells #[.slice A1 l1.length c1] 25)) A1 l1.length l1) := ⟨Kd.C_alloc (Kd.C_alloc hr1 _) _⟩
  have HB : Aside0 (Below w.heap.size w ((w.alloc (.cells #[.slice A0 l0.length c0] 25)).alloc (.cells #[.slice A1 l1.length c1] 25))) := ⟨((Below.refl _ w).alloc (Nat.le_refl _) _).alloc (by simp) _⟩
  have HX : Aside0 (((w.alloc (.cells #[.slice A0 l0.length c0] 25)).alloc (.cells #[.slice A1 l1.length c1] 25)).heap[w.heap.size]? = some (.cells #[.slice A0 l0.length c0] 25 (0, 0))) := ⟨blk_alloc (heap_alloc_new w _) _⟩
  have HY : Aside0 (((w.alloc (.cells #[.slice A0 l0.length c0] 25)).alloc (.cells #[.slice A1 l1.length c1] 25)).heap[w.heap.size + 1]? = some (.cells #[.slice A1 l1.length c1] 25 (0, 0))) := ⟨by
    have := heap_alloc_new (w.alloc (.cells #[.slice A0 l0.length c0] 25)) (.cells #[.slice A1 l1.length c1] 25)
    simpa using this⟩
  have HF := Aside0.mk h.symm
  have HS : Aside0 (a2 < 0 ∧ st = 0 ∨ 0 ≤ a2 ∧ a2 = (st : Int)) := ⟨by omega⟩
  clear hr0 hr1 hc0 hc1 h hst
  have HST : Aside0 ((mx a2 0) = (st : Int)) := ⟨by rcases HS.out with ⟨h1, h2⟩ | ⟨h1, h2⟩ <;> (unfold mx; omega)⟩
  have hcase : (a2 < 0) = True ∧ st = 0 ∨ (a2 < 0) = False ∧ a2 = (st : Int) := by
    rcases HS.out with ⟨h1, h2⟩ | ⟨h1, h2⟩
    · exact .inl ⟨eq_true h1, h2⟩
    · exact .inr ⟨eq_false (by omega), h2⟩
  have k5 : IntKind.i64.wrap ((l0.length : Int) - (l1.length : Int)) = (l0.length : Int) - (l1.length : Int) := by
    have := wrap64_in (n := (l0.length : Int) - (l1.length : Int)) (by omega) (by omega)
    rw [IntKind.wrap_i64]
    unfold wrap64 at this
    omega
  clear HS HST
  rcases hcase with ⟨hneg, hs0⟩ | ⟨hpos, hs0⟩
  all_goals
    subst hs0
    go_enter Tryd.func49, Tryd.ntmps49
    go_wp2
    go_loopg [8] (l0.length + 1) (fun gk v8 w' => ∃ i : Nat, v8 = .int .i64 i ∧ Aside0 (r = findFrom (l0.map ByteArray.toList) (l1.map ByteArray.toList) gk i) ∧ Aside0 (l0.length < i + gk) ∧ Aside0 (Below w.heap.size w w') ∧ Aside0 (w'.heap[w.heap.size]? = some (.cells #[.slice A0 l0.length c0] 25 (0, 0))) ∧ Aside0 (w'.heap[w.heap.size + 1]? = some (.cells #[.slice A1 l1.length c1] 25 (0, 0))) ∧ Aside0 (Kd.C Kd.string w' A0 l0.length l0) ∧ Aside0 (Kd.C Kd.string w' A1 l1.length l1))
    case atStart => exact ⟨_, rfl, HF, ⟨by omega⟩, HB, HX, HY, HR0, HR1⟩
    case round =>
      clear HF HB HX HY HR0 HR1
      obtain ⟨i, rfl, HF, HM, HB, HX, HY, HR0, HR1⟩ := hrel
      have hx1 : wr.cell? ⟨w.heap.size, 0, none⟩ = some (.slice A0 l0.length c0) := (blk_cell HX.out 0).trans rfl
      have hx2 : wr.cell? ⟨w.heap.size + 1, 0, none⟩ = some (.slice A1 l1.length c1) := (blk_cell HY.out 0).trans rfl
      by_cases hi : i + l1.length ≤ l0.length
      · cases gk with
        | zero => exact absurd HM.out (by omega)
        | succ k =>
        have H := HF.out
        rw [findFrom, if_pos (by rw [List.length_map, List.length_map]; exact hi), List.length_map, ← List.map_drop, ← List.map_take] at H
        have kd1 : decide ((i : Int) ≤ (l0.length : Int) - (l1.length : Int)) = true := decide_eq_true (by omega)
        have FA := Aside0.mk (find_at.calls A0 c0 l0 A1 c1 l1 w.heap.size (w.heap.size + 1) i wr hx1 hx2 HR0.out HC0.out HR1.out HC1.out hi)
        by_cases he : ((l0.drop i).take l1.length).map ByteArray.toList = l1.map ByteArray.toList
        · rw [if_pos he] at H
          rw [decide_eq_true he] at FA
          have HE := Aside0.mk H
          clear H he HF
          go_wp2_with (first | (go_at_call 87; refine FA.out.mono ?_; rintro e w' ⟨rfl, ⟨nd, rfl⟩⟩))
          go_ret
          exact ⟨by rw [HE.out]; rfl, by have := pw_below_drewN HB.out nd; exact this⟩
        · have hl1 : 1 ≤ l1.length := by
            rcases Nat.eq_zero_or_pos l1.length with h0 | h0
            · exact absurd (by rw [List.eq_nil_of_length_eq_zero h0]; simp) he
            · exact h0
          rw [if_neg he] at H
          rw [decide_eq_false he] at FA
          have HE := Aside0.mk H
          clear H he HF
          go_wp2_with (first | (go_at_call 87; refine FA.out.mono ?_; rintro e w' ⟨rfl, ⟨nd, rfl⟩⟩))
          go_roundg k
          case measure => omega
          case rel => exact ⟨i + 1, (by first | rfl | go_num), HE, ⟨by have := HM.out; omega⟩, ⟨pw_below_drewN HB.out nd⟩, ⟨blk_drewN HX.out nd⟩, ⟨blk_drewN HY.out nd⟩, ⟨Kd.C_drewN HR0.out nd⟩, ⟨Kd.C_drewN HR1.out nd⟩⟩
      · have H := HF.out
        rw [findFrom_end _ _ _ _ (by rw [List.length_map, List.length_map]; exact hi)] at H
        have kd1 : decide ((i : Int) ≤ (l0.length : Int) - (l1.length : Int)) = false := decide_eq_false (by omega)
        have HE := Aside0.mk H
        clear H HF
        go_wp2
        go_ret
        exact ⟨by rw [HE.out]; rfl, HB.out⟩

end Go.Proofs.YtigpnhgheameoaaDoor.G
