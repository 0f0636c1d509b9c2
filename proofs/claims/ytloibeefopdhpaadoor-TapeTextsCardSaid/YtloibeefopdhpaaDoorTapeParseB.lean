-- Words of the kit's print (as it laid them for this seat); what this claim does not use is left out.
import Derived.Test.YtloibeefopdhpaaDoorTapeParse
import Derived.Shelf.Abstract
import Derived.WalkMore
set_option linter.unusedVariables false
namespace Go.Proofs.YtloibeefopdhpaaDoor.G
open Go.RowKit Go.Proofs.YtloibeefopdhpaaDoorW.PrintWords Go.Proofs.YtloibeefopdhpaaDoorW.PrintLast Go.Proofs.YtloibeefopdhpaaDoorW.PrintMore
theorem put3t {W : World} {g t : Nat} {a b c c0 c1 c2 : Value} (h : W.heap[g]? = some (.cells #[c0, c1, c2] t (0, 0))) :
    (((W.setCell ⟨g, 0, none⟩ a).setCell ⟨g, 1, none⟩ b).setCell ⟨g, 2, none⟩ c).heap[g]? = some (.cells #[a, b, c] t (0, 0)) := by
  refine blk_put (cs := #[a, b, c2]) ?_ 2 _ rfl
  refine blk_put (cs := #[a, c1, c2]) ?_ 1 _ rfl
  exact blk_put h 0 _ rfl
theorem S_put3 {α : Type} {dk : Kd α} {et B : Nat} {W : World} {ok : Nat → Prop} {v : Value} {xs : List α} {g t : Nat} {a b c c0 c1 c2 : Value} (hR : dk.S et W B ok v xs) (h : W.heap[g]? = some (.cells #[c0, c1, c2] t (0, 0))) (ht : ∀ q, q ∈ et :: dk.E → q ≠ t) :
    dk.S et (((W.setCell ⟨g, 0, none⟩ a).setCell ⟨g, 1, none⟩ b).setCell ⟨g, 2, none⟩ c) B ok v xs :=
  Kd.S_set (Kd.S_set (Kd.S_set hR h ht 0 _) (blk_set h 0 _) ht 1 _) (blk_set (blk_set h 0 _) 1 _) ht 2 _
theorem below_put3 {W0 W : World} {g : Nat} {a b c : Value} (h : Below W0.heap.size W0 W) (hg : W0.heap.size ≤ g) : Below W0.heap.size W0 (((W.setCell ⟨g, 0, none⟩ a).setCell ⟨g, 1, none⟩ b).setCell ⟨g, 2, none⟩ c) :=
  below_set (below_set (below_set h hg) hg) hg
theorem blk_drewN' {w : World} {g : Nat} {o : Obj} (h : w.heap[g]? = some o) (n : Nat) : (w.drewN n).heap[g]? = some o := by simpa using h
set_option maxHeartbeats 1000000 in
set_option maxRecDepth 100000 in
theorem tape_Parse.calls (k : Nat) (a0 : ByteArray) (r1 : Int) (r2 : List TCrash) (r3 : List TStep) (r4 : Int) (w : World) (h : tape_Parse.f k a0 = some (r1, r2, r3, r4)) :
    Calls Tryd.prog 51 #[.string a0] w fun e w' => ∃ v1_ v2_ : Value, e = .returned (.tuple #[.agg #[.int .i64 r1, v1_, v2_], .int .i64 r4]) ∧ Kd.S k134 134 w' w.heap.size (fun _ => True) v1_ r2 ∧ Kd.S k34 34 w' w.heap.size (fun _ => True) v2_ r3 ∧ Below w.heap.size w w' := by
  obtain ⟨⟨c, is⟩, h1, h⟩ := Option.bind_eq_some_iff.mp h
  dsimp only at h1 h
  have H1 := Aside0.mk (fun W => strings_CutSuffix.calls a0 ⟨#[10]⟩ c is W h1)
  clear h1
  rcases (show is = false ∨ is = true by cases is <;> simp) with rfl | rfl
  case inl =>
    rw [if_neg (by decide)] at h
    injection h with h
    simp only [Prod.mk.injEq] at h
    obtain ⟨rfl, rfl, rfl, rfl⟩ := h
    go_enter Tryd.func51, Tryd.ntmps51
    go_wp2_with (fail)
    refine wp_scope_straight ?_
    go_wp2_with (go_at_call 94; refine (H1.out _).mono ?_; rintro e_ w1 ⟨rfl, ⟨⟨n1, rfl⟩⟩⟩)
    have HZ : ((w.alloc (.cells #[.int .i64 0, .slice none 0 0, .slice none 0 0] 76)).drewN n1).heap[w.heap.size]? = some (.cells #[.int .i64 0, .slice none 0 0, .slice none 0 0] 76 (0, 0)) := blk_drewN' (heap_alloc_new w _) n1
    have HB : Below w.heap.size w ((w.alloc (.cells #[.int .i64 0, .slice none 0 0, .slice none 0 0] 76)).drewN n1) := pw_below_drewN (below_alloc (Below.refl _ _) _) n1
    rw [Exit.noGoto_ret]
    refine bodyPost_ret (results_ct rfl _ _ w.heap.size 76 #[.int .i64 0, .slice none 0 0, .slice none 0 0] (0, 0) _ rfl (put3t HZ) Tryd.underlying76 rfl (by kernel_rfl)) rfl ?_
    exact ⟨_, _, rfl, Kd.S_nil _ _ _ _ _, Kd.S_nil _ _ _ _ _, below_put3 HB (Nat.le_refl _)⟩
  case inr =>
    rw [if_pos rfl] at h
    obtain ⟨ls, h2, h⟩ := Option.bind_eq_some_iff.mp h
    obtain ⟨⟨t, e⟩, h3, h⟩ := Option.bind_eq_some_iff.mp h
    dsimp only at h
    have H2 := Aside0.mk (fun W => strings_Split.calls k c ⟨#[10]⟩ ls W h2)
    have H3 := Aside0.mk h3
    have HF := Aside0.mk h
    clear h2 h3 h
    go_enter Tryd.func51, Tryd.ntmps51
    go_wp2_with (fail)
    refine wp_scope_straight ?_
    go_wp2_with (go_at_call 94; refine (H1.out _).mono ?_; rintro e_ w1 ⟨rfl, ⟨⟨n1, rfl⟩⟩⟩)
    go_step3
    obtain ⟨wA, hwA⟩ : ∃ wA, wA = (w.alloc (.cells #[.int .i64 0, .slice none 0 0, .slice none 0 0] 76)).drewN n1 := ⟨_, rfl⟩
    have hres : wA.heap[w.heap.size]? = some (.cells #[.int .i64 0, .slice none 0 0, .slice none 0 0] 76 (0, 0)) := by rw [hwA]; exact blk_drewN' (heap_alloc_new w _) n1
    have hBA : Below w.heap.size w wA := by rw [hwA]; exact pw_below_drewN (below_alloc (Below.refl _ _) _) n1
    have hsz : wA.heap.size = w.heap.size + 1 := by rw [hwA]; simp
    rw [← hwA]
    clear hwA
    obtain ⟨wB, hwB⟩ : ∃ wB, wB = (wA.alloc (.cells #[.int .i64 0, .slice none 0 0, .slice none 0 0] 76)).alloc (.cells #[.bool false] 4) := ⟨_, rfl⟩
    have hgo : wB.heap[w.heap.size + 1]? = some (.cells #[.int .i64 0, .slice none 0 0, .slice none 0 0] 76 (0, 0)) := by rw [hwB, ← hsz]; exact blk_alloc (heap_alloc_new wA _) _
    have hgh : wB.heap[w.heap.size + 1 + 1]? = some (.cells #[.bool false] 4 (0, 0)) := by
      have := heap_alloc_new (wA.alloc (.cells #[.int .i64 0, .slice none 0 0, .slice none 0 0] 76)) (.cells #[.bool false] 4)
      rw [hwB, ← hsz]
      simpa using this
    have hBB : Below wA.heap.size wA wB := by rw [hwB]; exact below_alloc (below_alloc (Below.refl _ _) _) _
    rw [← hwB]
    clear hwB
    have HR := Aside0.mk (And.intro hres (And.intro hBA hsz))
    have HG := Aside0.mk (And.intro hgo (And.intro hgh hBB))
    clear hres hBA hsz hgo hgh hBB H1
    go_wp2_with (go_at_call 67; refine (H2.out _).mono ?_; rintro e_ w4 ⟨vL, rfl, hR, hb⟩; obtain ⟨A4, c4, rfl⟩ := Kd.R_slice hR; have HI0 : Aside0 (ScrAt (.slice A4 ls.length c4) ls (w.heap.size + 1) (w.heap.size + 1) (w.heap.size + 1 + 1) ⟨false, 0, [], []⟩ (.slice none 0 0) (.slice none 0 0) w4) := ⟨⟨blk_below HG.out.1 hb, blk_below HG.out.2.1 hb, Kd.S_nil _ _ _ _ _, Kd.S_nil _ _ _ _ _, Kd.R_lower hR (by have := blk_lt HG.out.1; omega)⟩⟩; have HB0 := Aside0.mk (below_then HG.out.2.2 HG.out.2.2.size hb); clear hR hb)
    go_loopg [24] ls.length (fun gk v24 w' => ∃ (i : Nat) (t' : TScr) (vC vS : Value), v24 = .int .i64 i ∧ Aside0 (i + gk = ls.length) ∧ Aside0 (linesT k (ls.drop i) t' = some (t, e)) ∧ Aside0 (ScrAt (.slice A4 ls.length c4) ls (w.heap.size + 1) (w.heap.size + 1) (w.heap.size + 1 + 1) t' vC vS w') ∧ Aside0 (Below wA.heap.size wA w'))
    case atStart => exact ⟨0, _, _, _, rfl, ⟨by omega⟩, H3, HI0, HB0⟩
    case round =>
      clear HI0 HB0 H3 H2
      obtain ⟨i, t', vC, vS, rfl, HN, HL, HI, HB⟩ := hrel
      by_cases hi : i < ls.length
      · have hx := Kd.at_string (Kd.R_reads' HI.out.r3).2.2 (i : Int) (by omega) (by omega)
        obtain ⟨ad, e0, hx0⟩ := hx
        cases e0
        obtain ⟨l, ls2, hd⟩ : ∃ l ls2, ls.drop i = l :: ls2 := ⟨_, _, List.drop_eq_getElem_cons hi⟩
        have hrd : rdOf ByteArray.empty ls (i : Int) = l := by
          have : ls[i] = l := by
            rw [List.drop_eq_getElem_cons hi] at hd
            exact (List.cons.inj hd).1
          simp [rdOf, hi, this]
        rw [hrd, Int.toNat_natCast] at hx0
        have hm : (i : Int) + 1 ≤ 9223372036854775807 := by have := Kd.C_max (Kd.R_reads' HI.out.r3).2.2; omega
        have HD : Aside0 (ls.drop (i + 1) = ls2) := ⟨by rw [← List.drop_drop, hd]; rfl⟩
        have h := HL.out
        rw [hd, linesT] at h
        obtain ⟨b, hb1, h⟩ := Option.bind_eq_some_iff.mp h
        have H4 := Aside0.mk (fun W => tape_nothing.calls l b W hb1)
        have hi' : (i : Int) < (ls.length : Int) := by omega
        have p1 : (0 ≤ (i : Int)) = True := eq_true (by omega)
        have p2 : ((i : Int) < (ls.length : Int)) = True := eq_true (by omega)
        cases b with
        | true =>
          rw [if_pos rfl, ← HD.out] at h
          have HL2 := Aside0.mk h
          clear h HL hb1 hd hrd
          go_wp2_with (go_at_call 96; refine (H4.out _).mono ?_; rintro e_ w5 ⟨rfl, ⟨⟨n5, rfl⟩⟩⟩)
          go_roundg (gk - 1)
          case measure => have := HN.out; omega
          case rel => exact ⟨i + 1, t', vC, vS, by go_num, ⟨by have := HN.out; omega⟩, HL2, ⟨HI.out.below (pw_below_drewN (Below.refl _ _) n5)⟩, ⟨pw_below_drewN HB.out n5⟩⟩
        | false =>
          rw [if_neg (by decide)] at h
          obtain ⟨⟨t2, e2⟩, hl2, h⟩ := Option.bind_eq_some_iff.mp h
          dsimp only at hl2 h
          rw [← HD.out] at h
          have HL2 := Aside0.mk h
          have H5 := Aside0.mk (fun W hS hb => line_law k (.slice (some ad) ls.length c4) ls (w.heap.size + 1) (w.heap.size + 1) (w.heap.size + 1 + 1) wA W t' t2 l e2 vC vS (by rw [HR.out.2.2]; exact Nat.le_refl _) (Nat.le_refl _) (by omega) hS hb hl2)
          have eg := enters_of Tryd.func102 (by kernel_rfl) rfl
          clear h HL hb1 hd hrd hl2
          go_wp2_with (go_at_call 96; refine (H4.out _).mono ?_; rintro e_ w5 ⟨rfl, ⟨⟨n5, rfl⟩⟩⟩)
          refine (H5.out _ (HI.out.below (pw_below_drewN (Below.refl _ _) n5)) (pw_below_drewN HB.out n5)).mono ?_
          rintro e_ w6 ⟨rfl, ⟨vC2, vS2, hS2⟩, hb2⟩
          have HS2 := Aside0.mk hS2
          have HB2 := Aside0.mk hb2
          clear hS2 hb2 HI HB H5 H4 eg
          by_cases he : e2 = 0
          · have h := HL2.out
            rw [if_pos he] at h
            have HL3 := Aside0.mk h
            clear h HL2
            subst he
            go_wp2_with (fail)
            go_roundg (gk - 1)
            case measure => have := HN.out; omega
            case rel => exact ⟨i + 1, t2, vC2, vS2, by go_num, ⟨by have := HN.out; omega⟩, HL3, HS2, HB2⟩
          · have h := HL2.out
            rw [if_neg he] at h
            injection h with h
            simp only [Prod.mk.injEq] at h
            obtain ⟨rfl, rfl⟩ := h
            have hf := HF.out
            rw [if_neg he] at hf
            injection hf with hf
            simp only [Prod.mk.injEq] at hf
            obtain ⟨rfl, rfl, rfl, rfl⟩ := hf
            clear HL2 HF
            have hne : (e2 != 0) = true := bne_iff_ne.2 he
            have HZ := blk_below HR.out.1 HB2.out
            have HW := below_then HR.out.2.1 HR.out.2.1.size HB2.out
            obtain ⟨hz0, hz1, hz2, hzf0, hzf1, hzf2⟩ := cells3 HZ
            go_wp2_with (fail)
            try rw [Exit.noGoto_ret]
            refine bodyPost_ret (results_ct rfl _ _ w.heap.size 76 #[.int .i64 0, .slice none 0 0, .slice none 0 0] (0, 0) _ rfl (put3t HZ) Tryd.underlying76 rfl (by kernel_rfl)) rfl ?_
            exact ⟨_, _, rfl, Kd.S_nil _ _ _ _ _, Kd.S_nil _ _ _ _ _, below_put3 HW (Nat.le_refl _)⟩
      · have hi' : ¬ (i : Int) < (ls.length : Int) := by omega
        have h := HL.out
        rw [List.drop_eq_nil_of_le (by omega), linesT] at h
        injection h with h
        simp only [Prod.mk.injEq] at h
        obtain ⟨rfl, rfl⟩ := h
        have hf := HF.out
        rw [if_pos rfl] at hf
        clear HL HF
        have HZ := blk_below HR.out.1 HB.out
        have HW := below_then HR.out.2.1 HR.out.2.1.size HB.out
        have hd0 : wr.cell? ⟨w.heap.size + 1 + 1, 0, none⟩ = some (.bool t'.hd) := (blk_cell HI.out.hdb 0).trans rfl
        have HQ := Aside0.mk HI.out
        clear HI
        cases hh : t'.hd with
        | false =>
          rw [if_neg (by rw [hh]; decide)] at hf
          injection hf with hf
          simp only [Prod.mk.injEq] at hf
          obtain ⟨rfl, rfl, rfl, rfl⟩ := hf
          rw [hh] at hd0
          obtain ⟨hz0, hz1, hz2, hzf0, hzf1, hzf2⟩ := cells3 HZ
          go_wp2_with (fail)
          try rw [Exit.noGoto_ret]
          refine bodyPost_ret (results_ct rfl _ _ w.heap.size 76 #[.int .i64 0, .slice none 0 0, .slice none 0 0] (0, 0) _ rfl (put3t HZ) Tryd.underlying76 rfl (by kernel_rfl)) rfl ?_
          exact ⟨_, _, rfl, Kd.S_nil _ _ _ _ _, Kd.S_nil _ _ _ _ _, below_put3 HW (Nat.le_refl _)⟩
        | true =>
          rw [if_pos hh] at hf
          injection hf with hf
          simp only [Prod.mk.injEq] at hf
          obtain ⟨rfl, rfl, rfl, rfl⟩ := hf
          rw [hh] at hd0
          obtain ⟨AC, dC, rfl⟩ := Kd.S_slice HQ.out.r1
          obtain ⟨AS, dS, rfl⟩ := Kd.S_slice HQ.out.r2
          obtain ⟨hc0, hc1, hc2, _⟩ := cells3 HQ.out.blk
          obtain ⟨hz0, hz1, hz2, hzf0, hzf1, hzf2⟩ := cells3 HZ
          go_wp2_with (fail)
          try rw [Exit.noGoto_ret]
          refine bodyPost_ret (results_ct rfl _ _ w.heap.size 76 #[.int .i64 t'.room, .slice AC t'.cs.length dC, .slice AS t'.xs.length dS] (0, 0) _ rfl (put3t HZ) Tryd.underlying76 rfl (by kernel_rfl)) rfl ?_
          exact ⟨_, _, rfl, S_put3 (Kd.S_lower HQ.out.r1 (by omega)) HZ (by decide), S_put3 (Kd.S_lower HQ.out.r2 (by omega)) HZ (by decide), below_put3 HW (Nat.le_refl _)⟩
end Go.Proofs.YtloibeefopdhpaaDoor.G
