/- ReplyLogs: the walk of the law. -/
import Derived.Test.YtloibeefopdhpaaDoorReplyAwake
import Derived.Test.YtloibeefopdhpaaDoorLight36
import Derived.Test.YtloibeefopdhpaaDoorRef36All
import Derived.Deep.RegionHeld3
import Derived.Outline
set_option linter.unusedVariables false
set_option linter.unusedSimpArgs false
namespace Go.Proofs.YtloibeefopdhpaaDoor.G
open Go.RowKit Go.Proofs.YtloibeefopdhpaaDoorW.PrintWords Go.Proofs.YtloibeefopdhpaaDoorW.PrintLast Go.Proofs.YtloibeefopdhpaaDoorW.PrintMore

theorem info20 : (Tryd.prog.info? 3).map (fun i => (i.zero, i.size, i.bytes)) = some (some (.int .i64 0), 1, 8) := by kernel_rfl
theorem same_int (d : Nat) (w : World) (a : Int) : (Op.equalIn (d + 1) 3 (.int .i64 a) (.int .i64 a)).run Tryd.prog w = .ok true w := by go_simp
/-- Twenty whole numbers are the same as themselves. -/
theorem same_row20 (d : Nat) (w : World) (c : List Int) (hc : c.length = 20) : (Op.equalIn (d + 2) 65 (.agg (ints c).toArray) (.agg (ints c).toArray)).run Tryd.prog w = .ok true w := by
  have sz : ∀ w : World, (Go.sizeOf 3).run Tryd.prog w = .ok 1 w := by
    intro w
    obtain ⟨i0, hi0, hz0, hs0, hb0⟩ := info_parts info20
    simp [Go.sizeOf, typeInfo, hi0, hs0]
  have p : ∀ i, i < 20 → (part 3 (ints c).toArray i).run Tryd.prog w = .ok (.int .i64 (c.getD i 0)) w := by
    intro i hi
    have h1 : (ints c).toArray[i]? = some (.int .i64 (c.getD i 0)) := by simp [ints, hc, hi]
    unfold part
    simp [sz, h1]
  rw [Op.equalIn]
  simp only [Sem.run_bind, run_underlying Tryd.underlying65, Result.andThen_ok, sz]
  simp [Std.Legacy.Range.forIn_eq_forIn_range', Std.Legacy.Range.size, List.range', p, same_int]
theorem errsL_len (l : List S54) : (errsL l).length = 20 := by
  have : ∀ (l : List S54) (c : List Int), c.length = 20 → (l.foldl (fun c r => bump c r.f0) c).length = 20 := by
    intro l
    induction l with
    | nil => exact fun c h => h
    | cons x l ih => exact fun c h => ih _ (by rw [bump_length]; exact h)
  exact this l _ (by simp)
theorem same_errs (d : Nat) (w : World) (l : List S54) : (Op.equalIn (d + 2) 65 (.agg (ints (errsL l)).toArray) (.agg (ints (errsL l)).toArray)).run Tryd.prog w = .ok true w := same_row20 d w _ (errsL_len l)
attribute [local go_sem high] same_errs
theorem range_blk {w : World} {g t : Nat} {c : List Int} (h : w.heap[g]? = some (.cells (ints c).toArray t (0, 0))) : w.rangeAt g 0 (ints c) := fun j v hv => by
  rw [Nat.zero_add, blk_cell h]
  simpa using hv
/-- Is a line's end the last byte? -/
def endsB (s : ByteArray) : Bool := if s.toList = [] then false else (bt s ((s.size : Int) - 1) == 10)
theorem bt_at (s : ByteArray) (i : Int) : ∀ h : i.toNat < s.size, ((s[i.toNat]'h).toNat : Int) = bt s i := fun h => by
  unfold bt
  rw [dif_pos h]
def rafterlaw36_ReplyLogs.f (k : Nat) (l0 : List S54) (a1 : ByteArray) : Option Bool :=
  (rafterlaw36_Light.f k l0).bind fun b => if b = true ∧ a1.size ≤ 1000 then
    (reply_Log.f k l0).bind fun t => (reply_Read.f k t).bind fun m => (reply_Read.f k a1).bind fun n => (rafterref36_Log.f k l0).bind fun t2 => (rafterref36_All.f k m.1 l0).bind fun s1 => (rafterlaw36_awake.f k).bind fun a =>
    if t2 = t ∧ m.2 = 0 ∧ s1 = true ∧ a = true then
      if n.2 = 0 then (rafterref36_Log.f k n.1).bind fun t3 => if t3 = a1 then some true else none
      else if n.1.length = 0 ∧ (n.2 = 6 ∧ endsB a1 = false ∧ a1.toList ≠ [] ∨ n.2 = 17 ∧ endsB a1 = true) then some true else none
    else none
  else rafterlaw36_awake.f k

set_option maxHeartbeats 8000000 in
set_option maxRecDepth 100000 in
theorem rafterlaw36_ReplyLogs.calls (k : Nat) (A0 : Option Addr) (c0 : Nat) (l0 : List S54) (a1 : ByteArray) (r : Bool) (w : World) (hr0 : Kd.C k54 w A0 l0.length l0) (hc0 : l0.length ≤ c0) (h : rafterlaw36_ReplyLogs.f k l0 a1 = some r) :
    Calls Tryd.prog 8 #[.slice A0 l0.length c0, .string a1] w fun e w' => e = .returned (.bool r) ∧ Below w.heap.size w w' := by
  have HR := Aside0.mk (And.intro hr0 hc0)
  clear hr0 hc0
  unfold rafterlaw36_ReplyLogs.f at h
  obtain ⟨b, h1, g⟩ := Option.bind_eq_some_iff.mp h
  clear h
  have H1 := Aside0.mk (fun W e1 => rafterlaw36_Light.calls k A0 c0 l0 b W e1 HR.out.2 h1)
  have HF := Aside0.mk g
  clear h1 g
  go_enter Tryd.func8, Tryd.ntmps8
  go_wp2_with (fail)
  refine (H1.out _ HR.out.1).mono ?_
  rintro e_ w1 ⟨rfl, hb⟩
  have HB1 := Aside0.mk hb
  have h := HF.out
  clear HF H1 hb
  cases b with
  | false =>
    rw [if_neg (fun q => Bool.noConfusion q.1)] at h
    have H9 := Aside0.mk (fun W => rafterlaw36_awake.calls k r W h)
    clear h
    go_wp2_with (fail)
    refine (H9.out _).mono ?_
    rintro e_ w9 ⟨rfl, hb⟩
    go_wp2
    go_ret
    exact ⟨rfl, below_then HB1.out HB1.out.size hb⟩
  | true =>
    by_cases hs : a1.size ≤ 1000
    case neg =>
      rw [if_neg (fun q => hs q.2)] at h
      have q1 : (1000 < a1.size) = True := eq_true (by omega)
      have q2 : ((a1.size : Int) > 1000) = True := eq_true (by omega)
      clear hs
      have H9 := Aside0.mk (fun W => rafterlaw36_awake.calls k r W h)
      clear h
      go_wp2_with (fail)
      refine (H9.out _).mono ?_
      rintro e_ w9 ⟨rfl, hb⟩
      go_wp2
      go_ret
      exact ⟨rfl, below_then HB1.out HB1.out.size hb⟩
    rw [if_pos ⟨rfl, hs⟩] at h
    have q1 : (1000 < a1.size) = False := eq_false (by omega)
    have q2 : ((a1.size : Int) > 1000) = False := eq_false (by omega)
    obtain ⟨t, h1, g⟩ := Option.bind_eq_some_iff.mp h
    clear h
    obtain ⟨⟨ms, e⟩, h2, h⟩ := Option.bind_eq_some_iff.mp g
    clear g
    obtain ⟨⟨ns, e'⟩, h3, g⟩ := Option.bind_eq_some_iff.mp h
    clear h
    obtain ⟨t2, h4, h⟩ := Option.bind_eq_some_iff.mp g
    clear g
    obtain ⟨s1, h5, g⟩ := Option.bind_eq_some_iff.mp h
    clear h
    obtain ⟨a, h8, h⟩ := Option.bind_eq_some_iff.mp g
    clear g
    dsimp only at h5 h
    by_cases hk : t2 = t ∧ e = 0 ∧ s1 = true ∧ a = true
    case neg => rw [if_neg hk] at h; cases h
    rw [if_pos hk] at h
    obtain ⟨rfl, rfl, rfl, rfl⟩ := hk
    have H1 := Aside0.mk (fun W e1 => reply_Log.calls k A0 c0 l0 t2 W e1 HR.out.2 h1)
    have H2 := Aside0.mk (fun W => reply_Read.calls k t2 ms 0 W h2)
    have H3 := Aside0.mk (fun W => reply_Read.calls k a1 ns e' W h3)
    have H4 := Aside0.mk (fun W e1 => rafterref36_Log.calls k A0 c0 l0 t2 W e1 HR.out.2 h4)
    have H5 := Aside0.mk (fun AM cM W (e0 : ms.length ≤ cM) e1 e2 => rafterref36_All.calls k AM cM ms A0 c0 l0 true W e1 e0 e2 HR.out.2 h5)
    have H9 := Aside0.mk (fun W => rafterlaw36_awake.calls k true W h8)
    have HF := Aside0.mk h
    have HSZ := Aside0.mk hs
    clear h1 h2 h3 h4 h5 h8 h hs
    go_wp2_with (fail)
    refine (H1.out _ (Kd.C_below HR.out.1 HB1.out)).mono ?_
    rintro e_ w2 ⟨rfl, hb⟩
    have HB2 := Aside0.mk (below_then HB1.out HB1.out.size hb)
    clear hb HB1 H1 q1 q2
    go_wp2_with (fail)
    refine (H2.out _).mono ?_
    rintro e_ w3 ⟨v1, rfl, g1, hb⟩
    obtain ⟨AM, cM, rfl⟩ := Kd.R_slice g1
    have HM := Aside0.mk (Kd.R_reads' g1).2
    have HB3 := Aside0.mk (below_then HB2.out HB2.out.size hb)
    clear hb HB2 H2 g1
    go_wp2_with (fail)
    refine (H3.out _).mono ?_
    rintro e_ w5 ⟨v2, rfl, g1, hb⟩
    obtain ⟨AN, cN, rfl⟩ := Kd.R_slice g1
    have HN := Aside0.mk (Kd.R_reads' g1).2
    have HM5 := Aside0.mk (Kd.C_below HM.out.2 hb)
    have HB5 := Aside0.mk (below_then HB3.out HB3.out.size hb)
    clear hb HB3 H3 g1
    go_upto_region 7 with (fail)
    obtain ⟨W, hW⟩ : ∃ W, W = w5.alloc (.cells #[.int .i64 0, .int .i64 0, .int .i64 0, .int .i64 0, .int .i64 0, .int .i64 0, .int .i64 0, .int .i64 0, .int .i64 0, .int .i64 0, .int .i64 0, .int .i64 0, .int .i64 0, .int .i64 0, .int .i64 0, .int .i64 0, .int .i64 0, .int .i64 0, .int .i64 0, .int .i64 0] 65) := ⟨_, rfl⟩
    have HK : Aside0 (W.heap[w5.heap.size]? = some (.cells (ints (List.replicate 20 0)).toArray 65 (0, 0))) := ⟨by
      rw [hW]
      have h_ := heap_alloc_new w5 (.cells #[.int .i64 0, .int .i64 0, .int .i64 0, .int .i64 0, .int .i64 0, .int .i64 0, .int .i64 0, .int .i64 0, .int .i64 0, .int .i64 0, .int .i64 0, .int .i64 0, .int .i64 0, .int .i64 0, .int .i64 0, .int .i64 0, .int .i64 0, .int .i64 0, .int .i64 0, .int .i64 0] 65)
      simpa [ints, List.replicate] using h_⟩
    have HW : Aside0 (Below w5.heap.size w5 W) := ⟨by rw [hW]; exact below_alloc (Below.refl _ _) _⟩
    rw [← hW]
    clear hW
    go_wp2
    go_loopg [11] l0.length (fun gk v11 w' => ∃ (i : Nat) (c : List Int), v11 = .int .i64 i ∧ Aside0 (i + gk = l0.length) ∧ Aside0 (c = (l0.take i).foldl (fun c r => bump c r.f0) (List.replicate 20 0)) ∧ Aside0 (c.length = 20) ∧ Aside0 (w'.heap[w5.heap.size]? = some (.cells (ints c).toArray 65 (0, 0))) ∧ Aside0 (Below w5.heap.size w5 w'))
    case atStart => exact ⟨0, List.replicate 20 0, rfl, ⟨by omega⟩, ⟨rfl⟩, ⟨by simp⟩, HK, HW⟩
    case round =>
      clear HK HW
      obtain ⟨i, c, rfl, HI, HC, HL, HK, HW⟩ := hrel
      have hm := Kd.C_max HR.out.1
      by_cases hi : i < l0.length
      case pos =>
        have HT := Aside0.mk (errs_take l0 i hi)
        have hi' : (i : Int) < (l0.length : Int) := by omega
        obtain ⟨ad, A1, c1, A2, c2, A3, c3, A4, c4, e0, x0, -⟩ := at_T54 (Kd.C_below HR.out.1 HB5.out) (i : Int) (by omega) hi'
        rw [Int.toNat_natCast] at x0
        rw [show rd_T54 l0 (i : Int) = l0[i] by simp [rd_T54, hi]] at x0
        generalize l0[i] = x at x0 HT
        cases e0
        replace x0 := (HW.out.cell (World.block_lt_of_cell? _ _ x0)).trans x0
        have hix := errIx_lt x.f0
        have hcell := ints_cell HK.out (errIx x.f0) (by rw [HL.out]; exact hix)
        have hfro := blk_frozen HK.out (errIx x.f0)
        have hcase : (x.f0 < 0 ∧ errIx x.f0 = 19) ∨ (¬ x.f0 < 0 ∧ 18 < x.f0 ∧ errIx x.f0 = 19) ∨ (¬ x.f0 < 0 ∧ ¬ 18 < x.f0 ∧ errIx x.f0 = x.f0.toNat) := by
          unfold errIx
          by_cases h1 : x.f0 < 0
          · exact .inl ⟨h1, by rw [if_pos h1]⟩
          · by_cases h2 : 18 < x.f0
            · exact .inr (.inl ⟨h1, h2, by rw [if_neg h1, if_pos h2]⟩)
            · exact .inr (.inr ⟨h1, h2, by rw [if_neg h1, if_neg h2]⟩)
        obtain ⟨ix, hix1⟩ : ∃ ix, ix = errIx x.f0 := ⟨_, rfl⟩
        have HBU : Aside0 (bump c x.f0 = c.set ix (wrap64 (c.getD ix 0 + 1))) := ⟨by rw [hix1]; rfl⟩
        rw [← hix1] at hix hcell hfro hcase
        clear hix1
        rw [← HC.out] at HT
        rcases hcase with ⟨k1, rfl⟩ | ⟨k1, k2, rfl⟩ | ⟨k1, k2, rfl⟩
        all_goals
          try (have k3 : 0 ≤ x.f0 := by omega)
          try (have k4 : x.f0 < 20 := by omega)
          go_wp2
          go_roundg (gk - 1)
          case measure => have := HI.out; omega
          case rel => exact ⟨i + 1, bump c x.f0, by go_num, ⟨by have := HI.out; omega⟩, ⟨HT.out.symm⟩, ⟨by rw [bump_length]; exact HL.out⟩, ⟨by rw [HBU.out]; exact ints_set HK.out _ _⟩, ⟨below_set HW.out (Nat.le_refl _)⟩⟩
      have hge : l0.length ≤ i := by omega
      have hcE : c = errsL l0 := by rw [HC.out, List.take_of_length_le hge]; rfl
      subst hcE
      have hi' : ¬ (i : Int) < (l0.length : Int) := by omega
      clear HC HL hi hge HI
      have hrg := range_blk HK.out
      have hrz : (Tryd.prog.info? 65).map (·.size) = some (ints (errsL l0)).length := by
        rw [show (ints (errsL l0)).length = 20 by rw [ints, List.length_map, errsL_len]]
        kernel_rfl
      have hrl : (ints (errsL l0)).length = 20 := by rw [ints, List.length_map, errsL_len]
      have hro : ∀ v ∈ ints (errsL l0), v.oneCell' = true := by
        intro v hv
        obtain ⟨n_, _, rfl⟩ := List.mem_map.1 hv
        rfl
      have hru := Tryd.underlying65
      go_upto_region 14 with (fail)
      clear hi' hm
      go_region_held3 (fun w' => w'.rangeAt w5.heap.size 0 (ints (errsL l0))) (exact hrg) (first | (have z_ := HW10; clear z_; go_at_call 39; refine (reply_Errs.calls A0 c0 l0 _ (Kd.C_below (Kd.C_below HR.out.1 HB5.out) HW10.out)).mono ?_; rintro e_ w11 ⟨rfl, hb⟩; have HK11 := Aside0.mk (blk_below HK10.out hb); have HW11 := Aside0.mk (below_then HW10.out HW10.out.size hb); clear hb hrg; have hrg := range_blk HK11.out) | (have z_ := HW9; clear z_; go_at_call 38; refine (H5.out AM cM _ HM.out.1 (Kd.C_below HM5.out HW9.out) (Kd.C_below (Kd.C_below HR.out.1 HB5.out) HW9.out)).mono ?_; rintro e_ w10 ⟨rfl, hb⟩; have HK10 := Aside0.mk (blk_below HK9.out hb); have HW10 := Aside0.mk (below_then HW9.out HW9.out.size hb); clear hb hrg; have hrg := range_blk HK10.out) | (go_at_call 37; refine (H4.out _ (Kd.C_drew (Kd.C_below (Kd.C_below HR.out.1 HB5.out) HW.out))).mono ?_; rintro e_ w9 ⟨rfl, hb⟩; have HK9 := Aside0.mk (blk_below (blk_drew HK.out) hb); have HW9 := Aside0.mk (below_then (below_drew1 HW.out) (below_drew1 HW.out).size hb); clear hb hrg; have hrg := range_blk HK9.out))
      have h := HF.out
      clear HF H4 H5 hrz hrl hro hru hrg
      by_cases he : e' = 0
      case pos =>
        subst he
        rw [if_pos rfl] at h
        obtain ⟨t3, h4, g⟩ := Option.bind_eq_some_iff.mp h
        clear h
        by_cases hk : t3 = a1
        case neg => rw [if_neg hk] at g; cases g
        rw [if_pos hk] at g
        injection g with g
        subst hk
        subst g
        have H4 := Aside0.mk (fun W e1 => rafterref36_Log.calls k AN cN ns t3 W e1 HN.out.1 h4)
        clear h4
        go_wp2_with (fail)
        refine (H9.out _).mono ?_
        rintro e_ w12 ⟨rfl, hb⟩
        have HW12 := Aside0.mk (below_then HW11.out HW11.out.size hb)
        clear hb
        go_wp2_with (fail)
        refine (H4.out _ (Kd.C_below HN.out.2 HW12.out)).mono ?_
        rintro e_ w13 ⟨rfl, hb⟩
        have HW13 := Aside0.mk (below_then HW12.out HW12.out.size hb)
        clear hb
        go_wp2
        go_ret
        exact ⟨by first | rfl | (simp; done), below_then HB5.out HB5.out.size HW13.out⟩
      rw [if_neg he] at h
      by_cases hk : ns.length = 0 ∧ (e' = 6 ∧ endsB a1 = false ∧ a1.toList ≠ [] ∨ e' = 17 ∧ endsB a1 = true)
      case neg => rw [if_neg hk] at h; cases h
      rw [if_pos hk] at h
      injection h with h
      subst h
      obtain ⟨hn0, hk⟩ := hk
      have hcase : (a1.toList ≠ [] ∧ (bt a1 ((a1.size : Int) - 1) == 10) = false ∧ e' = 6) ∨ (a1.toList ≠ [] ∧ (bt a1 ((a1.size : Int) - 1) == 10) = true ∧ e' = 17) := by
        unfold endsB at hk
        by_cases hn : a1.toList = []
        · rw [if_pos hn] at hk
          rcases hk with hk | hk
          · exact absurd hn hk.2.2
          · cases hk.2
        · rw [if_neg hn] at hk
          rcases hk with hk | hk
          · exact .inl ⟨hn, hk.2.1, hk.1⟩
          · exact .inr ⟨hn, hk.2, hk.1⟩
      have hl1 : (ns.length == 0) = true := beq_iff_eq.2 hn0
      have hl2 : ((ns.length : Int) == 0) = true := beq_iff_eq.2 (by omega)
      clear hk hn0
      rcases hcase with ⟨hn, hq, rfl⟩ | ⟨hn, hq, rfl⟩
      all_goals
        have hz : 1 ≤ a1.size := by
          rcases Nat.eq_zero_or_pos a1.size with h_ | h_
          · exact absurd (List.length_eq_zero_iff.1 (by rw [ByteArray.toList_eq, Array.length_toList]; exact h_)) hn
          · exact h_
        have n1 : (a1.toList == []) = false := beq_eq_false_iff_ne.2 hn
        have n2 : (a1.toList != []) = true := bne_iff_ne.2 hn
        obtain ⟨j, hj⟩ : ∃ j : Int, j = (a1.size : Int) - 1 := ⟨_, rfl⟩
        have hs9 := HSZ.out
        have hjw : IntKind.i64.wrap ((a1.size : Int) - 1) = j := by
          have := i64_w ((a1.size : Int) - 1)
          rw [this, hj]
          unfold wrap64
          omega
        rw [← hj] at hq
        have p0 : (0 ≤ j) = True := eq_true (by omega)
        have p1 : (j < (a1.size : Int)) = True := eq_true (by omega)
        have hx4 : ∀ h : j.toNat < a1.size, ((a1[j.toNat]'h).toNat : Int) = bt a1 j := bt_at a1 j
        clear hn he hz hj hs9
        go_wp2_with (fail)
        refine (H9.out _).mono ?_
        rintro e_ w12 ⟨rfl, hb⟩
        have HW12 := Aside0.mk (below_then HW11.out HW11.out.size hb)
        clear hb
        go_wp2
        go_ret
        exact ⟨by first | rfl | (simp [*]; done), below_then HB5.out HB5.out.size HW12.out⟩
end Go.Proofs.YtloibeefopdhpaaDoor.G
