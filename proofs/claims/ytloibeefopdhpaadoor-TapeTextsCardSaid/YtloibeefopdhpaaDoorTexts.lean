/- cmd.texts: a step's texts: the walk by hand (printed by wip/tools/gen_cmdtexts.py). -/
import Derived.Test.YtloibeefopdhpaaDoorG12
import Derived.Outline
set_option linter.unusedVariables false
set_option linter.unusedSimpArgs false
namespace Go.Proofs.YtloibeefopdhpaaDoor.G
open Go.RowKit Go.Proofs.YtloibeefopdhpaaDoorW.PrintWords Go.Proofs.YtloibeefopdhpaaDoorW.PrintLast Go.Proofs.YtloibeefopdhpaaDoorW.PrintMore

def cmd_texts.f (k : Nat) (a0_0 : Int) (a0_1 a0_2 : ByteArray) (a0_3 : Int) (a0_4 : ByteArray) (l0_5 : List ByteArray) (a0_6 : Int) (a0_7 a0_8 : ByteArray) (l0_9 : List ByteArray) (a1 : ByteArray) : Option (List ByteArray) :=
  if a1.toList = ([112, 111, 119, 101, 114] : List UInt8) then some []
  else if a1.toList = ([109, 107, 100, 105, 114] : List UInt8) then some [a0_1, a0_7]
  else if a1.toList = ([114, 101, 109, 111, 118, 101] : List UInt8) then some [a0_1, a0_7]
  else if a1.toList = ([119, 114, 105, 116, 101] : List UInt8) then (if ([a0_1, a0_7] : List ByteArray).length + l0_9.length < 8796093022208 then some ([a0_1, a0_7] ++ l0_9) else none)
  else if a1.toList = ([109, 111, 118, 101] : List UInt8) then some [a0_1, a0_7, a0_8]
  else if a1.toList = ([114, 101, 99, 111, 114, 100] : List UInt8) then some [a0_1, a0_4]
  else if a1.toList = ([117, 110, 114, 101, 99, 111, 114, 100] : List UInt8) then some [a0_1, a0_4]
  else if a1.toList = ([112, 117, 108, 108] : List UInt8) then (if ([a0_1, a0_2] : List ByteArray).length + l0_5.length < 8796093022208 then some ([a0_1, a0_2] ++ l0_5) else none)
  else if a1.toList = ([117, 110, 112, 117, 108, 108] : List UInt8) then (if ([a0_1] : List ByteArray).length + l0_5.length < 8796093022208 then some ([a0_1] ++ l0_5) else none)
  else some [a0_1]
theorem cmd_texts.mono : ∀ a0 a1 a2 a3 a4 a5 a6 a7 a8 a9 a10 k, LeO (cmd_texts.f k a0 a1 a2 a3 a4 a5 a6 a7 a8 a9 a10) (cmd_texts.f (k + 1) a0 a1 a2 a3 a4 a5 a6 a7 a8 a9 a10) := fun _ _ _ _ _ _ _ _ _ _ _ _ => LeO.refl _

set_option maxHeartbeats 8000000 in
set_option maxRecDepth 100000 in
theorem cmd_texts.calls (k : Nat) (a0_0 : Int) (a0_1 : ByteArray) (a0_2 : ByteArray) (a0_3 : Int) (a0_4 : ByteArray) (A0_5 : Option Addr) (c0_5 : Nat) (l0_5 : List ByteArray) (a0_6 : Int) (a0_7 : ByteArray) (a0_8 : ByteArray) (A0_9 : Option Addr) (c0_9 : Nat) (l0_9 : List ByteArray) (a1 : ByteArray) (r : List ByteArray) (w : World) (hr0_5 : Kd.C Kd.string w A0_5 l0_5.length l0_5) (hc0_5 : l0_5.length ≤ c0_5) (hr0_9 : Kd.C Kd.string w A0_9 l0_9.length l0_9) (hc0_9 : l0_9.length ≤ c0_9) (h : cmd_texts.f k a0_0 a0_1 a0_2 a0_3 a0_4 l0_5 a0_6 a0_7 a0_8 l0_9 a1 = some r) :
    Calls Tryd.prog 61 #[.agg #[.int .i64 a0_0, .string a0_1, .string a0_2, .int .i64 a0_3, .string a0_4, .slice A0_5 l0_5.length c0_5, .int .i64 a0_6, .string a0_7, .string a0_8, .slice A0_9 l0_9.length c0_9], .string a1] w fun e w' => ∃ v0_ : Value, e = .returned (v0_) ∧ Kd.R Kd.string 9 w' w.heap.size (fun _ => True) v0_ r ∧ Below w.heap.size w w' := by
  have HR := Aside0.mk (And.intro hr0_5 hr0_9)
  clear hr0_5 hc0_5 hr0_9 hc0_9
  unfold cmd_texts.f at h
  go_enter Tryd.func61, Tryd.ntmps61
  go_upto_region 2 with (fail)
  obtain ⟨W, hW⟩ : ∃ W, W = (w.alloc (.cells #[.int .i64 a0_0, .string a0_1, .string a0_2, .int .i64 a0_3, .string a0_4, .slice A0_5 l0_5.length c0_5, .int .i64 a0_6, .string a0_7, .string a0_8, .slice A0_9 l0_9.length c0_9] 34)).alloc (.cells #[.int .i64 a0_6, .string a0_7, .string a0_8, .slice A0_9 l0_9.length c0_9] 30) := ⟨_, rfl⟩
  have HX : Aside0 (W.heap[w.heap.size]? = some (.cells #[.int .i64 a0_0, .string a0_1, .string a0_2, .int .i64 a0_3, .string a0_4, .slice A0_5 l0_5.length c0_5, .int .i64 a0_6, .string a0_7, .string a0_8, .slice A0_9 l0_9.length c0_9] 34 (0, 0))) := ⟨by rw [hW]; exact blk_alloc (heap_alloc_new w _) _⟩
  have HE : Aside0 (W.heap[w.heap.size + 1]? = some (.cells #[.int .i64 a0_6, .string a0_7, .string a0_8, .slice A0_9 l0_9.length c0_9] 30 (0, 0))) := ⟨by
    rw [hW]
    simpa using heap_alloc_new (w.alloc (.cells #[.int .i64 a0_0, .string a0_1, .string a0_2, .int .i64 a0_3, .string a0_4, .slice A0_5 l0_5.length c0_5, .int .i64 a0_6, .string a0_7, .string a0_8, .slice A0_9 l0_9.length c0_9] 34)) (.cells #[.int .i64 a0_6, .string a0_7, .string a0_8, .slice A0_9 l0_9.length c0_9] 30)⟩
  have HB : Aside0 (Below w.heap.size w W) := ⟨by rw [hW]; exact below_alloc (below_alloc (Below.refl _ _) _) _⟩
  rw [← hW]
  clear hW
  obtain ⟨x0, x1, x2, x3, x4, x5, x6, x7, x8, x9, -⟩ := cells10 HX.out
  obtain ⟨y0, y1, y2, y3, -⟩ := cells4 HE.out
  by_cases s0 : a1.toList = ([112, 111, 119, 101, 114] : List UInt8)
  case pos =>
    rw [if_pos s0] at h
    have t0 : (a1.toList == ([112, 111, 119, 101, 114] : List UInt8)) = true := beq_iff_eq.2 s0
    clear s0
    injection h with h
    subst h
    go_wp2
    go_ret
    exact ⟨_, rfl, Kd.R_nil _ _ _ _ _, HB.out⟩
  rw [if_neg s0] at h
  have t0 : (a1.toList == ([112, 111, 119, 101, 114] : List UInt8)) = false := beq_eq_false_iff_ne.2 s0
  clear s0
  by_cases s1 : a1.toList = ([109, 107, 100, 105, 114] : List UInt8)
  case pos =>
    rw [if_pos s1] at h
    have t1 : (a1.toList == ([109, 107, 100, 105, 114] : List UInt8)) = true := beq_iff_eq.2 s1
    clear s1
    injection h with h
    subst h
    go_wp2
    go_ret
    exact ⟨_, rfl, R_strs (below_size HB.out) [a0_1, a0_7] (by simp), below_alloc HB.out _⟩
  rw [if_neg s1] at h
  have t1 : (a1.toList == ([109, 107, 100, 105, 114] : List UInt8)) = false := beq_eq_false_iff_ne.2 s1
  clear s1
  by_cases s2 : a1.toList = ([114, 101, 109, 111, 118, 101] : List UInt8)
  case pos =>
    rw [if_pos s2] at h
    have t2 : (a1.toList == ([114, 101, 109, 111, 118, 101] : List UInt8)) = true := beq_iff_eq.2 s2
    clear s2
    injection h with h
    subst h
    go_wp2
    go_ret
    exact ⟨_, rfl, R_strs (below_size HB.out) [a0_1, a0_7] (by simp), below_alloc HB.out _⟩
  rw [if_neg s2] at h
  have t2 : (a1.toList == ([114, 101, 109, 111, 118, 101] : List UInt8)) = false := beq_eq_false_iff_ne.2 s2
  clear s2
  by_cases s3 : a1.toList = ([119, 114, 105, 116, 101] : List UInt8)
  case pos =>
    rw [if_pos s3] at h
    have t3 : (a1.toList == ([119, 114, 105, 116, 101] : List UInt8)) = true := beq_iff_eq.2 s3
    clear s3
    have hlen : 2 + l0_9.length < 8796093022208 := by
      rcases Nat.lt_or_ge (2 + l0_9.length) 8796093022208 with h_ | h_
      · exact h_
      · rw [if_neg (by simp only [List.length_cons, List.length_nil]; omega)] at h; cases h
    rw [if_pos (by simp only [List.length_cons, List.length_nil]; omega)] at h
    injection h with h
    subst h
    have y2n : ∀ O, (W.alloc O).cell? ⟨w.heap.size + 1, 3, none⟩ = some (.slice A0_9 l0_9.length c0_9) := fun O => (blk_cell (blk_alloc HE.out O) 3).trans rfl
    go_wp2_with (first | ((with_reducible refine gate_builtin (b := .append) (xs := #[.tmp 26, .tmp 28]) rfl ?_); (try (refine gate_guard (by rfl) ?_; dsimp only)); at_builtin; refine Kd.R_append_rows Kd.string (w0 := w) w.heap.size rfl (.tmp 26) (.tmp 28) 28 9 (.string ⟨#[]⟩) 16 rfl Tryd.underlying28 info9 rfl (by decide) (by omega) _ [a0_1, a0_7] l0_9 _ _ _ (fun _ => True) (fun _ => False) rfl rfl (R_strs (below_size HB.out) [a0_1, a0_7] (by simp)) (Kd.C_alloc (Kd.C_below HR.out.2 HB.out) _) (fun _ _ h => h) (fun _ h => h.elim) (fun _ _ => trivial) (below_alloc HB.out _) (below_size (below_alloc HB.out _)) ?aL ?_; (case aL => simp only [List.length_cons, List.length_nil] at *; omega); intro v5 w5 ho hb hg hat; clear hg hat))
    go_ret
    exact ⟨_, rfl, ho, hb⟩
  rw [if_neg s3] at h
  have t3 : (a1.toList == ([119, 114, 105, 116, 101] : List UInt8)) = false := beq_eq_false_iff_ne.2 s3
  clear s3
  by_cases s4 : a1.toList = ([109, 111, 118, 101] : List UInt8)
  case pos =>
    rw [if_pos s4] at h
    have t4 : (a1.toList == ([109, 111, 118, 101] : List UInt8)) = true := beq_iff_eq.2 s4
    clear s4
    injection h with h
    subst h
    go_wp2
    go_ret
    exact ⟨_, rfl, R_strs (below_size HB.out) [a0_1, a0_7, a0_8] (by simp), below_alloc HB.out _⟩
  rw [if_neg s4] at h
  have t4 : (a1.toList == ([109, 111, 118, 101] : List UInt8)) = false := beq_eq_false_iff_ne.2 s4
  clear s4
  by_cases s5 : a1.toList = ([114, 101, 99, 111, 114, 100] : List UInt8)
  case pos =>
    rw [if_pos s5] at h
    have t5 : (a1.toList == ([114, 101, 99, 111, 114, 100] : List UInt8)) = true := beq_iff_eq.2 s5
    clear s5
    injection h with h
    subst h
    go_wp2
    go_ret
    exact ⟨_, rfl, R_strs (below_size HB.out) [a0_1, a0_4] (by simp), below_alloc HB.out _⟩
  rw [if_neg s5] at h
  have t5 : (a1.toList == ([114, 101, 99, 111, 114, 100] : List UInt8)) = false := beq_eq_false_iff_ne.2 s5
  clear s5
  by_cases s6 : a1.toList = ([117, 110, 114, 101, 99, 111, 114, 100] : List UInt8)
  case pos =>
    rw [if_pos s6] at h
    have t6 : (a1.toList == ([117, 110, 114, 101, 99, 111, 114, 100] : List UInt8)) = true := beq_iff_eq.2 s6
    clear s6
    injection h with h
    subst h
    go_wp2
    go_ret
    exact ⟨_, rfl, R_strs (below_size HB.out) [a0_1, a0_4] (by simp), below_alloc HB.out _⟩
  rw [if_neg s6] at h
  have t6 : (a1.toList == ([117, 110, 114, 101, 99, 111, 114, 100] : List UInt8)) = false := beq_eq_false_iff_ne.2 s6
  clear s6
  by_cases s7 : a1.toList = ([112, 117, 108, 108] : List UInt8)
  case pos =>
    rw [if_pos s7] at h
    have t7 : (a1.toList == ([112, 117, 108, 108] : List UInt8)) = true := beq_iff_eq.2 s7
    clear s7
    have hlen : 2 + l0_5.length < 8796093022208 := by
      rcases Nat.lt_or_ge (2 + l0_5.length) 8796093022208 with h_ | h_
      · exact h_
      · rw [if_neg (by simp only [List.length_cons, List.length_nil]; omega)] at h; cases h
    rw [if_pos (by simp only [List.length_cons, List.length_nil]; omega)] at h
    injection h with h
    subst h
    have y2n : ∀ O, (W.alloc O).cell? ⟨w.heap.size, 5, none⟩ = some (.slice A0_5 l0_5.length c0_5) := fun O => (blk_cell (blk_alloc HX.out O) 5).trans rfl
    have y2m : ∀ O, (W.alloc O).cell? ⟨w.heap.size, 2, none⟩ = some (.string a0_2) := fun O => (blk_cell (blk_alloc HX.out O) 2).trans rfl
    go_wp2_with (first | ((with_reducible refine gate_builtin (b := .append) (xs := #[.tmp 54, .tmp 57]) rfl ?_); (try (refine gate_guard (by rfl) ?_; dsimp only)); at_builtin; refine Kd.R_append_rows Kd.string (w0 := w) w.heap.size rfl (.tmp 54) (.tmp 57) 28 9 (.string ⟨#[]⟩) 16 rfl Tryd.underlying28 info9 rfl (by decide) (by omega) _ [a0_1, a0_2] l0_5 _ _ _ (fun _ => True) (fun _ => False) rfl rfl (R_strs (below_size HB.out) [a0_1, a0_2] (by simp)) (Kd.C_alloc (Kd.C_below HR.out.1 HB.out) _) (fun _ _ h => h) (fun _ h => h.elim) (fun _ _ => trivial) (below_alloc HB.out _) (below_size (below_alloc HB.out _)) ?aL ?_; (case aL => simp only [List.length_cons, List.length_nil] at *; omega); intro v5 w5 ho hb hg hat; clear hg hat))
    go_ret
    exact ⟨_, rfl, ho, hb⟩
  rw [if_neg s7] at h
  have t7 : (a1.toList == ([112, 117, 108, 108] : List UInt8)) = false := beq_eq_false_iff_ne.2 s7
  clear s7
  by_cases s8 : a1.toList = ([117, 110, 112, 117, 108, 108] : List UInt8)
  case pos =>
    rw [if_pos s8] at h
    have t8 : (a1.toList == ([117, 110, 112, 117, 108, 108] : List UInt8)) = true := beq_iff_eq.2 s8
    clear s8
    have hlen : 1 + l0_5.length < 8796093022208 := by
      rcases Nat.lt_or_ge (1 + l0_5.length) 8796093022208 with h_ | h_
      · exact h_
      · rw [if_neg (by simp only [List.length_cons, List.length_nil]; omega)] at h; cases h
    rw [if_pos (by simp only [List.length_cons, List.length_nil]; omega)] at h
    injection h with h
    subst h
    have y2n : ∀ O, (W.alloc O).cell? ⟨w.heap.size, 5, none⟩ = some (.slice A0_5 l0_5.length c0_5) := fun O => (blk_cell (blk_alloc HX.out O) 5).trans rfl
    have y2m : ∀ O, (W.alloc O).cell? ⟨w.heap.size, 2, none⟩ = some (.string a0_2) := fun O => (blk_cell (blk_alloc HX.out O) 2).trans rfl
    go_wp2_with (first | ((with_reducible refine gate_builtin (b := .append) (xs := #[.tmp 63, .tmp 66]) rfl ?_); (try (refine gate_guard (by rfl) ?_; dsimp only)); at_builtin; refine Kd.R_append_rows Kd.string (w0 := w) w.heap.size rfl (.tmp 63) (.tmp 66) 28 9 (.string ⟨#[]⟩) 16 rfl Tryd.underlying28 info9 rfl (by decide) (by omega) _ [a0_1] l0_5 _ _ _ (fun _ => True) (fun _ => False) rfl rfl (R_strs (below_size HB.out) [a0_1] (by simp)) (Kd.C_alloc (Kd.C_below HR.out.1 HB.out) _) (fun _ _ h => h) (fun _ h => h.elim) (fun _ _ => trivial) (below_alloc HB.out _) (below_size (below_alloc HB.out _)) ?aL ?_; (case aL => simp only [List.length_cons, List.length_nil] at *; omega); intro v5 w5 ho hb hg hat; clear hg hat))
    go_ret
    exact ⟨_, rfl, ho, hb⟩
  rw [if_neg s8] at h
  have t8 : (a1.toList == ([117, 110, 112, 117, 108, 108] : List UInt8)) = false := beq_eq_false_iff_ne.2 s8
  clear s8
  injection h with h
  subst h
  go_wp2
  go_ret
  exact ⟨_, rfl, R_strs (below_size HB.out) [a0_1] (by simp), below_alloc HB.out _⟩
end Go.Proofs.YtloibeefopdhpaaDoor.G
