-- Words of the kit's print (as it laid them for this seat); what this claim does not use is left out.
import Derived.Test.YtloibeefopdhpaaDoorG12
import Derived.Test.YtloibeefopdhpaaDoorG6
import Derived.Deep.RegionHeld3
import Derived.Outline
set_option linter.unusedVariables false
namespace Go.Proofs.YtloibeefopdhpaaDoor.G
open Go.RowKit Go.Proofs.YtloibeefopdhpaaDoorW.PrintWords Go.Proofs.YtloibeefopdhpaaDoorW.PrintLast Go.Proofs.YtloibeefopdhpaaDoorW.PrintMore
def cmd_Same.f (k : Nat) (a0_0 : Int) (a0_1 : ByteArray) (a0_2 : ByteArray) (a0_3 : Int) (a0_4 : ByteArray) (l0_5 : List ByteArray) (a0_6 : Int) (a0_7 : ByteArray) (a0_8 : ByteArray) (l0_9 : List ByteArray) (a1_0 : Int) (a1_1 : ByteArray) (a1_2 : ByteArray) (a1_3 : Int) (a1_4 : ByteArray) (l1_5 : List ByteArray) (a1_6 : Int) (a1_7 : ByteArray) (a1_8 : ByteArray) (l1_9 : List ByteArray) : Option Bool :=
  (if a0_0 = a1_0 then (if a0_1.toList = a1_1.toList then (if a0_2.toList = a1_2.toList then (if a0_3 = a1_3 then (if a0_4.toList = a1_4.toList then ((slices_Equal_string_string.f k l0_5 l1_5).bind fun b5 => if b5 = true then (if a0_6 = a1_6 then (if a0_7.toList = a1_7.toList then (if a0_8.toList = a1_8.toList then ((slices_Equal_string_string.f k l0_9 l1_9).bind fun b9 => some b9) else some false) else some false) else some false) else some false) else some false) else some false) else some false) else some false) else some false)
theorem cmd_Same.mono : ∀ a0 a1 a2 a3 a4 a5 a6 a7 a8 a9 a10 a11 a12 a13 a14 a15 a16 a17 a18 a19 k, LeO (cmd_Same.f k a0 a1 a2 a3 a4 a5 a6 a7 a8 a9 a10 a11 a12 a13 a14 a15 a16 a17 a18 a19) (cmd_Same.f (k + 1) a0 a1 a2 a3 a4 a5 a6 a7 a8 a9 a10 a11 a12 a13 a14 a15 a16 a17 a18 a19) := by
  intro a0 a1 a2 a3 a4 a5 a6 a7 a8 a9 a10 a11 a12 a13 a14 a15 a16 a17 a18 a19 k
  unfold cmd_Same.f
  exact LeO.ite (LeO.ite (LeO.ite (LeO.ite (LeO.ite (LeO.bind (slices_Equal_string_string.mono _ _ _) fun b5 => LeO.ite (LeO.ite (LeO.ite (LeO.ite (LeO.bind (slices_Equal_string_string.mono _ _ _) fun b9 => LeO.refl _) (LeO.refl _)) (LeO.refl _)) (LeO.refl _)) (LeO.refl _)) (LeO.refl _)) (LeO.refl _)) (LeO.refl _)) (LeO.refl _)) (LeO.refl _)
set_option maxHeartbeats 8000000 in
set_option maxRecDepth 100000 in
theorem cmd_Same.calls (k : Nat) (a0_0 : Int) (a0_1 : ByteArray) (a0_2 : ByteArray) (a0_3 : Int) (a0_4 : ByteArray) (A0_5 : Option Addr) (c0_5 : Nat) (l0_5 : List ByteArray) (a0_6 : Int) (a0_7 : ByteArray) (a0_8 : ByteArray) (A0_9 : Option Addr) (c0_9 : Nat) (l0_9 : List ByteArray) (a1_0 : Int) (a1_1 : ByteArray) (a1_2 : ByteArray) (a1_3 : Int) (a1_4 : ByteArray) (A1_5 : Option Addr) (c1_5 : Nat) (l1_5 : List ByteArray) (a1_6 : Int) (a1_7 : ByteArray) (a1_8 : ByteArray) (A1_9 : Option Addr) (c1_9 : Nat) (l1_9 : List ByteArray) (r : Bool) (w : World) (hr0_5 : Kd.C Kd.string w A0_5 l0_5.length l0_5) (hc0_5 : l0_5.length ≤ c0_5) (hr0_9 : Kd.C Kd.string w A0_9 l0_9.length l0_9) (hc0_9 : l0_9.length ≤ c0_9) (hr1_5 : Kd.C Kd.string w A1_5 l1_5.length l1_5) (hc1_5 : l1_5.length ≤ c1_5) (hr1_9 : Kd.C Kd.string w A1_9 l1_9.length l1_9) (hc1_9 : l1_9.length ≤ c1_9) (h : cmd_Same.f k a0_0 a0_1 a0_2 a0_3 a0_4 l0_5 a0_6 a0_7 a0_8 l0_9 a1_0 a1_1 a1_2 a1_3 a1_4 l1_5 a1_6 a1_7 a1_8 l1_9 = some r) :
    Calls Tryd.prog 19 #[.agg #[.int .i64 a0_0, .string a0_1, .string a0_2, .int .i64 a0_3, .string a0_4, .slice A0_5 l0_5.length c0_5, .int .i64 a0_6, .string a0_7, .string a0_8, .slice A0_9 l0_9.length c0_9], .agg #[.int .i64 a1_0, .string a1_1, .string a1_2, .int .i64 a1_3, .string a1_4, .slice A1_5 l1_5.length c1_5, .int .i64 a1_6, .string a1_7, .string a1_8, .slice A1_9 l1_9.length c1_9]] w fun e w' => e = .returned (.bool r) ∧ Below w.heap.size w w' := by
  have HR0 := Aside0.mk (And.intro (And.intro hr0_5 hc0_5) (And.intro hr0_9 hc0_9))
  have HR1 := Aside0.mk (And.intro (And.intro hr1_5 hc1_5) (And.intro hr1_9 hc1_9))
  clear hr0_5 hc0_5 hr0_9 hc0_9 hr1_5 hc1_5 hr1_9 hc1_9
  unfold cmd_Same.f at h
  have HF := Aside0.mk h
  clear h
  go_enter Tryd.func19, Tryd.ntmps19
  go_upto_region 1 with (fail)
  obtain ⟨W, hW⟩ : ∃ W, W = ((w.alloc (.cells #[.int .i64 a0_0, .string a0_1, .string a0_2, .int .i64 a0_3, .string a0_4, .slice A0_5 l0_5.length c0_5, .int .i64 a0_6, .string a0_7, .string a0_8, .slice A0_9 l0_9.length c0_9] 34)).alloc (.cells #[.int .i64 a1_0, .string a1_1, .string a1_2, .int .i64 a1_3, .string a1_4, .slice A1_5 l1_5.length c1_5, .int .i64 a1_6, .string a1_7, .string a1_8, .slice A1_9 l1_9.length c1_9] 34)) := ⟨_, rfl⟩
  have HX : Aside0 (W.heap[w.heap.size]? = some (.cells #[.int .i64 a0_0, .string a0_1, .string a0_2, .int .i64 a0_3, .string a0_4, .slice A0_5 l0_5.length c0_5, .int .i64 a0_6, .string a0_7, .string a0_8, .slice A0_9 l0_9.length c0_9] 34 (0, 0))) := ⟨by rw [hW]; exact blk_alloc (heap_alloc_new w _) _⟩
  have HY : Aside0 (W.heap[w.heap.size + 1]? = some (.cells #[.int .i64 a1_0, .string a1_1, .string a1_2, .int .i64 a1_3, .string a1_4, .slice A1_5 l1_5.length c1_5, .int .i64 a1_6, .string a1_7, .string a1_8, .slice A1_9 l1_9.length c1_9] 34 (0, 0))) := ⟨by rw [hW]; simpa using heap_alloc_new (w.alloc (.cells #[.int .i64 a0_0, .string a0_1, .string a0_2, .int .i64 a0_3, .string a0_4, .slice A0_5 l0_5.length c0_5, .int .i64 a0_6, .string a0_7, .string a0_8, .slice A0_9 l0_9.length c0_9] 34)) (.cells #[.int .i64 a1_0, .string a1_1, .string a1_2, .int .i64 a1_3, .string a1_4, .slice A1_5 l1_5.length c1_5, .int .i64 a1_6, .string a1_7, .string a1_8, .slice A1_9 l1_9.length c1_9] 34)⟩
  have HB0 : Aside0 (Below w.heap.size w W) := ⟨by rw [hW]; exact below_alloc (below_alloc (Below.refl _ _) _) _⟩
  rw [← hW]
  clear hW
  rename_i K hK
  have HT : ∀ (gc gd : Nat) (W : World), W.heap[gc]? = some (.cells #[.int .i64 a0_3, .string a0_4, .slice A0_5 l0_5.length c0_5, .int .i64 a0_6, .string a0_7, .string a0_8, .slice A0_9 l0_9.length c0_9] 32 (0, 0)) → W.heap[gd]? = some (.cells #[.int .i64 a1_3, .string a1_4, .slice A1_5 l1_5.length c1_5, .int .i64 a1_6, .string a1_7, .string a1_8, .slice A1_9 l1_9.length c1_9] 32 (0, 0)) → W.heap[w.heap.size]? = some (.cells #[.int .i64 a0_0, .string a0_1, .string a0_2, .int .i64 a0_3, .string a0_4, .slice A0_5 l0_5.length c0_5, .int .i64 a0_6, .string a0_7, .string a0_8, .slice A0_9 l0_9.length c0_9] 34 (0, 0)) → W.heap[w.heap.size + 1]? = some (.cells #[.int .i64 a1_0, .string a1_1, .string a1_2, .int .i64 a1_3, .string a1_4, .slice A1_5 l1_5.length c1_5, .int .i64 a1_6, .string a1_7, .string a1_8, .slice A1_9 l1_9.length c1_9] 34 (0, 0)) → Below w.heap.size w W → K { tmps := #[.agg #[.int .i64 a0_0, .string a0_1, .string a0_2, .int .i64 a0_3, .string a0_4, .slice A0_5 l0_5.length c0_5, .int .i64 a0_6, .string a0_7, .string a0_8, .slice A0_9 l0_9.length c0_9], .agg #[.int .i64 a1_0, .string a1_1, .string a1_2, .int .i64 a1_3, .string a1_4, .slice A1_5 l1_5.length c1_5, .int .i64 a1_6, .string a1_7, .string a1_8, .slice A1_9 l1_9.length c1_9], .pointer (some ⟨w.heap.size, 0, none⟩), .pointer (some ⟨w.heap.size + 1, 0, none⟩), .bool false, .pointer (some ⟨gc, 0, none⟩), .pointer (some ⟨gd, 0, none⟩), undef, .pointer (some ⟨w.heap.size, 3, none⟩), .agg #[.int .i64 a0_3, .string a0_4, .slice A0_5 l0_5.length c0_5, .int .i64 a0_6, .string a0_7, .string a0_8, .slice A0_9 l0_9.length c0_9], .pointer (some ⟨w.heap.size + 1, 3, none⟩), .agg #[.int .i64 a1_3, .string a1_4, .slice A1_5 l1_5.length c1_5, .int .i64 a1_6, .string a1_7, .string a1_8, .slice A1_9 l1_9.length c1_9], undef, undef, undef, undef, undef, undef, undef, undef, undef, undef, undef, undef, undef, undef, undef, undef, undef, undef, undef, undef, undef, undef, undef, undef, undef, undef, undef, undef, undef, undef, undef, undef, undef, undef, undef, undef, undef, undef, undef, undef, undef, undef, undef, undef, undef, undef, undef, undef, undef, undef, undef, undef, undef, undef, undef, undef, undef, undef, undef, undef, undef, undef, undef, undef, undef, undef, undef, undef, undef, undef, undef, undef, undef, undef, undef, undef, undef], defers := [] } W := by
    intro gc gd W hC hD hX hY hB
    have HB := Aside0.mk hB
    obtain ⟨x0, x1, x2, _⟩ := cells10 hX
    obtain ⟨y0, y1, y2, _⟩ := cells10 hY
    obtain ⟨u0, u1, u2, u3, u4, u5, u6, _⟩ := cells7 hC
    obtain ⟨v0, v1, v2, v3, v4, v5, v6, _⟩ := cells7 hD
    clear hC hD hX hY hB
    refine hK _ _ ?_
    have h := HF.out
    clear HF HX HY HB0
    by_cases q0 : a0_0 = a1_0
    case neg =>
      rw [if_neg q0] at h
      injection h with h
      subst h
      have e0 : (a0_0 == a1_0) = false := beq_eq_false_iff_ne.2 q0
      clear q0
      go_wp2
      go_ret
      exact ⟨rfl, by first | exact HB.out | exact pw_below_drewN HB.out _ | exact pw_below_drewN (pw_below_drewN HB.out _) _⟩
    rw [if_pos q0] at h
    have e0 : (a0_0 == a1_0) = true := beq_iff_eq.2 q0
    clear q0
    by_cases q1 : a0_1.toList = a1_1.toList
    case neg =>
      rw [if_neg q1] at h
      injection h with h
      subst h
      have e1 : (a0_1.toList == a1_1.toList) = false := beq_eq_false_iff_ne.2 q1
      clear q1
      go_wp2
      go_ret
      exact ⟨rfl, by first | exact HB.out | exact pw_below_drewN HB.out _ | exact pw_below_drewN (pw_below_drewN HB.out _) _⟩
    rw [if_pos q1] at h
    have e1 : (a0_1.toList == a1_1.toList) = true := beq_iff_eq.2 q1
    clear q1
    by_cases q2 : a0_2.toList = a1_2.toList
    case neg =>
      rw [if_neg q2] at h
      injection h with h
      subst h
      have e2 : (a0_2.toList == a1_2.toList) = false := beq_eq_false_iff_ne.2 q2
      clear q2
      go_wp2
      go_ret
      exact ⟨rfl, by first | exact HB.out | exact pw_below_drewN HB.out _ | exact pw_below_drewN (pw_below_drewN HB.out _) _⟩
    rw [if_pos q2] at h
    have e2 : (a0_2.toList == a1_2.toList) = true := beq_iff_eq.2 q2
    clear q2
    by_cases q3 : a0_3 = a1_3
    case neg =>
      rw [if_neg q3] at h
      injection h with h
      subst h
      have e3 : (a0_3 == a1_3) = false := beq_eq_false_iff_ne.2 q3
      clear q3
      go_wp2
      go_ret
      exact ⟨rfl, by first | exact HB.out | exact pw_below_drewN HB.out _ | exact pw_below_drewN (pw_below_drewN HB.out _) _⟩
    rw [if_pos q3] at h
    have e3 : (a0_3 == a1_3) = true := beq_iff_eq.2 q3
    clear q3
    by_cases q4 : a0_4.toList = a1_4.toList
    case neg =>
      rw [if_neg q4] at h
      injection h with h
      subst h
      have e4 : (a0_4.toList == a1_4.toList) = false := beq_eq_false_iff_ne.2 q4
      clear q4
      go_wp2
      go_ret
      exact ⟨rfl, by first | exact HB.out | exact pw_below_drewN HB.out _ | exact pw_below_drewN (pw_below_drewN HB.out _) _⟩
    rw [if_pos q4] at h
    have e4 : (a0_4.toList == a1_4.toList) = true := beq_iff_eq.2 q4
    clear q4
    obtain ⟨b5, h5, h⟩ := Option.bind_eq_some_iff.mp h
    have H5 := Aside0.mk (fun W e1 e2 => slices_Equal_string_string.calls k A0_5 c0_5 l0_5 A1_5 c1_5 l1_5 b5 W e1 HR0.out.1.2 e2 HR1.out.1.2 h5)
    clear h5
    cases b5 with
    | false =>
      rw [if_neg (by decide)] at h
      injection h with h
      subst h
      go_wp2_with (fail)
      refine (H5.out _ (Kd.C_below HR0.out.1.1 HB.out) (Kd.C_below HR1.out.1.1 HB.out)).mono ?_
      rintro e_ w5 ⟨rfl, ⟨⟨n5, rfl⟩⟩⟩
      go_wp2
      go_ret
      exact ⟨rfl, by first | exact HB.out | exact pw_below_drewN HB.out _ | exact pw_below_drewN (pw_below_drewN HB.out _) _⟩
    | true =>
      rw [if_pos rfl] at h
      by_cases q6 : a0_6 = a1_6
      case neg =>
        rw [if_neg q6] at h
        injection h with h
        subst h
        have e6 : (a0_6 == a1_6) = false := beq_eq_false_iff_ne.2 q6
        clear q6
        go_wp2_with (fail)
        refine (H5.out _ (Kd.C_below HR0.out.1.1 HB.out) (Kd.C_below HR1.out.1.1 HB.out)).mono ?_
        rintro e_ w5 ⟨rfl, ⟨⟨n5, rfl⟩⟩⟩
        go_wp2
        go_ret
        exact ⟨rfl, by first | exact HB.out | exact pw_below_drewN HB.out _ | exact pw_below_drewN (pw_below_drewN HB.out _) _⟩
      rw [if_pos q6] at h
      have e6 : (a0_6 == a1_6) = true := beq_iff_eq.2 q6
      clear q6
      by_cases q7 : a0_7.toList = a1_7.toList
      case neg =>
        rw [if_neg q7] at h
        injection h with h
        subst h
        have e7 : (a0_7.toList == a1_7.toList) = false := beq_eq_false_iff_ne.2 q7
        clear q7
        go_wp2_with (fail)
        refine (H5.out _ (Kd.C_below HR0.out.1.1 HB.out) (Kd.C_below HR1.out.1.1 HB.out)).mono ?_
        rintro e_ w5 ⟨rfl, ⟨⟨n5, rfl⟩⟩⟩
        go_wp2
        go_ret
        exact ⟨rfl, by first | exact HB.out | exact pw_below_drewN HB.out _ | exact pw_below_drewN (pw_below_drewN HB.out _) _⟩
      rw [if_pos q7] at h
      have e7 : (a0_7.toList == a1_7.toList) = true := beq_iff_eq.2 q7
      clear q7
      by_cases q8 : a0_8.toList = a1_8.toList
      case neg =>
        rw [if_neg q8] at h
        injection h with h
        subst h
        have e8 : (a0_8.toList == a1_8.toList) = false := beq_eq_false_iff_ne.2 q8
        clear q8
        go_wp2_with (fail)
        refine (H5.out _ (Kd.C_below HR0.out.1.1 HB.out) (Kd.C_below HR1.out.1.1 HB.out)).mono ?_
        rintro e_ w5 ⟨rfl, ⟨⟨n5, rfl⟩⟩⟩
        go_wp2
        go_ret
        exact ⟨rfl, by first | exact HB.out | exact pw_below_drewN HB.out _ | exact pw_below_drewN (pw_below_drewN HB.out _) _⟩
      rw [if_pos q8] at h
      have e8 : (a0_8.toList == a1_8.toList) = true := beq_iff_eq.2 q8
      clear q8
      obtain ⟨b9, h9, h⟩ := Option.bind_eq_some_iff.mp h
      have H9 := Aside0.mk (fun W e1 e2 => slices_Equal_string_string.calls k A0_9 c0_9 l0_9 A1_9 c1_9 l1_9 b9 W e1 HR0.out.2.2 e2 HR1.out.2.2 h9)
      clear h9
      injection h with h
      subst h
      go_wp2_with (fail)
      refine (H5.out _ (Kd.C_below HR0.out.1.1 HB.out) (Kd.C_below HR1.out.1.1 HB.out)).mono ?_
      rintro e_ w5 ⟨rfl, ⟨⟨n5, rfl⟩⟩⟩
      go_wp2_with (fail)
      refine (H9.out _ (Kd.C_drewN (Kd.C_below HR0.out.2.1 HB.out) _) (Kd.C_drewN (Kd.C_below HR1.out.2.1 HB.out) _)).mono ?_
      rintro e_ w9 ⟨rfl, ⟨⟨n9, rfl⟩⟩⟩
      go_wp2
      go_ret
      exact ⟨rfl, by first | exact HB.out | exact pw_below_drewN HB.out _ | exact pw_below_drewN (pw_below_drewN HB.out _) _⟩
  obtain ⟨x0, x1, x2, x3, x4, x5, x6, x7, x8, x9, _⟩ := cells10 HX.out
  obtain ⟨y0, y1, y2, y3, y4, y5, y6, y7, y8, y9, _⟩ := cells10 HY.out
  have nx3 := World.new_ne W _ x3
  have ny3 := World.new_ne W _ y3
  go_region_held3 (fun w' => w'.cell? ⟨w.heap.size, 3, none⟩ = some (.int .i64 a0_3) ∧ w'.cell? ⟨w.heap.size, 4, none⟩ = some (.string a0_4) ∧ w'.cell? ⟨w.heap.size, 5, none⟩ = some (.slice A0_5 l0_5.length c0_5) ∧ w'.cell? ⟨w.heap.size, 6, none⟩ = some (.int .i64 a0_6) ∧ w'.cell? ⟨w.heap.size, 7, none⟩ = some (.string a0_7) ∧ w'.cell? ⟨w.heap.size, 8, none⟩ = some (.string a0_8) ∧ w'.cell? ⟨w.heap.size, 9, none⟩ = some (.slice A0_9 l0_9.length c0_9) ∧ w'.cell? ⟨w.heap.size + 1, 3, none⟩ = some (.int .i64 a1_3) ∧ w'.cell? ⟨w.heap.size + 1, 4, none⟩ = some (.string a1_4) ∧ w'.cell? ⟨w.heap.size + 1, 5, none⟩ = some (.slice A1_5 l1_5.length c1_5) ∧ w'.cell? ⟨w.heap.size + 1, 6, none⟩ = some (.int .i64 a1_6) ∧ w'.cell? ⟨w.heap.size + 1, 7, none⟩ = some (.string a1_7) ∧ w'.cell? ⟨w.heap.size + 1, 8, none⟩ = some (.string a1_8) ∧ w'.cell? ⟨w.heap.size + 1, 9, none⟩ = some (.slice A1_9 l1_9.length c1_9)) (first | exact ⟨x3, x4, x5, x6, x7, x8, x9, y3, y4, y5, y6, y7, y8, y9⟩ | go_keep) (fail)
  · exact HT W.heap.size (W.heap.size + 1) _ (blk_drew (blk_alloc (heap_alloc_new W _) _)) (blk_drew (by simpa using heap_alloc_new (W.alloc (.cells #[.int .i64 a0_3, .string a0_4, .slice A0_5 l0_5.length c0_5, .int .i64 a0_6, .string a0_7, .string a0_8, .slice A0_9 l0_9.length c0_9] 32)) (.cells #[.int .i64 a1_3, .string a1_4, .slice A1_5 l1_5.length c1_5, .int .i64 a1_6, .string a1_7, .string a1_8, .slice A1_9 l1_9.length c1_9] 32))) (blk_drew (blk_alloc (blk_alloc HX.out _) _)) (blk_drew (blk_alloc (blk_alloc HY.out _) _)) (below_drew (below_alloc (below_alloc HB0.out _) _))
  · exact HT (W.heap.size + 1) W.heap.size _ (blk_drew (by simpa using heap_alloc_new (W.alloc (.cells #[.int .i64 a1_3, .string a1_4, .slice A1_5 l1_5.length c1_5, .int .i64 a1_6, .string a1_7, .string a1_8, .slice A1_9 l1_9.length c1_9] 32)) (.cells #[.int .i64 a0_3, .string a0_4, .slice A0_5 l0_5.length c0_5, .int .i64 a0_6, .string a0_7, .string a0_8, .slice A0_9 l0_9.length c0_9] 32))) (blk_drew (blk_alloc (heap_alloc_new W _) _)) (blk_drew (blk_alloc (blk_alloc HX.out _) _)) (blk_drew (blk_alloc (blk_alloc HY.out _) _)) (below_drew (below_alloc (below_alloc HB0.out _) _))
end Go.Proofs.YtloibeefopdhpaaDoor.G
