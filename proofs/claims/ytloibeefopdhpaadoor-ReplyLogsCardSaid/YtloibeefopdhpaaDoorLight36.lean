/- Replies that are not far too great: the walk by hand (printed by wip/tools/gen_light36.py). -/
import Derived.Test.YtloibeefopdhpaaDoorIndexByte
import Derived.Test.YtloibeefopdhpaaDoorG19
import Derived.Outline
set_option linter.unusedVariables false
set_option linter.unusedSimpArgs false
namespace Go.Proofs.YtloibeefopdhpaaDoor.G
open Go.RowKit Go.Proofs.YtloibeefopdhpaaDoorW.PrintWords Go.Proofs.YtloibeefopdhpaaDoorW.PrintLast Go.Proofs.YtloibeefopdhpaaDoorW.PrintMore

def lightN : List ByteArray → Bool
  | [] => true
  | s :: l => decide (s.size ≤ 100) && lightN l
def lightP : List S100 → Bool
  | [] => true
  | p :: l => decide (wrap64 ((p.f0.size : Int) + (p.f1.size : Int)) ≤ 200) && lightP l
def lightQ (k : Nat) : List S108 → Option Bool
  | [] => some true
  | p :: l => if wrap64 ((p.f1.size : Int) + (p.f2.size : Int)) ≤ 600 then (rafterlaw03_Light.f k p.f4).bind fun a => if a = true then (rafterlaw03_Light.f k p.f5).bind fun b => if b = true then lightQ k l else some false else some false else some false
def lightR (k : Nat) (x : S54) : Option Bool :=
  if x.f1.length ≤ 40 then (if x.f2.length ≤ 40 then (if x.f3.length ≤ 20 then (rafterlaw06_Light.f k x.f4).bind fun a => if a = true then (if lightN x.f1 = true then (if lightP x.f2 = true then lightQ k x.f3 else some false) else some false) else some false else some false) else some false) else some false
def lightL (k : Nat) : List S54 → Option Bool
  | [] => some true
  | x :: l => (lightR k x).bind fun b => if b = true then lightL k l else some false
def rafterlaw36_Light.f (k : Nat) (l0 : List S54) : Option Bool := (lightL k l0).bind fun b => if b = true then some (decide (l0.length ≤ 20)) else some false
theorem lightQ_mono (k : Nat) : ∀ l, LeO (lightQ k l) (lightQ (k + 1) l)
  | [] => LeO.refl _
  | p :: l => LeO.ite (LeO.bind (rafterlaw03_Light.mono _ _) fun _ => LeO.ite (LeO.bind (rafterlaw03_Light.mono _ _) fun _ => LeO.ite (lightQ_mono k l) (LeO.refl _)) (LeO.refl _)) (LeO.refl _)
theorem lightR_mono (k : Nat) (x) : LeO (lightR k x) (lightR (k + 1) x) := by
  unfold lightR
  exact LeO.ite (LeO.ite (LeO.ite (LeO.bind (rafterlaw06_Light.mono _ _) fun _ => LeO.ite (LeO.ite (LeO.ite (lightQ_mono k _) (LeO.refl _)) (LeO.refl _)) (LeO.refl _)) (LeO.refl _)) (LeO.refl _)) (LeO.refl _)
theorem lightL_mono (k : Nat) : ∀ l, LeO (lightL k l) (lightL (k + 1) l)
  | [] => LeO.refl _
  | x :: l => LeO.bind (lightR_mono k x) fun _ => LeO.ite (lightL_mono k l) (LeO.refl _)
theorem rafterlaw36_Light.mono : ∀ a0 k, LeO (rafterlaw36_Light.f k a0) (rafterlaw36_Light.f (k + 1) a0) := by
  intro a0 k
  unfold rafterlaw36_Light.f
  exact LeO.bind (lightL_mono k _) fun _ => LeO.refl _

set_option maxHeartbeats 8000000 in
set_option maxRecDepth 100000 in
theorem rafterlaw36_Light.calls (k : Nat) (A0 : Option Addr) (c0 : Nat) (l0 : List S54) (r : Bool) (w : World) (hr0 : Kd.C k54 w A0 l0.length l0) (hc0 : l0.length ≤ c0) (h : rafterlaw36_Light.f k l0 = some r) :
    Calls Tryd.prog 29 #[.slice A0 l0.length c0] w fun e w' => e = .returned (.bool r) ∧ Below w.heap.size w w' := by
  have HR := Aside0.mk hr0
  have HB0 := Aside0.mk (Below.refl w.heap.size w)
  have HF0 := Aside0.mk h
  clear hr0 hc0 h
  go_enter Tryd.func29, Tryd.ntmps29
  go_wp2
  go_loopg [3] l0.length (fun gk v3 w' => ∃ i : Nat, v3 = .int .i64 i ∧ Aside0 (i + gk = l0.length) ∧ Aside0 ((lightL k (l0.drop i)).bind (fun b => if b = true then some (decide (l0.length ≤ 20)) else some false) = some r) ∧ Aside0 (Below w.heap.size w w'))
  case atStart => exact ⟨0, rfl, ⟨by omega⟩, HF0, HB0⟩
  case round =>
    clear HF0 HB0
    obtain ⟨i, rfl, HI, HC, HB⟩ := hrel
    obtain ⟨V, rfl⟩ : ∃ V, V = wr := ⟨_, rfl⟩
    obtain ⟨G, rfl⟩ : ∃ G, G = gk := ⟨_, rfl⟩
    have hm := Kd.C_max HR.out
    by_cases hi : i < l0.length
    case neg =>
      have hi' : ¬ (i : Int) < (l0.length : Int) := by omega
      have h := HC.out
      rw [List.drop_eq_nil_of_le (by omega), lightL, Option.bind_some, if_pos rfl] at h
      injection h with h
      subst h
      by_cases hq : l0.length ≤ 20
      · have e1 : ((l0.length : Int) ≤ 20) = True := eq_true (by omega)
        have e2 : (l0.length ≤ 20) = True := eq_true hq
        have HQ := Aside0.mk hq
        clear hq
        go_wp2
        go_ret
        exact ⟨by first | rfl | rw [decide_eq_true HQ.out], HB.out⟩
      · have e1 : ((l0.length : Int) ≤ 20) = False := eq_false (by omega)
        have e2 : (l0.length ≤ 20) = False := eq_false hq
        have HQ := Aside0.mk hq
        clear hq
        go_wp2
        go_ret
        exact ⟨by first | rfl | rw [decide_eq_false HQ.out], HB.out⟩
    have hi' : (i : Int) < (l0.length : Int) := by omega
    have hi0 : 0 ≤ (i : Int) := by omega
    obtain ⟨ad, A1, c1, A2, c2, A3, c3, A4, c4, e0, u0, u1, u2, u3, u4, g1, q1, g2, q2, g3, q3, g4, q4⟩ := at_T54 (Kd.C_below HR.out HB.out) (i : Int) hi0 hi'
    rw [Int.toNat_natCast] at u0 u1 u2 u3 u4
    have hrd : l0.drop i = rd_T54 l0 (i : Int) :: l0.drop (i + 1) := by
      rw [List.drop_eq_getElem_cons hi]
      simp [rd_T54, hi]
    have h := HC.out
    rw [hrd, lightL] at h
    clear HC hrd
    generalize rd_T54 l0 (i : Int) = x at *
    cases e0
    obtain ⟨c, hc, hF⟩ := Option.bind_eq_some_iff.mp h
    obtain ⟨b, hb, hc⟩ := Option.bind_eq_some_iff.mp hc
    clear h
    have HE : Aside0 (b = false → r = false) := ⟨fun e => by
      subst e
      rw [if_neg (by decide)] at hc
      injection hc with hc
      subst hc
      rw [if_neg (by decide)] at hF
      injection hF with hF
      exact hF.symm⟩
    have HT : Aside0 (b = true → (lightL k (l0.drop (i + 1))).bind (fun b => if b = true then some (decide (l0.length ≤ 20)) else some false) = some r) := ⟨fun e => by
      subst e
      rw [if_pos rfl] at hc
      exact Option.bind_eq_some_iff.mpr ⟨c, hc, hF⟩⟩
    have HQ1 := Aside0.mk q1
    have HQ2 := Aside0.mk q2
    have HQ3 := Aside0.mk q3
    have HQ4 := Aside0.mk q4
    have HG4 := Aside0.mk g4
    have r1 : (0 ≤ (i : Int)) = True := eq_true hi0
    have r2 : ((i : Int) < (l0.length : Int)) = True := eq_true hi'
    have hi9 : (i : Int) + 1 ≤ 9223372036854775807 := by omega
    clear hc hF q1 q2 q3 q4 g1 g2 g3 g4 hi0
    unfold lightR at hb
    go_upto_region 5 with (fail)
    obtain ⟨W, hW⟩ : ∃ W, W = V.alloc (.cells #[.int .i64 x.f0, .slice A1 x.f1.length c1, .slice A2 x.f2.length c2, .slice A3 x.f3.length c3, .slice A4 x.f4.length c4] 54) := ⟨_, rfl⟩
    have HX : Aside0 (W.heap[V.heap.size]? = some (.cells #[.int .i64 x.f0, .slice A1 x.f1.length c1, .slice A2 x.f2.length c2, .slice A3 x.f3.length c3, .slice A4 x.f4.length c4] 54 (0, 0))) := ⟨by rw [hW]; exact heap_alloc_new V _⟩
    have HW : Aside0 (Below V.heap.size V W) := ⟨by rw [hW]; exact below_alloc (Below.refl _ _) _⟩
    rw [← hW]
    clear hW u0 u1 u2 u3 u4
    obtain ⟨x0, x1, x2, x3, x4, -⟩ := cells5 HX.out
    by_cases s1 : x.f1.length ≤ 40
    case neg =>
      rw [if_neg s1] at hb
      injection hb with hb
      have t1 : (40 < x.f1.length) = True := eq_true (by omega)
      have t1b : ((x.f1.length : Int) > 40) = True := eq_true (by omega)
      clear s1
      have hr := HE.out hb.symm
      clear hb
      subst hr
      go_wp2
      go_ret
      exact ⟨rfl, below_then HB.out HB.out.size HW.out⟩
    rw [if_pos s1] at hb
    have t1 : (40 < x.f1.length) = False := eq_false (by omega)
    have t1b : ((x.f1.length : Int) > 40) = False := eq_false (by omega)
    clear s1
    by_cases s2 : x.f2.length ≤ 40
    case neg =>
      rw [if_neg s2] at hb
      injection hb with hb
      have t2 : (40 < x.f2.length) = True := eq_true (by omega)
      have t2b : ((x.f2.length : Int) > 40) = True := eq_true (by omega)
      clear s2
      have hr := HE.out hb.symm
      clear hb
      subst hr
      go_wp2
      go_ret
      exact ⟨rfl, below_then HB.out HB.out.size HW.out⟩
    rw [if_pos s2] at hb
    have t2 : (40 < x.f2.length) = False := eq_false (by omega)
    have t2b : ((x.f2.length : Int) > 40) = False := eq_false (by omega)
    clear s2
    by_cases s3 : x.f3.length ≤ 20
    case neg =>
      rw [if_neg s3] at hb
      injection hb with hb
      have t3 : (20 < x.f3.length) = True := eq_true (by omega)
      have t3b : ((x.f3.length : Int) > 20) = True := eq_true (by omega)
      clear s3
      have hr := HE.out hb.symm
      clear hb
      subst hr
      go_wp2
      go_ret
      exact ⟨rfl, below_then HB.out HB.out.size HW.out⟩
    rw [if_pos s3] at hb
    have t3 : (20 < x.f3.length) = False := eq_false (by omega)
    have t3b : ((x.f3.length : Int) > 20) = False := eq_false (by omega)
    clear s3
    obtain ⟨a, ha, hb⟩ := Option.bind_eq_some_iff.mp hb
    have H6 := Aside0.mk (fun W e1 => rafterlaw06_Light.calls k A4 c4 x.f4 a W e1 HG4.out ha)
    clear ha
    go_wp2_with (fail)
    refine (H6.out _ (Kd.C_below HQ4.out HW.out)).mono ?_
    rintro e_ w2 ⟨rfl, hd⟩
    have hb2 := below_drawn hd
    have HX2 := Aside0.mk (blk_below HX.out hb2)
    have HW2 := Aside0.mk (below_then HW.out HW.out.size hb2)
    clear hd hb2 x0 x1 x2 x3 x4 HX H6
    obtain ⟨x0, x1, x2, x3, x4, -⟩ := cells5 HX2.out
    cases a with
    | false =>
      rw [if_neg (by decide)] at hb
      injection hb with hb
      have hr := HE.out hb.symm
      clear hb
      subst hr
      go_wp2
      go_ret
      exact ⟨rfl, below_then HB.out HB.out.size HW2.out⟩
    | true =>
      rw [if_pos rfl] at hb
      have HN := Aside0.mk hb
      clear hb
      go_wp2
      clear x0 x1 x2 x3 x4 t1 t1b t2 t2b t3 t3b
      go_loopg [5] x.f1.length (fun gj v5 w' => ∃ j : Nat, v5 = .int .i64 j ∧ Aside0 (j + gj = x.f1.length) ∧ Aside0 (lightN (x.f1.drop j) = lightN x.f1) ∧ Aside0 (Below V.heap.size V w') ∧ Aside0 (w'.heap[V.heap.size]? = some (.cells #[.int .i64 x.f0, .slice A1 x.f1.length c1, .slice A2 x.f2.length c2, .slice A3 x.f3.length c3, .slice A4 x.f4.length c4] 54 (0, 0))))
      case atStart => exact ⟨0, rfl, ⟨by omega⟩, ⟨rfl⟩, HW2, HX2⟩
      case round =>
        clear HW HW2 HX2
        obtain ⟨j, rfl, HJ, HD, HW, HX⟩ := hrel
        obtain ⟨x0, x1, x2, x3, x4, -⟩ := cells5 HX.out
        have hmj := Kd.C_max HQ1.out
        by_cases hj : j < x.f1.length
        case neg =>
          have hj' : ¬ (j : Int) < (x.f1.length : Int) := by omega
          have h := HD.out
          rw [List.drop_eq_nil_of_le (by omega), lightN] at h
          have hn := HN.out
          rw [← h, if_pos rfl] at hn
          clear HN h HD
          have HN := Aside0.mk hn
          clear hn
          go_wp2
          clear x0 x1 x2 x3 x4
          go_loopg [6] x.f2.length (fun gj v6 w' => ∃ j : Nat, v6 = .int .i64 j ∧ Aside0 (j + gj = x.f2.length) ∧ Aside0 (lightP (x.f2.drop j) = lightP x.f2) ∧ Aside0 (Below V.heap.size V w') ∧ Aside0 (w'.heap[V.heap.size]? = some (.cells #[.int .i64 x.f0, .slice A1 x.f1.length c1, .slice A2 x.f2.length c2, .slice A3 x.f3.length c3, .slice A4 x.f4.length c4] 54 (0, 0))))
          case atStart => exact ⟨0, rfl, ⟨by omega⟩, ⟨rfl⟩, HW, HX⟩
          case round =>
            clear HW HX
            obtain ⟨j, rfl, HJ, HD, HW, HX⟩ := hrel
            obtain ⟨x0, x1, x2, x3, x4, -⟩ := cells5 HX.out
            have hmj := Kd.C_max HQ2.out
            by_cases hj : j < x.f2.length
            case neg =>
              have hj' : ¬ (j : Int) < (x.f2.length : Int) := by omega
              have h := HD.out
              rw [List.drop_eq_nil_of_le (by omega), lightP] at h
              have hn := HN.out
              rw [← h, if_pos rfl] at hn
              clear HN h HD
              have HN := Aside0.mk hn
              clear hn
              go_wp2
              clear x0 x1 x2 x3 x4
              go_loopg [7] x.f3.length (fun gj v7 w' => ∃ j : Nat, v7 = .int .i64 j ∧ Aside0 (j + gj = x.f3.length) ∧ Aside0 (lightQ k (x.f3.drop j) = some b) ∧ Aside0 (Below V.heap.size V w') ∧ Aside0 (w'.heap[V.heap.size]? = some (.cells #[.int .i64 x.f0, .slice A1 x.f1.length c1, .slice A2 x.f2.length c2, .slice A3 x.f3.length c3, .slice A4 x.f4.length c4] 54 (0, 0))))
              case atStart => exact ⟨0, rfl, ⟨by omega⟩, HN, HW, HX⟩
              case round =>
                clear HW HX
                obtain ⟨j, rfl, HJ, HD, HW, HX⟩ := hrel
                obtain ⟨x0, x1, x2, x3, x4, -⟩ := cells5 HX.out
                have hmj := Kd.C_max HQ3.out
                by_cases hj : j < x.f3.length
                case neg =>
                  have hj' : ¬ (j : Int) < (x.f3.length : Int) := by omega
                  have h := HD.out
                  rw [List.drop_eq_nil_of_le (by omega), lightQ] at h
                  injection h with h
                  have hT := Aside0.mk (HT.out h.symm)
                  clear h
                  go_wp2
                  go_roundg (G - 1)
                  case measure => have := HI.out; omega
                  case rel => exact ⟨i + 1, by go_num, ⟨by have := HI.out; omega⟩, hT, ⟨below_then HB.out HB.out.size HW.out⟩⟩
                have hj' : (j : Int) < (x.f3.length : Int) := by omega
                have hj0 : 0 ≤ (j : Int) := by omega
                have r3 : (0 ≤ (j : Int)) = True := eq_true hj0
                have r4 : ((j : Int) < (x.f3.length : Int)) = True := eq_true hj'
                have hj9 : (j : Int) + 1 ≤ 9223372036854775807 := by omega
                obtain ⟨pd, B4, d4, B5, d5, e0, v0, v1, v2, v3, v4, v5, j4, p4, j5, p5⟩ := at_T108 (Kd.C_below HQ3.out HW.out) (j : Int) hj0 hj'
                rw [Int.toNat_natCast] at v0 v1 v2 v3 v4 v5
                have hrd : x.f3.drop j = rd_T108 x.f3 (j : Int) :: x.f3.drop (j + 1) := by
                  rw [List.drop_eq_getElem_cons hj]
                  simp [rd_T108, hj]
                have h := HD.out
                rw [hrd, lightQ] at h
                clear HD hrd
                generalize rd_T108 x.f3 (j : Int) = p at *
                cases e0
                have HQ5 := Aside0.mk (And.intro p4 p5)
                have HG5 := Aside0.mk (And.intro j4 j5)
                clear p4 p5 j4 j5
                go_upto_region 21 with (fail)
                obtain ⟨W3, hW⟩ : ∃ W3, W3 = wr.alloc (.cells #[.int .i64 p.f0, .string p.f1, .string p.f2, .int .i64 p.f3, .slice B4 p.f4.length d4, .slice B5 p.f5.length d5] 108) := ⟨_, rfl⟩
                have HP : Aside0 (W3.heap[wr.heap.size]? = some (.cells #[.int .i64 p.f0, .string p.f1, .string p.f2, .int .i64 p.f3, .slice B4 p.f4.length d4, .slice B5 p.f5.length d5] 108 (0, 0))) := ⟨by rw [hW]; exact heap_alloc_new wr _⟩
                have HX3 : Aside0 (W3.heap[V.heap.size]? = some (.cells #[.int .i64 x.f0, .slice A1 x.f1.length c1, .slice A2 x.f2.length c2, .slice (some pd) x.f3.length c3, .slice A4 x.f4.length c4] 54 (0, 0))) := ⟨by rw [hW]; exact blk_alloc HX.out _⟩
                have HW3 : Aside0 (Below V.heap.size V W3) := ⟨by rw [hW]; exact below_alloc HW.out _⟩
                have HP4 : Aside0 (Kd.C Kd.string W3 B4 p.f4.length p.f4 ∧ Kd.C Kd.string W3 B5 p.f5.length p.f5) := ⟨by rw [hW]; exact ⟨Kd.C_alloc HQ5.out.1 _, Kd.C_alloc HQ5.out.2 _⟩⟩
                rw [← hW]
                clear hW v0 v1 v2 v3 v4 v5 x0 x1 x2 x3 x4
                obtain ⟨y0, y1, y2, y3, y4, y5, -⟩ := cells6 HP.out
                by_cases s1 : wrap64 ((p.f1.size : Int) + (p.f2.size : Int)) ≤ 600
                case neg =>
                  rw [if_neg s1] at h
                  injection h with h
                  have t1 : (600 < wrap64 ((p.f1.size : Int) + (p.f2.size : Int))) = True := eq_true (by omega)
                  have t2 : decide (600 < wrap64 ((p.f1.size : Int) + (p.f2.size : Int))) = true := decide_eq_true (by omega)
                  clear s1
                  have hr := HE.out h.symm
                  clear h
                  subst hr
                  go_wp2
                  go_ret
                  exact ⟨rfl, below_then HB.out HB.out.size HW3.out⟩
                rw [if_pos s1] at h
                have t1 : (600 < wrap64 ((p.f1.size : Int) + (p.f2.size : Int))) = False := eq_false (by omega)
                have t2 : decide (600 < wrap64 ((p.f1.size : Int) + (p.f2.size : Int))) = false := decide_eq_false (by omega)
                clear s1
                obtain ⟨a, ha, h⟩ := Option.bind_eq_some_iff.mp h
                have H4 := Aside0.mk (fun W e1 => rafterlaw03_Light.calls k B4 d4 p.f4 a W e1 HG5.out.1 ha)
                clear ha
                go_wp2_with (fail)
                refine (H4.out _ HP4.out.1).mono ?_
                rintro e_ w4 ⟨rfl, hd⟩
                have hb4 := below_drawn hd
                have HP5 := Aside0.mk (blk_below HP.out hb4)
                have HX5 := Aside0.mk (blk_below HX3.out hb4)
                have HW5 := Aside0.mk (below_then HW3.out HW3.out.size hb4)
                have HP6 := Aside0.mk (Kd.C_below HP4.out.2 hb4)
                clear hd hb4 y0 y1 y2 y3 y4 y5 H4
                obtain ⟨y0, y1, y2, y3, y4, y5, -⟩ := cells6 HP5.out
                cases a with
                | false =>
                  rw [if_neg (by decide)] at h
                  injection h with h
                  have hr := HE.out h.symm
                  clear h
                  subst hr
                  go_wp2
                  go_ret
                  exact ⟨rfl, below_then HB.out HB.out.size HW5.out⟩
                | true =>
                  rw [if_pos rfl] at h
                  obtain ⟨a, ha, h⟩ := Option.bind_eq_some_iff.mp h
                  have H5 := Aside0.mk (fun W e1 => rafterlaw03_Light.calls k B5 d5 p.f5 a W e1 HG5.out.2 ha)
                  clear ha
                  go_wp2_with (fail)
                  refine (H5.out _ HP6.out).mono ?_
                  rintro e_ w5 ⟨rfl, hd⟩
                  have hb4 := below_drawn hd
                  have HX7 := Aside0.mk (blk_below HX5.out hb4)
                  have HW7 := Aside0.mk (below_then HW5.out HW5.out.size hb4)
                  clear hd hb4 y0 y1 y2 y3 y4 y5 H5
                  cases a with
                  | false =>
                    rw [if_neg (by decide)] at h
                    injection h with h
                    have hr := HE.out h.symm
                    clear h
                    subst hr
                    go_wp2
                    go_ret
                    exact ⟨rfl, below_then HB.out HB.out.size HW7.out⟩
                  | true =>
                    rw [if_pos rfl] at h
                    have HD2 := Aside0.mk h
                    clear h
                    go_wp2
                    go_roundg (gk - 1)
                    case measure => have := HJ.out; omega
                    case rel => exact ⟨j + 1, by go_num, ⟨by have := HJ.out; omega⟩, HD2, HW7, HX7⟩
            have hj' : (j : Int) < (x.f2.length : Int) := by omega
            have hj0 : 0 ≤ (j : Int) := by omega
            have r3 : (0 ≤ (j : Int)) = True := eq_true hj0
            have r4 : ((j : Int) < (x.f2.length : Int)) = True := eq_true hj'
            have hj9 : (j : Int) + 1 ≤ 9223372036854775807 := by omega
            obtain ⟨pd, e0, v0, v1⟩ := at_T100 (Kd.C_below HQ2.out HW.out) (j : Int) hj0 hj'
            rw [Int.toNat_natCast] at v0 v1
            have hrd : x.f2.drop j = rd_T100 x.f2 (j : Int) :: x.f2.drop (j + 1) := by
              rw [List.drop_eq_getElem_cons hj]
              simp [rd_T100, hj]
            have h := HD.out
            rw [hrd, lightP] at h
            clear HD hrd
            generalize rd_T100 x.f2 (j : Int) = p at *
            cases e0
            by_cases s1 : wrap64 ((p.f0.size : Int) + (p.f1.size : Int)) ≤ 200
            case neg =>
              rw [decide_eq_false s1, Bool.false_and] at h
              have t1 : (200 < wrap64 ((p.f0.size : Int) + (p.f1.size : Int))) = True := eq_true (by omega)
              have t2 : decide (200 < wrap64 ((p.f0.size : Int) + (p.f1.size : Int))) = true := decide_eq_true (by omega)
              clear s1
              have hn := HN.out
              rw [← h, if_neg (by decide)] at hn
              injection hn with hn
              have hr := HE.out hn.symm
              subst hr
              clear hn h
              go_upto_region 15 with (fail)
              go_quiet (fail)
              go_wp2
              go_ret
              exact ⟨rfl, below_then HB.out HB.out.size (pw_below_drewN HW.out _)⟩
            rw [decide_eq_true s1, Bool.true_and] at h
            have t1 : (200 < wrap64 ((p.f0.size : Int) + (p.f1.size : Int))) = False := eq_false (by omega)
            have t2 : decide (200 < wrap64 ((p.f0.size : Int) + (p.f1.size : Int))) = false := decide_eq_false (by omega)
            clear s1
            have HD2 := Aside0.mk h
            clear h
            go_upto_region 15 with (fail)
            go_quiet (fail)
            go_wp2
            go_roundg (gk - 1)
            case measure => have := HJ.out; omega
            case rel => exact ⟨j + 1, by go_num, ⟨by have := HJ.out; omega⟩, HD2, ⟨pw_below_drewN HW.out _⟩, ⟨blk_drewN HX.out _⟩⟩
        have hj' : (j : Int) < (x.f1.length : Int) := by omega
        have hj0 : 0 ≤ (j : Int) := by omega
        have r3 : (0 ≤ (j : Int)) = True := eq_true hj0
        have r4 : ((j : Int) < (x.f1.length : Int)) = True := eq_true hj'
        have hj9 : (j : Int) + 1 ≤ 9223372036854775807 := by omega
        obtain ⟨pd, e0, v0⟩ := Kd.at_string (Kd.C_below HQ1.out HW.out) (j : Int) hj0 hj'
        rw [Int.toNat_natCast] at v0
        have hrd : x.f1.drop j = rdOf ByteArray.empty x.f1 (j : Int) :: x.f1.drop (j + 1) := by
          rw [List.drop_eq_getElem_cons hj]
          simp [rdOf, hj]
        have h := HD.out
        rw [hrd, lightN] at h
        clear HD hrd
        generalize rdOf ByteArray.empty x.f1 (j : Int) = p at *
        cases e0
        by_cases s1 : p.size ≤ 100
        case neg =>
          rw [decide_eq_false s1, Bool.false_and] at h
          have t1 : (100 < p.size) = True := eq_true (by omega)
          have t2 : ((p.size : Int) > 100) = True := eq_true (by omega)
          clear s1
          have hn := HN.out
          rw [← h, if_neg (by decide)] at hn
          injection hn with hn
          have hr := HE.out hn.symm
          subst hr
          clear hn h
          go_wp2
          go_ret
          exact ⟨rfl, below_then HB.out HB.out.size HW.out⟩
        rw [decide_eq_true s1, Bool.true_and] at h
        have t1 : (100 < p.size) = False := eq_false (by omega)
        have t2 : ((p.size : Int) > 100) = False := eq_false (by omega)
        clear s1
        have HD2 := Aside0.mk h
        clear h
        go_wp2
        go_roundg (gk - 1)
        case measure => have := HJ.out; omega
        case rel => exact ⟨j + 1, by go_num, ⟨by have := HJ.out; omega⟩, HD2, HW, HX⟩
end Go.Proofs.YtloibeefopdhpaaDoor.G
