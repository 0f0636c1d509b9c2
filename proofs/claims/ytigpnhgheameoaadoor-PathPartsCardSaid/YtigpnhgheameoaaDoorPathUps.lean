/- path.Ups: the walk of the closure that appends, of the loop over it, and of the reversal behind it. -/
import Derived.Test.YtigpnhgheameoaaDoorG6
import Derived.Test.YtigpnhgheameoaaDoorBytes
import Derived.Outline
set_option linter.unusedVariables false
namespace Go.Proofs.YtigpnhgheameoaaDoor.G
open Go.RowKit Go.Proofs.YtigpnhgheameoaaDoorW.PrintWords Go.Proofs.YtigpnhgheameoaaDoorW.PrintLast Go.Proofs.YtigpnhgheameoaaDoor.Plain

def UpPost (w0 : World) (g : Nat) (xs : List ByteArray) (w' : World) : Prop :=
  ∃ v, w'.heap[g]? = some (.cells #[v] 25 (0, 0)) ∧ Kd.R Kd.string 9 w' w0.heap.size (fun _ => True) v xs ∧ Below w0.heap.size w0 w'

theorem path_up.calls (q : ByteArray) (g : Nat) (xs : List ByteArray) (w0 w : World) (hp : UpPost w0 g xs w) (hgb : w0.heap.size ≤ g) (hq : q.toList ≠ []) (hl : (xs.length + 1) * 16 ≤ 140737488355328) :
    Calls Tryd.prog 66 #[.string q, .pointer (some ⟨g, 0, none⟩)] w fun e w' => e = .returned (.bool true) ∧ UpPost w0 g (xs ++ [q]) w' := by
  obtain ⟨v, hg, ho, hB⟩ := hp
  have hc : w.cell? ⟨g, 0, none⟩ = some v := (blk_cell hg 0).trans rfl
  have hf := blk_frozen hg 0
  have HG := Aside0.mk hg
  have HO := Aside0.mk ho
  have HB := Aside0.mk hB
  have HL := Aside0.mk hl
  have g1 : (q.toList == ([] : List UInt8)) = false := by simpa using hq
  have g2 : (q.toList != ([] : List UInt8)) = true := by simpa using hq
  have g3 : q.toList.isEmpty = false := by simpa using hq
  clear hg ho hB hl hq
  go_enter Tryd.func66, Tryd.ntmps66
  go_wp2_with (first | (at_builtin; refine Kd.R_append (w0 := w0) Kd.string w0.heap.size rfl (.tmp 6) (.tmp 8) 25 9 (.string ⟨#[]⟩) 16 rfl Tryd.underlying25 info9 rfl (by decide) (by omega) v xs q [.string q] (fun _ => True) (fun _ => False) rfl rfl ?aP (fun _ hk => hk.elim) ?aF ?aO HB.out ?aS ?aL ?_; (case aP => exact rfl); (case aF => exact (fun _ _ => trivial)); (case aO => exact HO.out); (case aS => exact HB.out.size); (case aL => exact HL.out); intro v1 w1 ho1 hb1 hg1 _; obtain ⟨A1, c1, rfl, _⟩ := Kd.R_reads ho1; have HG1 := Aside0.mk (blk_grown HG.out hg1 (Kd.R_ne HO.out HG.out (by decide))); have HO1 := Aside0.mk ho1; have HB1 := Aside0.mk hb1; have hc1 : w1.cell? ⟨g, 0, none⟩ = some v := (blk_cell HG1.out 0).trans rfl; have hf1 := blk_frozen HG1.out 0; clear ho1 hb1 hg1))
  go_ret
  exact ⟨rfl, _, by simpa using blk_set HG1.out 0 _, Kd.R_set HO1.out HG1.out (by decide) 0 _, below_set HB1.out hgb⟩

theorem path_up_end.calls (q : ByteArray) (g : Nat) (w : World) (hq : q.toList = []) :
    Calls Tryd.prog 66 #[.string q, .pointer (some ⟨g, 0, none⟩)] w fun e w' => e = .returned (.bool false) ∧ w = w' := by
  have g1 : (q.toList == ([] : List UInt8)) = true := by rw [hq]; rfl
  have g2 : (q.toList != ([] : List UInt8)) = false := by rw [hq]; rfl
  have g3 : q.toList.isEmpty = true := by rw [hq]; rfl
  clear hq
  go_enter Tryd.func66, Tryd.ntmps66
  go_wp2
  go_ret
  exact ⟨rfl, rfl⟩

def path_Ups.l : Nat → ByteArray → List ByteArray → Option (List ByteArray)
  | 0, _, _ => none
  | k + 1, q, out => if q.toList = ([] : List UInt8) then slices_Reverse_string_string.f k out else if (out.length + 1) * 16 ≤ 140737488355328 then (path_Dir.f k q).bind fun q2 => path_Ups.l k q2 (out ++ [q]) else none
def path_Ups.f (k : Nat) (a0 : ByteArray) : Option (List ByteArray) := (path_Dir.f k a0).bind fun q => path_Ups.l k q []
theorem path_Ups.mono_l : ∀ k, ∀ y0 y1, LeO (path_Ups.l k y0 y1) (path_Ups.l (k + 1) y0 y1)
  | 0 => fun _ _ r h => by simp [path_Ups.l] at h
  | k + 1 => by
    intro y0 y1
    unfold path_Ups.l
    exact LeO.ite (slices_Reverse_string_string.mono _ _) (LeO.ite (LeO.bind (path_Dir.mono _ _) fun x => path_Ups.mono_l k _ _) (LeO.refl _))
theorem path_Ups.mono : ∀ a0 k, LeO (path_Ups.f k a0) (path_Ups.f (k + 1) a0) := by
  intro a0 k
  unfold path_Ups.f
  exact LeO.bind (path_Dir.mono _ _) fun x => path_Ups.mono_l k _ _

theorem path_Ups.calls (k : Nat) (a0 : ByteArray) (r : List ByteArray) (w : World) (h : path_Ups.f k a0 = some r) :
    Calls Tryd.prog 25 #[.string a0] w fun e w' => ∃ v0_ : Value, e = .returned (v0_) ∧ Kd.R Kd.string 9 w' w.heap.size (fun _ => True) v0_ r ∧ Below w.heap.size w w' := by
  obtain ⟨q, hd, hl⟩ := Option.bind_eq_some_iff.mp h
  clear h
  have HD := Aside0.mk (fun W : World => path_Dir.calls k a0 q W hd)
  have HH := Aside0.mk hl
  clear hd hl
  go_enter Tryd.func25, Tryd.ntmps25
  go_wp2_with (first | (go_at_call 30; refine (HD.out _).mono ?_; rintro e w1 ⟨rfl, hb1⟩; have HB1 := Aside0.mk hb1; clear hb1))
  have HP : Aside0 (UpPost w w.heap.size [] w1) := ⟨.slice none 0 0, by have h1 := HB1.out.block; rw [HB1.out.block w.heap.size (by simp)]; simpa using heap_alloc_new w _, Kd.R_nil _ _ _ _ _, by have := below_then (B := w.heap.size) (below_alloc (Below.refl _ w) _) (by simp) HB1.out; exact this⟩
  clear HB1 HD
  go_loopg [5] k (fun gk v5 w' => ∃ (q : ByteArray) (xs : List ByteArray), v5 = .string q ∧ Aside0 (UpPost w w.heap.size xs w') ∧ Aside0 (path_Ups.l gk q xs = some r) ∧ Aside0 (gk ≤ k))
  case atStart => exact ⟨q, [], rfl, HP, HH, ⟨Nat.le_refl _⟩⟩
  case round =>
    clear HH HP
    obtain ⟨q, xs, rfl, HP, HH, HK⟩ := hrel
    cases gk with
    | zero => exact absurd HH.out (by simp [path_Ups.l])
    | succ k1 =>
      have H := HH.out
      clear HH
      rw [path_Ups.l] at H
      by_cases hq : q.toList = ([] : List UInt8)
      · rw [if_pos hq] at H
        obtain ⟨v, hg, ho, hB⟩ := HP.out
        clear HP
        have HU := Aside0.mk (fun W : World => path_up_end.calls q w.heap.size W hq)
        have hR := slices_Reverse_string_string.calls k1 (fun k_ => k_ ≠ w.heap.size) v xs r w wr hB (Kd.R_mono (Kd.R_types ho hg (by decide)) (fun k_ hk => hk.2)) H
        obtain ⟨A1, c1, rfl, _⟩ := Kd.R_reads ho
        have HR := Aside0.mk hR
        have HG := Aside0.mk hg
        have HB := Aside0.mk hB
        have hc : wr.cell? ⟨w.heap.size, 0, none⟩ = some (.slice A1 xs.length c1) := (blk_cell hg 0).trans rfl
        clear hR hg ho hB H hq
        go_wp2_with (first | (go_at_call 66; refine (HU.out _).mono ?_; rintro e w2 ⟨rfl, rfl⟩) | (go_at_call 67; refine HR.out.mono ?_; rintro e w3 ⟨rfl, ho3, hb3, hk3⟩; have HG3 := Aside0.mk (blk_kept HG.out hk3 (fun h_ => h_ rfl)); have HO3 := Aside0.mk ho3; have HB3 := Aside0.mk hb3; have hc3 : w3.cell? ⟨w.heap.size, 0, none⟩ = some (.slice A1 xs.length c1) := (blk_cell HG3.out 0).trans rfl; clear ho3 hb3 hk3))
        go_ret
        exact ⟨_, rfl, Kd.R_mono HO3.out (fun _ _ => trivial), HB3.out⟩
      · rw [if_neg hq] at H
        by_cases hl : (xs.length + 1) * 16 ≤ 140737488355328
        · rw [if_pos hl] at H
          obtain ⟨q2, hd, H⟩ := Option.bind_eq_some_iff.mp H
          have HH := Aside0.mk H
          have HD := Aside0.mk (fun W : World => path_Dir.calls k1 q q2 W hd)
          have HU := Aside0.mk (fun W : World => fun hp => path_up.calls q w.heap.size xs w W hp (Nat.le_refl _) hq hl)
          clear H hd hq hl
          go_wp2_with (first | (go_at_call 66; refine (HU.out _ HP.out).mono ?_; rintro e w2 ⟨rfl, hp2⟩; have HP2 := Aside0.mk hp2; clear hp2) | (go_at_call 30; refine (HD.out _).mono ?_; rintro e w3 ⟨rfl, hb3⟩; have HP3 : Aside0 (UpPost w w.heap.size (xs ++ [q]) w3) := ⟨let ⟨v, hg, ho, hB⟩ := HP2.out; ⟨v, blk_grown hg (grown_of_below hb3 none) (by simp), Kd.R_below ho hb3, below_then hB hB.size hb3⟩⟩; clear hb3))
          go_roundg k1
          case measure => omega
          case rel => exact ⟨q2, xs ++ [q], rfl, HP3, HH, ⟨by have := HK.out; omega⟩⟩
        · rw [if_neg hl] at H
          cases H

end Go.Proofs.YtigpnhgheameoaaDoor.G
