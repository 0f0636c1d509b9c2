/- path.Right: which texts are paths; the walk, with slices.ContainsFunc over its predicate. -/
import Derived.Test.YtigpnhgheameoaaDoorG3
import Derived.Test.YtigpnhgheameoaaDoorNameRight
import Derived.Outline
set_option linter.unusedVariables false
namespace Go.Proofs.YtigpnhgheameoaaDoor.G
open Go.RowKit Go.Proofs.YtigpnhgheameoaaDoorW.PrintWords Go.Proofs.YtigpnhgheameoaaDoorW.PrintLast Go.Proofs.YtigpnhgheameoaaDoor.Plain

/-- The place of the first one of which something is so; -1: there is none. -/
def firstIdx {α : Type} (p : α → Bool) : List α → Nat → Int
  | [], _ => -1
  | x :: l, i => if p x then (i : Int) else firstIdx p l (i + 1)
theorem firstIdx_ge {α : Type} (p : α → Bool) : ∀ (l : List α) (i : Nat), decide (firstIdx p l i ≥ 0) = l.any p
  | [], i => rfl
  | x :: l, i => by
    rw [firstIdx, List.any_cons]
    cases h : p x with
    | true => simp
    | false => simpa using firstIdx_ge p l (i + 1)

/-- The closure in path.Right: is a text no name? -/
theorem path_bad.calls (s : ByteArray) (w : World) :
    Calls Tryd.prog 69 #[.string s] w fun e w' => e = .returned (.bool (!nameOk s.toList)) ∧ Below w.heap.size w w' := by
  have HN := Aside0.mk (fun W : World => name_Right.calls s (nameOk s.toList) W rfl)
  generalize nameOk s.toList = b at HN ⊢
  go_enter Tryd.func69, Tryd.ntmps69
  go_wp2_with (first | (go_at_call 70; refine (HN.out _).mono ?_; rintro e w1 ⟨rfl, hb⟩))
  go_ret
  exact ⟨rfl, hb⟩

theorem path_IndexFunc.calls (A0 : Option Addr) (c0 : Nat) (l0 : List ByteArray) (w : World) (hr0 : Kd.C Kd.string w A0 l0.length l0) (hc0 : l0.length ≤ c0) :
    Calls Tryd.prog 109 #[.slice A0 l0.length c0, .func (.func 69) #[] #[]] w fun e w' => e = .returned (.int .i64 (firstIdx (fun x => !nameOk x.toList) l0 0)) ∧ Below w.heap.size w w' := by
  have HR0 := Aside0.mk hr0
  have HC0 := Aside0.mk hc0
  have hm := Kd.C_max hr0
  clear hr0 hc0
  obtain ⟨r, hr⟩ : ∃ r, r = firstIdx (fun x => !nameOk x.toList) l0 0 := ⟨_, rfl⟩
  rw [← hr]
  have HI := Aside0.mk hr
  clear hr
  go_enter Tryd.func109, Tryd.ntmps109
  go_wp2
  go_loopg [8] l0.length (fun gk v8 w' => ∃ i : Nat, v8 = .int .i64 i ∧ Aside0 (i + gk = l0.length) ∧ Aside0 (Below w.heap.size w w') ∧ Aside0 (r = firstIdx (fun x => !nameOk x.toList) (l0.drop i) i))
  case atStart => exact ⟨0, rfl, ⟨by omega⟩, ⟨Below.refl _ _⟩, HI⟩
  case round =>
    clear HI
    obtain ⟨i, rfl, HI, HB, HG⟩ := hrel
    by_cases hi : i < l0.length
    · have hd0 : l0.drop i = l0[i] :: l0.drop (i + 1) := List.drop_eq_getElem_cons hi
      have H := HG.out
      clear HG
      rw [hd0, firstIdx] at H
      obtain ⟨ad, e0, hx⟩ := Kd.at_string HR0.out (i : Int) (by omega) (by omega)
      cases e0
      replace hx := (HB.out.cell (World.block_lt_of_cell? w _ hx)).trans hx
      have e1 : rdOf ByteArray.empty l0 (i : Int) = l0[i] := by simp [rdOf, hi]
      rw [e1, Int.toNat_natCast] at hx
      have HN := Aside0.mk (fun W : World => path_bad.calls l0[i] W)
      generalize l0[i] = x at *
      clear hd0 e1
      have hi' : (i : Int) < (l0.length : Int) := by omega
      obtain ⟨b, hb0⟩ : ∃ b, b = nameOk x.toList := ⟨_, rfl⟩
      rw [← hb0] at H HN
      cases b with
      | true =>
        have HG := Aside0.mk (show r = firstIdx (fun x => !nameOk x.toList) (l0.drop (i + 1)) (i + 1) by simpa using H)
        clear H hb0
        go_wp2_with (first | (go_at_call 69; refine (HN.out _).mono ?_; rintro e w2 ⟨rfl, hb⟩; have HB2 := Aside0.mk (below_step HB.out hb); clear hb))
        go_roundg (gk - 1)
        case measure => have := HI.out; omega
        case rel => exact ⟨i + 1, by go_num, ⟨by have := HI.out; omega⟩, HB2, HG⟩
      | false =>
        have HG := Aside0.mk (show r = (i : Int) by simpa using H)
        clear H hb0
        go_wp2_with (first | (go_at_call 69; refine (HN.out _).mono ?_; rintro e w2 ⟨rfl, hb⟩; have HB2 := Aside0.mk (below_step HB.out hb); clear hb))
        go_ret
        exact ⟨by rw [HG.out]; rfl, HB2.out⟩
    · have H := HG.out
      clear HG
      rw [List.drop_eq_nil_of_le (by omega), firstIdx] at H
      have HG := Aside0.mk H
      clear H
      have hi' : ¬ (i : Int) < (l0.length : Int) := by omega
      have hi2 : decide ((i : Int) < (l0.length : Int)) = false := decide_eq_false hi'
      go_wp2
      go_ret
      exact ⟨by rw [HG.out]; rfl, HB.out⟩

theorem path_ContainsFunc.calls (A0 : Option Addr) (c0 : Nat) (l0 : List ByteArray) (w : World) (hr0 : Kd.C Kd.string w A0 l0.length l0) (hc0 : l0.length ≤ c0) :
    Calls Tryd.prog 71 #[.slice A0 l0.length c0, .func (.func 69) #[] #[]] w fun e w' => e = .returned (.bool (l0.any (fun x => !nameOk x.toList))) ∧ Below w.heap.size w w' := by
  have HN := Aside0.mk (path_IndexFunc.calls A0 c0 l0 w hr0 hc0)
  rw [← firstIdx_ge _ l0 0]
  clear hr0 hc0
  generalize firstIdx (fun x : ByteArray => !nameOk x.toList) l0 0 = n at HN ⊢
  go_enter Tryd.func71, Tryd.ntmps71
  go_wp2_with (first | (go_at_call 109; refine HN.out.mono ?_; rintro e w1 ⟨rfl, hb⟩))
  go_ret
  exact ⟨rfl, hb⟩

def path_Right.f (k : Nat) (a0 : ByteArray) : Option Bool := (strings_Split.f k a0 (⟨#[47]⟩ : ByteArray)).bind fun l => some (decide (a0.size ≤ 200) && decide (l.length ≤ 16) && l.all (fun x => nameOk x.toList))
theorem path_Right.mono : ∀ a0 k, LeO (path_Right.f k a0) (path_Right.f (k + 1) a0) := by
  intro a0 k
  unfold path_Right.f
  exact LeO.bind (strings_Split.mono _ _ _) fun t => LeO.refl _
theorem path_Right.calls (k : Nat) (a0 : ByteArray) (r : Bool) (w : World) (h : path_Right.f k a0 = some r) :
    Calls Tryd.prog 27 #[.string a0] w fun e w' => e = .returned (.bool r) ∧ Below w.heap.size w w' := by
  obtain ⟨l, hs, h2⟩ := Option.bind_eq_some_iff.mp h
  clear h
  injection h2 with h2
  have HS := Aside0.mk (fun W : World => strings_Split.calls k a0 (⟨#[47]⟩ : ByteArray) l W hs)
  have ha : l.any (fun x => !nameOk x.toList) = !l.all (fun x => nameOk x.toList) := by
    induction l with
    | nil => rfl
    | cons x l ih => simp only [List.any_cons, List.all_cons, Bool.not_and]; rw [← show l.any (fun x => !nameOk x.toList) = !l.all (fun x => nameOk x.toList) from by rw [List.any_eq_not_all_not]; simp]
  have HC := Aside0.mk (fun (A : Option Addr) (c : Nat) (W : World) => path_ContainsFunc.calls A c l W)
  rw [ha] at HC
  clear ha hs
  generalize l.all (fun x => nameOk x.toList) = b at HC h2
  have HR := Aside0.mk h2
  clear h2
  by_cases h1 : a0.size ≤ 200
  · have k1 : decide ((a0.size : Int) ≤ 200) = true := decide_eq_true (by omega)
    have k2 : decide (a0.size ≤ 200) = true := decide_eq_true h1
    by_cases h3 : l.length ≤ 16
    · have k3 : decide ((l.length : Int) ≤ 16) = true := decide_eq_true (by omega)
      have k4 : decide (l.length ≤ 16) = true := decide_eq_true h3
      go_enter Tryd.func27, Tryd.ntmps27
      go_wp2_with (first | (go_at_call 68; refine (HS.out _).mono ?_; rintro e w1 ⟨v1, rfl, ho, hb⟩; obtain ⟨A1, c1, rfl, hc1, hr1⟩ := Kd.R_reads ho; have HB1 := Aside0.mk hb; have HR1 := Aside0.mk hr1; have HC1 := Aside0.mk hc1; clear ho hb hr1 hc1) | (go_at_call 71; refine (HC.out A1 c1 _ HR1.out HC1.out).mono ?_; rintro e w2 ⟨rfl, hb⟩; have HB2 := Aside0.mk (below_step HB1.out hb); clear hb))
      go_ret
      exact ⟨by rw [← HR.out, k2, k4]; simp, HB2.out⟩
    · have k3 : decide ((l.length : Int) ≤ 16) = false := decide_eq_false (by omega)
      have k4 : decide (l.length ≤ 16) = false := decide_eq_false h3
      go_enter Tryd.func27, Tryd.ntmps27
      go_wp2_with (first | (go_at_call 68; refine (HS.out _).mono ?_; rintro e w1 ⟨v1, rfl, ho, hb⟩; obtain ⟨A1, c1, rfl, hc1, hr1⟩ := Kd.R_reads ho; have HB1 := Aside0.mk hb; have HR1 := Aside0.mk hr1; have HC1 := Aside0.mk hc1; clear ho hb hr1 hc1))
      go_ret
      exact ⟨by rw [← HR.out, k2, k4]; simp, HB1.out⟩
  · have k1 : decide ((a0.size : Int) ≤ 200) = false := decide_eq_false (by omega)
    have k2 : decide (a0.size ≤ 200) = false := decide_eq_false h1
    go_enter Tryd.func27, Tryd.ntmps27
    go_wp2_with (first | (go_at_call 68; refine (HS.out _).mono ?_; rintro e w1 ⟨v1, rfl, ho, hb⟩; obtain ⟨A1, c1, rfl, hc1, hr1⟩ := Kd.R_reads ho; have HB1 := Aside0.mk hb; have HR1 := Aside0.mk hr1; have HC1 := Aside0.mk hc1; clear ho hb hr1 hc1))
    go_ret
    exact ⟨by rw [← HR.out, k2]; simp, HB1.out⟩

end Go.Proofs.YtigpnhgheameoaaDoor.G
