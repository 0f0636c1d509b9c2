-- Words of the kit's print (as it laid them for this seat); what this claim does not use is left out.
import Derived.Test.YtloibeefopdhpaaDoorG15
import Derived.Test.YtloibeefopdhpaaDoorG22
set_option linter.unusedVariables false
namespace Go.Proofs.YtloibeefopdhpaaDoor.G
open Go.RowKit Go.Proofs.YtloibeefopdhpaaDoorW.PrintWords Go.Proofs.YtloibeefopdhpaaDoorW.PrintLast Go.Proofs.YtloibeefopdhpaaDoorW.PrintMore Go.Proofs.YtloibeefopdhpaaDoor.Plain
theorem rdOf_drop {l : List ByteArray} {i : Nat} {s : ByteArray} {t : List ByteArray} (h : l.drop i = s :: t) : rdOf ByteArray.empty l (i : Int) = s := by
  have : l[i]? = some s := by
    have := congrArg (fun l => l[0]?) h
    simpa using this
  rw [rdOf, Int.toNat_natCast, List.getD_eq_getElem?_getD, this]
  rfl
end Go.Proofs.YtloibeefopdhpaaDoor.G
namespace Go.Proofs.YtloibeefopdhpaaDoor.Plain
open Go.RowKit Go.Proofs.YtloibeefopdhpaaDoor.G Go.Proofs.YtloibeefopdhpaaDoorW.PrintWords Go.Proofs.YtloibeefopdhpaaDoorW.PrintLast Go.Proofs.YtloibeefopdhpaaDoorW.PrintMore
theorem drop_cons_lt {α : Type} {l : List α} {i : Nat} {x : α} {t : List α} (h : l.drop i = x :: t) : i < l.length := by
  rcases Nat.lt_or_ge i l.length with h' | h'
  · exact h'
  · rw [List.drop_eq_nil_of_le h'] at h; cases h
theorem drop_cons_succ {α : Type} {l : List α} {i : Nat} {x : α} {t : List α} (h : l.drop i = x :: t) : l.drop (i + 1) = t := by
  rw [← List.drop_drop, h]
  rfl
theorem rdOf_cons {l : List ByteArray} {i : Nat} {x : ByteArray} {t : List ByteArray} (h : l.drop i = x :: t) : rdOf ByteArray.empty l (i : Int) = x := G.rdOf_drop h
theorem ref_same_loop (a b : List ByteArray) (hl : a.length ≤ 9223372036854775806) (hab : a.length = b.length) : ∀ (t u : List ByteArray) (i : Nat), a.drop i = t → b.drop i = u → Ev (fun k => rafterref01_Same.l0 k a b (i : Int)) (decide (t = u))
  | [], u, i, ht, hu => by
    have hge := List.drop_eq_nil_iff.1 ht
    have : u = [] := by rw [← hu]; exact List.drop_eq_nil_iff.2 (by omega)
    subst this
    refine Ev.step (f := fun k => some true) (fun k => ?_) (Ev.now _)
    simp only [rafterref01_Same.l0]
    rw [if_neg (by omega)]
  | x :: t, [], i, ht, hu => by
    have hlt := drop_cons_lt ht
    have hge := List.drop_eq_nil_iff.1 hu
    omega
  | x :: t, y :: u, i, ht, hu => by
    have hlt := drop_cons_lt ht
    have hlt' := drop_cons_lt hu
    have hw : wrap64 ((i : Int) + 1) = ((i + 1 : Nat) : Int) := by rw [wrap64_in (by omega) (by omega)]; omega
    by_cases h : x = y
    · subst h
      have ih := ref_same_loop a b hl hab t u (i + 1) (drop_cons_succ ht) (drop_cons_succ hu)
      have e : decide (x :: t = x :: u) = decide (t = u) := by simp
      rw [e]
      refine Ev.step (fun k => ?_) ih
      simp only [rafterref01_Same.l0]
      rw [if_pos (by omega), if_pos (by omega), if_pos (by omega), rdOf_cons ht, rdOf_cons hu, if_pos rfl, hw]
    · have e : decide (x :: t = y :: u) = false := by simp [h]
      rw [e]
      refine Ev.step (f := fun k => some false) (fun k => ?_) (Ev.now _)
      simp only [rafterref01_Same.l0]
      rw [if_pos (by omega), if_pos (by omega), if_pos (by omega), rdOf_cons ht, rdOf_cons hu, if_neg (fun e => h (ext_toList e))]
theorem ref_same (a b : List ByteArray) (hl : b.length ≤ 9223372036854775806) : Ev (fun k => rafterref01_Same.f k a b) (decide (a = b)) := by
  unfold rafterref01_Same.f
  by_cases h : a.length = b.length
  · exact Ev.pos (by omega) (ref_same_loop a b (by omega) h a b 0 (by simp) (by simp))
  · have e : decide (a = b) = false := decide_eq_false (fun e => h (by rw [e]))
    rw [e]
    exact Ev.neg (by omega) (Ev.now _)
end Go.Proofs.YtloibeefopdhpaaDoor.Plain
set_option linter.unusedVariables false
namespace Go.Proofs.YtloibeefopdhpaaDoor.G
open Go.RowKit Go.Proofs.YtloibeefopdhpaaDoorW.PrintWords Go.Proofs.YtloibeefopdhpaaDoorW.PrintLast Go.Proofs.YtloibeefopdhpaaDoor.Plain
def strings_Index.f (a0 a1 : ByteArray) : Option Int := match a1.toList with | [c] => some (Lib.indexByte a0.toList c) | _ => none
theorem strings_Index.calls (a0 a1 : ByteArray) (r : Int) (w : World) (h : strings_Index.f a0 a1 = some r) :
    Calls Tryd.prog 128 #[.string a0, .string a1] w fun e w' => e = .returned (.int .i64 r) ∧ Drawn0 w w' := by
  unfold strings_Index.f at h
  split at h
  · rename_i c hc
    obtain rfl : a1 = ⟨#[c]⟩ := ext_toList (by rw [hc]; exact (toList_B [c]).symm)
    injection h with h
    subst h
    refine (Tryd.strings_Index_one a0 c w).mono ?_
    rintro e w' ⟨rfl, rfl⟩
    exact ⟨by rw [ByteArray.toList_eq], Drawn0.refl _⟩
  · cases h
def strings_Count.f (a0 a1 : ByteArray) : Option Int := match a1.toList with | [c] => some (a0.toList.count c : Int) | _ => none
theorem strings_Count.calls (a0 a1 : ByteArray) (r : Int) (w : World) (h : strings_Count.f a0 a1 = some r) :
    Calls Tryd.prog 127 #[.string a0, .string a1] w fun e w' => e = .returned (.int .i64 r) ∧ Drawn0 w w' := by
  unfold strings_Count.f at h
  split at h
  · rename_i c hc
    obtain rfl : a1 = ⟨#[c]⟩ := ext_toList (by rw [hc]; exact (toList_B [c]).symm)
    injection h with h
    subst h
    refine (Tryd.strings_Count_one a0 c w).mono ?_
    rintro e w' ⟨rfl, rfl⟩
    exact ⟨by rw [ByteArray.toList_eq]; rfl, Drawn0.refl _⟩
  · cases h
def strings_explode.f (a0 : ByteArray) (a1 : Int) : Option (List ByteArray) := none
theorem strings_explode.calls (a0 : ByteArray) (a1 : Int) (r : List ByteArray) (w : World) (h : strings_explode.f a0 a1 = some r) :
    Calls Tryd.prog 126 #[.string a0, .int .i64 a1] w fun e w' => ∃ v0_ : Value, e = .returned v0_ ∧ Kd.R Kd.string 9 w' w.heap.size (fun _ => True) v0_ r ∧ Below w.heap.size w w' := by
  cases h
def joinT (l : List ByteArray) (sep : ByteArray) : List UInt8 := Lib.join (l.map ByteArray.toList) sep.toList
def strings_Join.f (l0 : List ByteArray) (a1 : ByteArray) : Option ByteArray := if (joinT l0 a1).length ≤ 140737488355328 ∧ l0.length ≤ 140737488355328 then some (B (joinT l0 a1)) else none
theorem strings_Join.calls (A0 : Option Addr) (c0 : Nat) (l0 : List ByteArray) (a1 : ByteArray) (r : ByteArray) (w : World) (hr0 : Kd.C Kd.string w A0 l0.length l0) (hc0 : l0.length ≤ c0) (h : strings_Join.f l0 a1 = some r) :
    Calls Tryd.prog 62 #[.slice A0 l0.length c0, .string a1] w fun e w' => e = .returned (.string r) ∧ Below w.heap.size w w' := by
  unfold strings_Join.f at h
  by_cases hl : (joinT l0 a1).length ≤ 140737488355328 ∧ l0.length ≤ 140737488355328
  · rw [if_pos hl] at h
    injection h with h
    subst h
    rcases Nat.eq_zero_or_pos l0.length with h0 | h0
    · obtain rfl : l0 = [] := List.eq_nil_of_length_eq_zero h0
      refine (Tryd.strings_Join_none A0 c0 a1 w).mono ?_
      rintro e w' ⟨rfl, rfl⟩
      exact ⟨rfl, Below.refl _ _⟩
    · obtain ⟨ad, e0, hx0⟩ := Kd.at_string hr0 0 (by omega) (by omega)
      subst e0
      have hsp : ad.spot = none := by
        have := World.cell?_spot hx0
        simpa [Addr.add] using this
      obtain ⟨bk, o, sp⟩ := ad
      simp only at hsp
      subst hsp
      have hcells : ∀ (j : Nat) x, l0[j]? = some x → w.cell? ⟨bk, o + j, none⟩ = some (.string x) := by
        intro j x hj
        have hlt : j < l0.length := (List.getElem?_eq_some_iff.1 hj).1
        obtain ⟨ad2, e2, hx⟩ := Kd.at_string hr0 (j : Int) (by omega) (by omega)
        injection e2 with e2
        subst e2
        rw [Int.toNat_natCast, add_at] at hx
        have : rdOf ByteArray.empty l0 (j : Int) = x := by simp [rdOf, hj]
        rw [this] at hx
        exact hx
      have hbk : bk < w.heap.size := World.block_lt_of_cell? w _ hx0
      have hmap : l0.map (fun x => x.data.toList) = l0.map ByteArray.toList := by
        congr 1
        funext x
        rw [ByteArray.toList_eq]
      have hj : Lib.join (l0.map (fun x => x.data.toList)) a1.data.toList = joinT l0 a1 := by rw [joinT, hmap, ByteArray.toList_eq]
      refine (Tryd.strings_Join bk o c0 l0 a1 w hcells hbk hl.2 hc0 (by rw [hj]; exact hl.1)).mono ?_
      rintro e w' ⟨rfl, hb⟩
      exact ⟨by rw [hj]; rfl, hb⟩
  · rw [if_neg hl] at h
    cases h
end Go.Proofs.YtloibeefopdhpaaDoor.G
