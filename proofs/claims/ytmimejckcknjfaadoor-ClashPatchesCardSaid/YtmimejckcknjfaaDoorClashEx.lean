/- R03.Check, L03.Light: they answer, whatever it is. -/
import Derived.Lib.MapLaws
import Derived.Test.YtmimejckcknjfaaDoorG11
import Derived.Test.YtmimejckcknjfaaDoorG14
set_option linter.unusedVariables false
namespace Go.Proofs.YtmimejckcknjfaaDoor.Plain
open Go.RowKit Go.Proofs.YtmimejckcknjfaaDoor.G Go.Proofs.YtmimejckcknjfaaDoorW.PrintWords Go.Proofs.YtmimejckcknjfaaDoorW.PrintLast Go.Proofs.YtmimejckcknjfaaDoorW.PrintMore

theorem decodeGo_B (l : List UInt8) (h : l ≠ []) : Lib.decodeGo (B l) = Lib.decodeL l := by
  have hs : (B l).size ≠ 0 := by rw [← toList_length, toList_B]; have := List.length_pos_iff.2 h; omega
  rw [Lib.decodeGo, if_neg hs]
  rfl
theorem ref3_ex (s : ByteArray) (hs : s.size ≤ 200) : ∀ (n i : Nat), s.size - i ≤ n → i ≤ s.size → ∃ r, Ev (fun k => rafterref03_Right.l0 k s (i : Int)) r
  | n, i, hn, hi => by
    have hlen := toList_length s
    by_cases h : i < s.size
    · obtain ⟨m, rfl⟩ : ∃ m, n = m + 1 := ⟨n - 1, by omega⟩
      have hne : s.toList.drop i ≠ [] := fun e => by have := List.drop_eq_nil_iff.1 e; omega
      have hw := Lib.decodeL_width (s.toList.drop i)
      have hw2 := Lib.decodeL_le (s.toList.drop i) hne
      rw [List.length_drop, hlen] at hw2
      obtain ⟨r, ih⟩ := ref3_ex s hs m (i + (Lib.decodeL (s.toList.drop i)).2) (by omega) (by omega)
      have hd : utf8_DecodeRuneInString.f (s.extract i s.size) = some (((Lib.decodeL (s.toList.drop i)).1 : Int), ((Lib.decodeL (s.toList.drop i)).2 : Int)) := by
        rw [utf8_DecodeRuneInString.f, extract_drop, decodeGo_B _ hne]
      generalize hdl : Lib.decodeL (s.toList.drop i) = d at *
      obtain ⟨c, w⟩ := d
      simp only at hw hw2 ih hd ⊢
      have hwr : wrap64 ((i : Int) + (w : Int)) = ((i + w : Nat) : Int) := by rw [wrap64_in (by omega) (by omega)]; omega
      by_cases h1 : c = 65533 ∧ w = 1
      · refine ⟨false, Ev.step (f := fun k => some false) (fun k => ?_) (Ev.now _)⟩
        simp only [rafterref03_Right.l0]
        rw [if_pos (by omega), if_pos (by omega), if_pos (by omega), Int.toNat_natCast, hd]
        show (if (c : Int) = 65533 then _ else _) = _
        rw [if_pos (by omega)]
        show (if (w : Int) = 1 then _ else _) = _
        rw [if_pos (by omega)]
      · by_cases h2 : c < 32 ∧ c ≠ 9
        · refine ⟨false, Ev.step (f := fun k => some false) (fun k => ?_) (Ev.now _)⟩
          simp only [rafterref03_Right.l0]
          rw [if_pos (by omega), if_pos (by omega), if_pos (by omega), Int.toNat_natCast, hd]
          show (if (c : Int) = 65533 then _ else (if (c : Int) < 32 then (if (c : Int) = 9 then _ else some false) else _)) = _
          rw [if_neg (by omega), if_pos (by omega), if_neg (by omega)]
        · refine ⟨r, Ev.step (fun k => ?_) ih⟩
          simp only [rafterref03_Right.l0]
          rw [if_pos (by omega), if_pos (by omega), if_pos (by omega), Int.toNat_natCast, hd]
          simp only [Option.bind_some]
          rw [hwr]
          by_cases h3 : (c : Int) = 65533
          · rw [if_pos h3, if_neg (by omega), if_neg (by omega)]
          · rw [if_neg h3]
            by_cases h4 : (c : Int) < 32
            · rw [if_pos h4, if_pos (by omega)]
            · rw [if_neg h4]
    · refine ⟨true, Ev.step (f := fun k => some true) (fun k => ?_) (Ev.now _)⟩
      simp only [rafterref03_Right.l0]
      rw [if_neg (by omega)]
theorem right3_ex (s : ByteArray) : ∃ r, Ev (fun k => rafterref03_Right.f k s) r := by
  unfold rafterref03_Right.f
  by_cases h : s.size ≤ 200
  · obtain ⟨r, hr⟩ := ref3_ex s h s.size 0 (by omega) (by omega)
    exact ⟨r, Ev.neg (by omega) hr⟩
  · exact ⟨false, Ev.pos (by omega) (Ev.now _)⟩
theorem check_loop (l : List ByteArray) (hl : l.length ≤ 2000) : ∀ (n i : Nat), l.length - i = n → i ≤ l.length → ∃ r, Ev (fun k => rafterref03_Check.l0 k l (i : Int)) r
  | 0, i, h, hi => ⟨0, Ev.step (f := fun k => some 0) (fun k => by simp only [rafterref03_Check.l0]; rw [if_neg (by omega)]) (Ev.now _)⟩
  | n + 1, i, h, hi => by
    obtain ⟨r, hr⟩ := check_loop l hl n (i + 1) (by omega) (by omega)
    obtain ⟨b, hb⟩ := right3_ex (rdOf ByteArray.empty l (i : Int))
    have hw : wrap64 ((i : Int) + 1) = ((i + 1 : Nat) : Int) := by rw [wrap64_in (by omega) (by omega)]; omega
    cases b with
    | true => exact ⟨r, Ev.step (f := fun k => (rafterref03_Right.f k (rdOf ByteArray.empty l (i : Int))).bind fun t112 => (if t112 = true then (rafterref03_Check.l0 k l ((i + 1 : Nat) : Int)) else (some 6))) (fun k => by simp only [rafterref03_Check.l0]; rw [if_pos (by omega), if_pos (by omega), hw]) (Ev.bind hb (Ev.pos rfl hr))⟩
    | false => exact ⟨6, Ev.step (f := fun k => (rafterref03_Right.f k (rdOf ByteArray.empty l (i : Int))).bind fun t112 => (if t112 = true then (rafterref03_Check.l0 k l ((i + 1 : Nat) : Int)) else (some 6))) (fun k => by simp only [rafterref03_Check.l0]; rw [if_pos (by omega), if_pos (by omega), hw]) (Ev.bind hb (Ev.neg (by decide) (Ev.now _)))⟩
theorem check_ex (l : List ByteArray) : ∃ k r, rafterref03_Check.f k l = some r := by
  unfold rafterref03_Check.f
  by_cases h : l.length ≤ 2000
  · obtain ⟨r, k, hr⟩ := check_loop l h l.length 0 (by omega) (by omega)
    exact ⟨k, r, by rw [if_neg (by omega)]; exact hr k (Nat.le_refl k)⟩
  · exact ⟨0, 4, by rw [if_pos (by omega)]⟩
theorem light_loop (l : List ByteArray) (hl : l.length ≤ 9223372036854775807) : ∀ (n i : Nat), l.length - i = n → i ≤ l.length → ∃ r, Ev (fun k => rafterlaw03_Light.l0 k l (i : Int)) r
  | 0, i, h, hi => ⟨_, Ev.step (f := fun k => some _) (fun k => by simp only [rafterlaw03_Light.l0]; rw [if_neg (by omega)]) (Ev.now _)⟩
  | n + 1, i, h, hi => by
    obtain ⟨r, hr⟩ := light_loop l hl n (i + 1) (by omega) (by omega)
    have hw : wrap64 ((i : Int) + 1) = ((i + 1 : Nat) : Int) := by rw [wrap64_in (by omega) (by omega)]; omega
    by_cases hq : ((rdOf ByteArray.empty l (i : Int)).size : Int) > 300
    · exact ⟨false, Ev.step (f := fun k => some false) (fun k => by simp only [rafterlaw03_Light.l0]; rw [if_pos (by omega), if_pos (by omega), if_pos hq]) (Ev.now _)⟩
    · exact ⟨r, Ev.step (fun k => by simp only [rafterlaw03_Light.l0]; rw [if_pos (by omega), if_pos (by omega), if_neg hq, hw]) hr⟩
theorem light_ex (l : List ByteArray) (hl : l.length ≤ 9223372036854775807) : ∃ k r, rafterlaw03_Light.f k l = some r := by
  obtain ⟨r, k, hr⟩ := light_loop l hl l.length 0 (by omega) (by omega)
  exact ⟨k, r, hr k (Nat.le_refl k)⟩
end Go.Proofs.YtmimejckcknjfaaDoor.Plain
