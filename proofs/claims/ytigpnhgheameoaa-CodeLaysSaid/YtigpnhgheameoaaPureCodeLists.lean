/- The list that any bytes begin with, as code.Reader reads it, is laid as these very bytes; where it reads none, the reference's readers tell the same error: for every string of bytes. -/
import Derived.Test.YtigpnhgheameoaaG6
import Derived.Test.YtigpnhgheameoaaCodeRef
set_option linter.unusedVariables false
namespace Go.Proofs.Ytigpnhgheameoaa.Pure
open Go.RowKit Go.Proofs.Ytigpnhgheameoaa.G Go.Proofs.Ytigpnhgheameoaa.Plain Go.Proofs.YtigpnhgheameoaaW.PrintWords Go.Proofs.YtigpnhgheameoaaW.PrintLast Go.Proofs.YtigpnhgheameoaaW.PrintMore

theorem awake01 : Ev (fun k => rafterlaw01_awake.f k) true := Ev.of (fun k => rafterlaw01_awake.mono k) (k := 20) (by kernel_rfl)

theorem texts_loop (s : ByteArray) (hs : s.size ≤ 1000) (out : List ByteArray) (hout : out = []) (e : Int) (he : e ≠ 0) (m0 m2 m3 : Int) (m1 : ByteArray) : ∀ (n i a : Nat), a ≤ s.size → dtexts n (s.toList.drop a) = .inl e → i + n < 18446744073709551616 →
    Ev (fun k => rafterlaw01_CodeLists.l0 k s out (a : Int) (i : Int) (B []) e ((i + n : Nat) : Int) m1 m2 m3) true
  | 0, i, a, ha, h, _ => by simp [dtexts] at h
  | n + 1, i, a, ha, h, hn => by
    have ht := ref_rdText s (by omega) a ha
    have hw : IntKind.u64.wrap ((i : Int) + 1) = ((i + 1 : Nat) : Int) := by rw [u64_in (by omega) (by omega)]; omega
    rw [dtexts] at h
    cases hd : dtext (s.toList.drop a) with
    | inl e2 =>
      rw [hd] at h ht
      injection h with h
      subst h
      replace ht : Ev (fun k => rafterref01_ReadText.f k s (a : Int)) (0, B [], 0, e2) := ht
      refine Ev.step (f := fun k => (rafterref01_ReadText.f k s (a : Int)).bind fun bt250 => _) (fun k => by simp only [rafterlaw01_CodeLists.l0]; rw [if_pos (by omega)]) ?_
      refine Ev.bind ht ?_
      dsimp only
      refine Ev.neg he (Ev.bind awake01 (Ev.congr (fun k => ?_) (Ev.now _)))
      subst hout
      simp [code_Reader_Err.f, code_Reader_Left.f]
    | inr p =>
      obtain ⟨x, t⟩ := p
      rw [hd] at h ht
      have hl := dtext_left hd
      rw [List.length_drop, toList_length] at hl
      have hdr : s.toList.drop (s.size - t.length) = t := by
        have h2 := dtext_enc hd
        have h3 : s.toList = s.toList.take a ++ (enc x.length ++ x ++ t) := by rw [← h2, List.take_append_drop]
        have h4 := congrArg List.length h3
        simp only [List.length_append, toList_length] at h4
        have h5 : s.size - t.length = (s.toList.take a ++ (enc x.length ++ x)).length := by simp only [List.length_append]; omega
        rw [h5]
        conv => lhs; arg 2; rw [h3, ← List.append_assoc]
        exact List.drop_left
      have h' : dtexts n (s.toList.drop (s.size - t.length)) = .inl e := by
        rw [hdr]
        dsimp only at h
        split at h
        · rename_i e2 h1
          injection h with h
          rw [h1, h]
        · cases h
      have ih := texts_loop s hs out hout e he ((i + 1 + n : Nat) : Int) m2 m3 m1 n (i + 1) (s.size - t.length) (by omega) h' (by omega)
      replace ht : Ev (fun k => rafterref01_ReadText.f k s (a : Int)) (0, B x, ((s.size - t.length : Nat) : Int), 0) := ht
      refine Ev.step (f := fun k => (rafterref01_ReadText.f k s (a : Int)).bind fun bt250 => _) (fun k => by simp only [rafterlaw01_CodeLists.l0]; rw [if_pos (by omega)]) ?_
      refine Ev.bind ht ?_
      dsimp only
      refine Ev.pos rfl ?_
      rw [hw, show i + (n + 1) = i + 1 + n by omega]
      exact ih

theorem CodeLists : rafterlaw01_CodeLists.Pure := by
  intro s _
  refine Ev.rounds (r := true) ?_
  unfold rafterlaw01_CodeLists.f
  by_cases h400 : (s.size : Int) > 400
  · exact Ev.pos h400 (Ev.bind awake01 (Ev.now _))
  refine Ev.neg h400 (Ev.congr (f := fun k => (code_Reader_List.f k s 0).bind _) (fun k => by rw [code_Read.f]; rfl) ?_)
  have hl := rdList s (by omega)
  cases hd : dlist s.toList with
  | inr p =>
    obtain ⟨xs, t⟩ := p
    rw [hd] at hl
    replace hl : Ev (fun k => code_Reader_List.f k s 0) (xs.map B, B t, 0) := hl
    refine Ev.bind hl ?_
    simp only [code_Reader_Err.f, code_Reader_Left.f, Option.bind_some]
    have he := dlist_enc hd
    have hlen := congrArg List.length he
    rw [List.length_append, toList_length] at hlen
    have hxs : (xs.map B).map ByteArray.toList = xs := by rw [List.map_map]; simp [Function.comp_def]
    have htot : ∀ ys : List (List UInt8), total (ys.map B) ≤ 10 * ((ys.map encT).flatten).length := by
      intro ys
      induction ys with
      | nil => simp [total]
      | cons y ys ih =>
        have := enc_pos y.length
        simp only [List.map_cons, total, List.flatten_cons, List.length_append, encT, size_B]
        omega
    have hfl : ((xs.map encT).flatten).length ≤ (encL xs).length := by rw [encL, List.length_append]; omega
    have hge := flat_ge xs
    have hw : wrap64 ((s.size : Int) - ((B t).size : Int)) = (((encL xs).length : Nat) : Int) := by
      rw [size_B, wrap64_in (by omega) (by omega)]
      omega
    have hL := ref_list (xs.map B) (by rw [List.length_map]; omega) (by have := htot xs; omega)
    rw [hxs] at hL
    refine Ev.pos (by first | rfl | trivial) (Ev.bind awake01 (Ev.pos (by first | rfl | trivial) (Ev.bind hL (Ev.congr (fun k => ?_) (Ev.now _)))))
    rw [hw, if_pos (by omega), if_pos (by omega), Int.toNat_natCast, extract_take, toList_B, toList_B, he, List.take_left]
    simp
  | inl e =>
    rw [hd] at hl
    have he := dlist_err hd
    replace hl : Ev (fun k => code_Reader_List.f k s 0) ([], B [], e) := hl
    refine Ev.bind hl ?_
    simp only [code_Reader_Err.f, Option.bind_some]
    refine Ev.neg (by omega) ?_
    have hn := ref_rdNum s (by omega) 0 (by omega)
    rw [List.drop_zero] at hn
    unfold dlist at hd
    cases hd2 : dnum 0 0 s.toList with
    | inl e2 =>
      rw [hd2] at hd hn
      injection hd with hd
      subst hd
      replace hn : Ev (fun k => rafterref01_ReadNum.f k s 0) (0, B [], 0, e2) := hn
      refine Ev.bind hn ?_
      dsimp only
      refine Ev.neg (by omega) ?_
      refine Ev.step (f := fun k => (rafterlaw01_awake.f k).bind fun t243 => _) (fun k => by simp only [rafterlaw01_CodeLists.j0]; rw [if_pos trivial]) ?_
      refine Ev.bind awake01 (Ev.congr (fun k => ?_) (Ev.now _))
      simp [code_Reader_Err.f]
    | inr p =>
      obtain ⟨n, t⟩ := p
      rw [hd2] at hd hn
      have hf := dnum_fits _ _ _ _ _ (by omega) (by simp) hd2
      have hlt := dnum_left _ _ _ _ _ hd2
      rw [toList_length] at hlt
      replace hn : Ev (fun k => rafterref01_ReadNum.f k s 0) ((n : Int), B [], ((s.size - t.length : Nat) : Int), 0) := hn
      refine Ev.bind hn ?_
      dsimp only
      refine Ev.pos rfl ?_
      have hw : IntKind.u64.wrap (wrap64 ((s.size : Int) - ((s.size - t.length : Nat) : Int))) = (t.length : Int) := by
        rw [wrap64_in (by omega) (by omega), u64_in (by omega) (by omega)]
        omega
      rw [hw]
      dsimp only at hd
      by_cases hnt : t.length < n
      · rw [if_pos hnt] at hd
        injection hd with hd
        subst hd
        rw [decide_eq_true (by omega)]
        refine Ev.step (f := fun k => (rafterlaw01_awake.f k).bind fun t243 => _) (fun k => by simp only [rafterlaw01_CodeLists.j0]; rw [if_pos trivial]) ?_
        refine Ev.bind awake01 (Ev.congr (fun k => ?_) (Ev.now _))
        simp [code_Reader_Err.f]
      · rw [if_neg hnt] at hd
        rw [decide_eq_false (by omega)]
        have hdr : s.toList.drop (s.size - t.length) = t := by
          obtain ⟨m, _, h2, _⟩ := dnum_enc _ _ _ _ _ hd2
          have h4 := congrArg List.length h2
          simp only [List.length_append, toList_length] at h4
          rw [show s.size - t.length = (enc m).length by omega, h2]
          exact List.drop_left
        rw [← hdr] at hd
        have := texts_loop s (by omega) [] rfl e (by omega) 0 ((s.size - t.length : Nat) : Int) 0 (B []) n 0 (s.size - t.length) (by omega) hd (by omega)
        rw [Nat.zero_add] at this
        refine Ev.step (fun k => ?_) this
        simp only [rafterlaw01_CodeLists.j0]
        rw [if_neg (by decide)]
        rfl

end Go.Proofs.Ytigpnhgheameoaa.Pure
