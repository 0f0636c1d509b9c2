-- Printed by a program of this session (wip/tools/own_print.sh), on the model of the kit's print; Lean checks it.
import Derived.Test.YtloibeefopdhpaaDoorCells
import Derived.Test.YtloibeefopdhpaaDoorG0
import Derived.Test.YtloibeefopdhpaaDoorG1
import Derived.Test.YtloibeefopdhpaaDoorG2
import Derived.Test.YtloibeefopdhpaaDoorG5
import Derived.Test.YtloibeefopdhpaaDoorG13
import Derived.Test.YtloibeefopdhpaaDoorG14
import Derived.Test.YtloibeefopdhpaaDoorTapeParseB
namespace Go.Proofs.YtloibeefopdhpaaDoor.G
open Go.RowKit Go.Proofs.YtloibeefopdhpaaDoorW.PrintWords Go.Proofs.YtloibeefopdhpaaDoorW.PrintLast Go.Proofs.YtloibeefopdhpaaDoorW.PrintMore
attribute [local go_sem] max2_int min2_int max_two min_two max_three min_three max_four min_four   -- for this text's walks alone
set_option linter.unusedVariables false
set_option linter.unusedSimpArgs false

-- BY HAND: rafter/tape.Parse

/-! ### rafterlaw40_awake: function 40 -/
def rafterlaw40_awake.f (k : Nat)  : Option (Bool) := (tape_Parse.f k (⟨#[35, 32, 97, 10, 114, 111, 111, 109, 32, 57, 10, 10, 99, 114, 97, 115, 104, 32, 51, 32, 102, 102, 48, 48, 10, 105, 110, 105, 116, 32, 97, 10, 112, 111, 119, 101, 114, 10]⟩ : ByteArray)).bind fun bt310 => ((tape_Text.f k bt310.1 bt310.2.1 bt310.2.2.1).bind fun bt319 => ((tape_Unmask.f k (⟨#[45]⟩ : ByteArray)).bind fun bt321 => (if bt310.2.2.2 = 0 then (if bt310.1 = 9 then (if (bt310.2.1.length : Int) = 1 then (if (bt310.2.2.1.length : Int) = 2 then (if bt319.2 = 0 then (if bt319.1.toList = ([114, 111, 111, 109, 32, 57, 10, 99, 114, 97, 115, 104, 32, 51, 32, 102, 102, 48, 48, 10, 105, 110, 105, 116, 32, 97, 10, 112, 111, 119, 101, 114, 10] : List UInt8) then (if (bt321.1.length : Int) = 0 then (if bt321.2 = 0 then ((tape_Mask.f k (([1] : List Int))).bind fun t328 => (if t328.toList = ([48, 49] : List UInt8) then ((tape_Same.f k bt310.1 bt310.2.1 bt310.2.2.1 bt310.1 bt310.2.1 bt310.2.2.1).bind fun t329 => (if t329 = true then ((tape_Plain.f k (⟨#[35, 10, 97]⟩ : ByteArray)).bind fun t330 => (some (t330.toList == ([97] : List UInt8)))) else (none))) else (none))) else (none)) else (none)) else (none)) else (none)) else (none)) else (none)) else (none)) else (none))))
theorem rafterlaw40_awake.mono : ∀ k, LeO (rafterlaw40_awake.f k ) (rafterlaw40_awake.f (k + 1) ) := by
  intro  k
  unfold rafterlaw40_awake.f
  repeat' first
      | (with_reducible exact tape_Mask.mono _ _)
      | (with_reducible exact tape_Parse.mono _ _)
      | (with_reducible exact tape_Plain.mono _ _)
      | (with_reducible exact tape_Same.mono _ _ _ _ _ _ _)
      | (with_reducible exact tape_Text.mono _ _ _ _)
      | (with_reducible exact tape_Unmask.mono _ _)
      | (with_reducible exact LeO.refl _)
      | (with_reducible exact LeO.none _)
      | (with_reducible refine LeO.ite ?_ ?_)
      | (with_reducible refine LeO.bind ?_ (fun _ => ?_))
      | exact tape_Mask.mono _ _
      | exact tape_Parse.mono _ _
      | exact tape_Plain.mono _ _
      | exact tape_Same.mono _ _ _ _ _ _ _
      | exact tape_Text.mono _ _ _ _
      | exact tape_Unmask.mono _ _
      | exact LeO.none _
      | refine LeO.ite ?_ ?_
      | refine LeO.bind ?_ (fun _ => ?_)
set_option maxHeartbeats 8000000 in
set_option maxRecDepth 100000 in
theorem rafterlaw40_awake.calls (k : Nat)  (r : Bool) (w : World) (h : rafterlaw40_awake.f k  = some r) :
    Calls Tryd.prog 40 #[] w fun e w' => e = .returned (.bool r) ∧ Below w.heap.size w w' := by
  have hu76 := Tryd.underlying76
  have HB := Aside0.mk (Below.refl w.heap.size w)
  have H : ((tape_Parse.f k (⟨#[35, 32, 97, 10, 114, 111, 111, 109, 32, 57, 10, 10, 99, 114, 97, 115, 104, 32, 51, 32, 102, 102, 48, 48, 10, 105, 110, 105, 116, 32, 97, 10, 112, 111, 119, 101, 114, 10]⟩ : ByteArray)).bind fun bt310 => ((tape_Text.f k bt310.1 bt310.2.1 bt310.2.2.1).bind fun bt319 => ((tape_Unmask.f k (⟨#[45]⟩ : ByteArray)).bind fun bt321 => (if bt310.2.2.2 = 0 then (if bt310.1 = 9 then (if (bt310.2.1.length : Int) = 1 then (if (bt310.2.2.1.length : Int) = 2 then (if bt319.2 = 0 then (if bt319.1.toList = ([114, 111, 111, 109, 32, 57, 10, 99, 114, 97, 115, 104, 32, 51, 32, 102, 102, 48, 48, 10, 105, 110, 105, 116, 32, 97, 10, 112, 111, 119, 101, 114, 10] : List UInt8) then (if (bt321.1.length : Int) = 0 then (if bt321.2 = 0 then ((tape_Mask.f k (([1] : List Int))).bind fun t328 => (if t328.toList = ([48, 49] : List UInt8) then ((tape_Same.f k bt310.1 bt310.2.1 bt310.2.2.1 bt310.1 bt310.2.1 bt310.2.2.1).bind fun t329 => (if t329 = true then ((tape_Plain.f k (⟨#[35, 10, 97]⟩ : ByteArray)).bind fun t330 => (some (t330.toList == ([97] : List UInt8)))) else (none))) else (none))) else (none)) else (none)) else (none)) else (none)) else (none)) else (none)) else (none)) else (none))))) = some r := h
  clear h
  replace H := Option.bind_eq_some_iff.mp H
  obtain ⟨⟨t310, t311, t314, t317⟩, A10, H⟩ := H
  replace H : ((tape_Text.f k t310 t311 t314).bind fun bt319 => ((tape_Unmask.f k (⟨#[45]⟩ : ByteArray)).bind fun bt321 => (if t317 = 0 then (if t310 = 9 then (if (t311.length : Int) = 1 then (if (t314.length : Int) = 2 then (if bt319.2 = 0 then (if bt319.1.toList = ([114, 111, 111, 109, 32, 57, 10, 99, 114, 97, 115, 104, 32, 51, 32, 102, 102, 48, 48, 10, 105, 110, 105, 116, 32, 97, 10, 112, 111, 119, 101, 114, 10] : List UInt8) then (if (bt321.1.length : Int) = 0 then (if bt321.2 = 0 then ((tape_Mask.f k (([1] : List Int))).bind fun t328 => (if t328.toList = ([48, 49] : List UInt8) then ((tape_Same.f k t310 t311 t314 t310 t311 t314).bind fun t329 => (if t329 = true then ((tape_Plain.f k (⟨#[35, 10, 97]⟩ : ByteArray)).bind fun t330 => (some (t330.toList == ([97] : List UInt8)))) else (none))) else (none))) else (none)) else (none)) else (none)) else (none)) else (none)) else (none)) else (none)) else (none)))) = some r := H
  have A1 := Aside0.mk A10
  clear A10
  replace H := Option.bind_eq_some_iff.mp H
  obtain ⟨⟨t319, t320⟩, A20, H⟩ := H
  replace H : ((tape_Unmask.f k (⟨#[45]⟩ : ByteArray)).bind fun bt321 => (if t317 = 0 then (if t310 = 9 then (if (t311.length : Int) = 1 then (if (t314.length : Int) = 2 then (if t320 = 0 then (if t319.toList = ([114, 111, 111, 109, 32, 57, 10, 99, 114, 97, 115, 104, 32, 51, 32, 102, 102, 48, 48, 10, 105, 110, 105, 116, 32, 97, 10, 112, 111, 119, 101, 114, 10] : List UInt8) then (if (bt321.1.length : Int) = 0 then (if bt321.2 = 0 then ((tape_Mask.f k (([1] : List Int))).bind fun t328 => (if t328.toList = ([48, 49] : List UInt8) then ((tape_Same.f k t310 t311 t314 t310 t311 t314).bind fun t329 => (if t329 = true then ((tape_Plain.f k (⟨#[35, 10, 97]⟩ : ByteArray)).bind fun t330 => (some (t330.toList == ([97] : List UInt8)))) else (none))) else (none))) else (none)) else (none)) else (none)) else (none)) else (none)) else (none)) else (none)) else (none))) = some r := H
  have A2 := Aside0.mk A20
  clear A20
  replace H := Option.bind_eq_some_iff.mp H
  obtain ⟨⟨t321, t322⟩, A30, H⟩ := H
  replace H : (if t317 = 0 then (if t310 = 9 then (if (t311.length : Int) = 1 then (if (t314.length : Int) = 2 then (if t320 = 0 then (if t319.toList = ([114, 111, 111, 109, 32, 57, 10, 99, 114, 97, 115, 104, 32, 51, 32, 102, 102, 48, 48, 10, 105, 110, 105, 116, 32, 97, 10, 112, 111, 119, 101, 114, 10] : List UInt8) then (if (t321.length : Int) = 0 then (if t322 = 0 then ((tape_Mask.f k (([1] : List Int))).bind fun t328 => (if t328.toList = ([48, 49] : List UInt8) then ((tape_Same.f k t310 t311 t314 t310 t311 t314).bind fun t329 => (if t329 = true then ((tape_Plain.f k (⟨#[35, 10, 97]⟩ : ByteArray)).bind fun t330 => (some (t330.toList == ([97] : List UInt8)))) else (none))) else (none))) else (none)) else (none)) else (none)) else (none)) else (none)) else (none)) else (none)) else (none)) = some r := H
  have A3 := Aside0.mk A30
  clear A30
  by_cases c4 : t317 = 0
  · rw [if_pos c4] at H
    have c4b0 : (t317 == 0) = true := beq_iff_eq.mpr c4
    have c4b1 : (t317 != 0) = false := bne_eq_false_iff_eq.mpr c4
    clear c4
    by_cases c5 : t310 = 9
    · rw [if_pos c5] at H
      have c5b0 : (t310 == 9) = true := beq_iff_eq.mpr c5
      have c5b1 : (t310 != 9) = false := bne_eq_false_iff_eq.mpr c5
      clear c5
      by_cases c6 : (t311.length : Int) = 1
      · rw [if_pos c6] at H
        have c6b0 : ((t311.length : Int) == 1) = true := beq_iff_eq.mpr c6
        have c6b1 : ((t311.length : Int) != 1) = false := bne_eq_false_iff_eq.mpr c6
        clear c6
        by_cases c7 : (t314.length : Int) = 2
        · rw [if_pos c7] at H
          have c7b0 : ((t314.length : Int) == 2) = true := beq_iff_eq.mpr c7
          have c7b1 : ((t314.length : Int) != 2) = false := bne_eq_false_iff_eq.mpr c7
          clear c7
          by_cases c8 : t320 = 0
          · rw [if_pos c8] at H
            have c8b0 : (t320 == 0) = true := beq_iff_eq.mpr c8
            have c8b1 : (t320 != 0) = false := bne_eq_false_iff_eq.mpr c8
            clear c8
            by_cases c9 : t319.toList = ([114, 111, 111, 109, 32, 57, 10, 99, 114, 97, 115, 104, 32, 51, 32, 102, 102, 48, 48, 10, 105, 110, 105, 116, 32, 97, 10, 112, 111, 119, 101, 114, 10] : List UInt8)
            · rw [if_pos c9] at H
              have c9b0 : (t319.toList == ([114, 111, 111, 109, 32, 57, 10, 99, 114, 97, 115, 104, 32, 51, 32, 102, 102, 48, 48, 10, 105, 110, 105, 116, 32, 97, 10, 112, 111, 119, 101, 114, 10] : List UInt8)) = true := beq_iff_eq.mpr c9
              have c9b1 : (t319.toList != ([114, 111, 111, 109, 32, 57, 10, 99, 114, 97, 115, 104, 32, 51, 32, 102, 102, 48, 48, 10, 105, 110, 105, 116, 32, 97, 10, 112, 111, 119, 101, 114, 10] : List UInt8)) = false := bne_eq_false_iff_eq.mpr c9
              clear c9
              by_cases c10 : (t321.length : Int) = 0
              · rw [if_pos c10] at H
                have c10b0 : ((t321.length : Int) == 0) = true := beq_iff_eq.mpr c10
                have c10b1 : ((t321.length : Int) != 0) = false := bne_eq_false_iff_eq.mpr c10
                clear c10
                by_cases c11 : t322 = 0
                · rw [if_pos c11] at H
                  have c11b0 : (t322 == 0) = true := beq_iff_eq.mpr c11
                  have c11b1 : (t322 != 0) = false := bne_eq_false_iff_eq.mpr c11
                  clear c11
                  obtain ⟨y325, hy325⟩ : ∃ y_ : List Int, y_ = (([1] : List Int)) := ⟨_, rfl⟩
                  replace H : ((tape_Mask.f k y325).bind fun t328 => (if t328.toList = ([48, 49] : List UInt8) then ((tape_Same.f k t310 t311 t314 t310 t311 t314).bind fun t329 => (if t329 = true then ((tape_Plain.f k (⟨#[35, 10, 97]⟩ : ByteArray)).bind fun t330 => (some (t330.toList == ([97] : List UInt8)))) else (none))) else (none))) = some r := by first | (rw [hy325]; with_reducible exact H) | (have H2_ := (Option.bind_some _ _).symm.trans H; rw [hy325]; with_reducible exact H2_) | (have H2_ := (Option.bind_some _ _).symm.trans H; with_reducible exact H2_) | with_reducible exact H | (rw [hy325]; exact H) | exact H
                  have Ny325 := Aside0.mk hy325
                  clear hy325
                  replace H := Option.bind_eq_some_iff.mp H
                  obtain ⟨t328, A120, H⟩ := H
                  replace H : (if t328.toList = ([48, 49] : List UInt8) then ((tape_Same.f k t310 t311 t314 t310 t311 t314).bind fun t329 => (if t329 = true then ((tape_Plain.f k (⟨#[35, 10, 97]⟩ : ByteArray)).bind fun t330 => (some (t330.toList == ([97] : List UInt8)))) else (none))) else (none)) = some r := H
                  have A12 := Aside0.mk A120
                  clear A120
                  by_cases c13 : t328.toList = ([48, 49] : List UInt8)
                  · rw [if_pos c13] at H
                    have c13b0 : (t328.toList == ([48, 49] : List UInt8)) = true := beq_iff_eq.mpr c13
                    have c13b1 : (t328.toList != ([48, 49] : List UInt8)) = false := bne_eq_false_iff_eq.mpr c13
                    clear c13
                    replace H := Option.bind_eq_some_iff.mp H
                    obtain ⟨t329, A140, H⟩ := H
                    replace H : (if t329 = true then ((tape_Plain.f k (⟨#[35, 10, 97]⟩ : ByteArray)).bind fun t330 => (some (t330.toList == ([97] : List UInt8)))) else (none)) = some r := H
                    have A14 := Aside0.mk A140
                    clear A140
                    by_cases c15 : t329 = true
                    · subst c15
                      have H1 : ((tape_Plain.f k (⟨#[35, 10, 97]⟩ : ByteArray)).bind fun t330 => (some (t330.toList == ([97] : List UInt8)))) = some r := by rw [if_pos rfl] at H; exact H
                      clear H
                      have H := H1
                      clear H1
                      replace H := Option.bind_eq_some_iff.mp H
                      obtain ⟨t330, A160, H⟩ := H
                      replace H : (some (t330.toList == ([97] : List UInt8))) = some r := H
                      have A16 := Aside0.mk A160
                      clear A160
                      obtain rfl := Option.some.inj H
                      go_enter Tryd.func40, Tryd.ntmps40
                      go_wp2_with (first | ((with_reducible refine gate_callee (f := 51) rfl ?_); refine goesL_ (some 8) rfl rfl Tryd.func51 (by kernel_rfl) rfl #[.string (⟨#[35, 32, 97, 10, 114, 111, 111, 109, 32, 57, 10, 10, 99, 114, 97, 115, 104, 32, 51, 32, 102, 102, 48, 48, 10, 105, 110, 105, 116, 32, 97, 10, 112, 111, 119, 101, 114, 10]⟩ : ByteArray)] rfl (by (try simp only [List.map_toArray, List.map_cons, List.map_nil]); first | done | rfl | (simp only [List.length_drop, List.length_take]; rfl) | ((repeat rw [IntWalk.u64_in]) <;> first | rfl | omega)) ?_; (with_reducible refine (tape_Parse.calls k (⟨#[35, 32, 97, 10, 114, 111, 111, 109, 32, 57, 10, 10, 99, 114, 97, 115, 104, 32, 51, 32, 102, 102, 48, 48, 10, 105, 110, 105, 116, 32, 97, 10, 112, 111, 119, 101, 114, 10]⟩ : ByteArray) t310 t311 t314 t317 _ A1.out).mono ?_); rintro e w17 ⟨v312, v315, rfl, ho0, ho1, hb⟩; refine ⟨_, rfl, ?_⟩; have n0_ := Aside0.mk (Kd.S_lower ho0 (below_size (by repeat (first | (with_reducible first | exact HB.out | apply below_alloc | apply pw_below_drewN | apply below_drew1) | exact HB.out)))); have n1_ := Aside0.mk (Kd.S_lower ho1 (below_size (by repeat (first | (with_reducible first | exact HB.out | apply below_alloc | apply pw_below_drewN | apply below_drew1) | exact HB.out)))); have n2_ := Aside0.mk (below_step (by repeat (first | (with_reducible first | exact HB.out | apply below_alloc | apply pw_below_drewN | apply below_drew1) | exact HB.out)) hb); clear HB; have HO313 := n0_; have HO316 := n1_; have HB := n2_; clear n0_ n1_ n2_; (try clear hb); (try clear hb2); (try clear hk); (try clear hi); (try clear ho0); (try clear ho1)) | ((with_reducible refine gate_dst (N := 1) rfl ?_); (try (refine gate_guard (by rfl) ?_; dsimp only)); refine box_event ?hg (N := 1) ?hd (cs := #[.int .i64 0, .slice none 0 0, .slice none 0 0]) (t := 76) ?hr ?_; (case hd => rfl); (case hg => rfl); (case hr => first | (go_simp; done) | (go_simp; rfl)); intro gb318 hg w18 hbox hb; have n0_ := Aside0.mk (Kd.S_below (by (with_reducible repeat (first | apply Kd.S_alloc | apply Kd.S_drewN | apply Kd.S_drew)); exact HO313.out) hb); have n1_ := Aside0.mk (Kd.S_below (by (with_reducible repeat (first | apply Kd.S_alloc | apply Kd.S_drewN | apply Kd.S_drew)); exact HO316.out) hb); have n2_ := Aside0.mk (below_step (by repeat (first | (with_reducible first | exact HB.out | apply below_alloc | apply pw_below_drewN | apply below_drew1) | exact HB.out)) hb); have n3_ := Aside0.mk (hbox); have n4_ := Aside0.mk ((by rw [hg]; exact (below_size (by repeat (first | (with_reducible first | exact HB.out | apply below_alloc | apply pw_below_drewN | apply below_drew1) | exact HB.out))) : w.heap.size ≤ gb318)); have n5_ := Aside0.mk ((by rw [hg]; exact (below_size (by repeat (first | (with_reducible first | exact HB.out | apply below_alloc | apply pw_below_drewN | apply below_drew1) | exact HB.out))) : w.heap.size ≤ gb318)); clear HO313; clear HO316; clear HB; have HO313 := n0_; have HO316 := n1_; have HB := n2_; have BK318 := n3_; have GW318 := n4_; have GE318 := n5_; clear n0_ n1_ n2_ n3_ n4_ n5_; clear hb hbox hg; obtain ⟨hcz19_0, hcz19_1, hcz19_2, hfz19_0, hfz19_1, hfz19_2⟩ := cells3 BK318.out; obtain ⟨Ao20, co20, eo20⟩ := Kd.S_slice HO313.out; subst eo20; obtain ⟨Ao21, co21, eo21⟩ := Kd.S_slice HO316.out; subst eo21) | ((with_reducible refine gate_callee (f := 47) rfl ?_); refine goesL_ (some 13) rfl rfl Tryd.func47 (by kernel_rfl) rfl #[.agg #[.int .i64 t310, .slice Ao20 t311.length co20, .slice Ao21 t314.length co21]] rfl (by (try simp only [List.map_toArray, List.map_cons, List.map_nil]); first | done | rfl | (simp only [List.length_drop, List.length_take]; rfl) | ((repeat rw [IntWalk.u64_in]) <;> first | rfl | omega)) ?_; (with_reducible refine (tape_Text.calls k t310 _ _ t311 _ _ t314 t319 t320 _ ?side1 ?side2 ?side3 ?side4 A2.out).mono ?_); (case side1 => refine (Kd.S_reads' (e := 134) (base := w.heap.size) (ok := fun k_ => True) (n := t311.length) (c := co20) ?_).2.2; exact (by (with_reducible repeat (first | apply Kd.S_alloc | apply Kd.S_drewN | apply Kd.S_drew)); exact (Kd.S_mono (Kd.S_far (p := ⟨gb318, 2, none⟩) (Kd.S_far (p := ⟨gb318, 1, none⟩) (Kd.S_far (p := ⟨gb318, 0, none⟩) (Kd.S_types HO313.out BK318.out (by decide)) (fun _ hk => hk.2) (.int .i64 t310)) (fun _ hk => hk.2) (.slice Ao20 t311.length co20)) (fun _ hk => hk.2) (.slice Ao21 t314.length co21)) (fun _ h_ => h_.1)))); (case side2 => exact (Kd.S_reads' HO313.out).2.1); (case side3 => refine (Kd.S_reads' (e := 34) (base := w.heap.size) (ok := fun k_ => True) (n := t314.length) (c := co21) ?_).2.2; exact (by (with_reducible repeat (first | apply Kd.S_alloc | apply Kd.S_drewN | apply Kd.S_drew)); exact (Kd.S_mono (Kd.S_far (p := ⟨gb318, 2, none⟩) (Kd.S_far (p := ⟨gb318, 1, none⟩) (Kd.S_far (p := ⟨gb318, 0, none⟩) (Kd.S_types HO316.out BK318.out (by decide)) (fun _ hk => hk.2) (.int .i64 t310)) (fun _ hk => hk.2) (.slice Ao20 t311.length co20)) (fun _ hk => hk.2) (.slice Ao21 t314.length co21)) (fun _ h_ => h_.1)))); (case side4 => exact (Kd.S_reads' HO316.out).2.1); rintro e w22 ⟨rfl, hb⟩; refine ⟨_, rfl, ?_⟩; have n0_ := Aside0.mk (Kd.S_below (by (with_reducible repeat (first | apply Kd.S_alloc | apply Kd.S_drewN | apply Kd.S_drew)); exact (Kd.S_mono (Kd.S_far (p := ⟨gb318, 2, none⟩) (Kd.S_far (p := ⟨gb318, 1, none⟩) (Kd.S_far (p := ⟨gb318, 0, none⟩) (Kd.S_types HO313.out BK318.out (by decide)) (fun _ hk => hk.2) (.int .i64 t310)) (fun _ hk => hk.2) (.slice Ao20 t311.length co20)) (fun _ hk => hk.2) (.slice Ao21 t314.length co21)) (fun _ h_ => h_.1))) hb); have n1_ := Aside0.mk (Kd.S_below (by (with_reducible repeat (first | apply Kd.S_alloc | apply Kd.S_drewN | apply Kd.S_drew)); exact (Kd.S_mono (Kd.S_far (p := ⟨gb318, 2, none⟩) (Kd.S_far (p := ⟨gb318, 1, none⟩) (Kd.S_far (p := ⟨gb318, 0, none⟩) (Kd.S_types HO316.out BK318.out (by decide)) (fun _ hk => hk.2) (.int .i64 t310)) (fun _ hk => hk.2) (.slice Ao20 t311.length co20)) (fun _ hk => hk.2) (.slice Ao21 t314.length co21)) (fun _ h_ => h_.1))) hb); have n2_ := Aside0.mk (blk_below (g := gb318) (o := .cells #[.int .i64 t310, .slice Ao20 t311.length co20, .slice Ao21 t314.length co21] 76 (0, 0)) (by (with_reducible repeat (first | refine blk_drewN ?_ _ | refine blk_drew ?_ | refine blk_alloc ?_ _)); refine blk_put (cs := #[.int .i64 t310, .slice Ao20 t311.length co20, .slice none 0 0]) ?_ 2 _ rfl; (with_reducible repeat (first | refine blk_drewN ?_ _ | refine blk_drew ?_ | refine blk_alloc ?_ _)); refine blk_put (cs := #[.int .i64 t310, .slice none 0 0, .slice none 0 0]) ?_ 1 _ rfl; (with_reducible repeat (first | refine blk_drewN ?_ _ | refine blk_drew ?_ | refine blk_alloc ?_ _)); refine blk_put (cs := #[.int .i64 0, .slice none 0 0, .slice none 0 0]) ?_ 0 _ rfl; (with_reducible repeat (first | refine blk_drewN ?_ _ | refine blk_drew ?_ | refine blk_alloc ?_ _)); exact BK318.out) hb); have n3_ := Aside0.mk (below_step (by repeat (first | (with_reducible first | exact HB.out | apply below_alloc | apply pw_below_drewN | apply below_drew1 | refine below_set ?_ GE318.out) | exact HB.out)) hb); clear HO313; clear HO316; clear BK318; clear HB; have HO313 := n0_; have HO316 := n1_; have BK318 := n2_; have HB := n3_; clear n0_ n1_ n2_ n3_; (try clear hb); (try clear hb2); (try clear hk); (try clear hi)) | ((with_reducible refine gate_callee (f := 42) rfl ?_); refine goesL_ (some 17) rfl rfl Tryd.func42 (by kernel_rfl) rfl #[.string (⟨#[45]⟩ : ByteArray)] rfl (by (try simp only [List.map_toArray, List.map_cons, List.map_nil]); first | done | rfl | (simp only [List.length_drop, List.length_take]; rfl) | ((repeat rw [IntWalk.u64_in]) <;> first | rfl | omega)) ?_; (with_reducible refine (tape_Unmask.calls k (⟨#[45]⟩ : ByteArray) t321 t322 _ A3.out).mono ?_); rintro e w23 ⟨v323, rfl, ho0, hb⟩; refine ⟨_, rfl, ?_⟩; have n0_ := Aside0.mk (Kd.S_elder' (by (with_reducible repeat (first | apply Kd.S_alloc | apply Kd.S_drewN | apply Kd.S_drew)); exact HO313.out) (Kd.R_base ho0) hb); have n1_ := Aside0.mk (Kd.S_below (by (with_reducible repeat (first | apply Kd.S_alloc | apply Kd.S_drewN | apply Kd.S_drew)); exact HO316.out) hb); have n2_ := Aside0.mk (Kd.R_lower ho0 (below_size (by repeat (first | (with_reducible first | exact HB.out | apply below_alloc | apply pw_below_drewN | apply below_drew1 | refine below_set ?_ GE318.out) | exact HB.out)))); have n3_ := Aside0.mk (blk_below (g := gb318) (o := .cells #[.int .i64 t310, .slice Ao20 t311.length co20, .slice Ao21 t314.length co21] 76 (0, 0)) (by (with_reducible repeat (first | refine blk_drewN ?_ _ | refine blk_drew ?_ | refine blk_alloc ?_ _)); exact BK318.out) hb); have n4_ := Aside0.mk (below_step (by repeat (first | (with_reducible first | exact HB.out | apply below_alloc | apply pw_below_drewN | apply below_drew1 | refine below_set ?_ GE318.out) | exact HB.out)) hb); clear HO313; clear HO316; clear BK318; clear HB; have HO313 := n0_; have HO316 := n1_; have HO324 := n2_; have BK318 := n3_; have HB := n4_; clear n0_ n1_ n2_ n3_ n4_; (try clear hb); (try clear hb2); (try clear hk); (try clear hi); (try clear ho0); obtain ⟨hcz24_0, hcz24_1, hcz24_2, hfz24_0, hfz24_1, hfz24_2⟩ := cells3 BK318.out; obtain ⟨Ao25, co25, eo25⟩ := Kd.R_slice HO324.out; subst eo25) | ((with_reducible refine gate_dst (N := 57) rfl ?_); (try (refine gate_guard (by rfl) ?_; dsimp only)); refine Kd.R_lit (Kd.int .u8) _ 5 ?hg (N := 57) ?hd (xs := ([1] : List Int)) (inner := [.int .u8 1]) (ok := fun _ => True) (okp := fun _ => True) ?hr ?hp (fun _ hk => hk) trivial (Below.refl _ _) (Nat.le_refl _) (by simp) ?_; (case hd => rfl); (case hg => rfl); (case hr => first | (go_simp; done) | (go_simp; rfl)); (case hp => exact (Reps.one (show Kd.M (Kd.int .u8) _ _ _ 1 [.int .u8 1] from rfl) (Reps.none _ _))); intro v326 w26 ho27 hb hg_ hnew_; clear hg_ hnew_; (first | rw [← Ny325.out] at ho27 | (simp only [Int.reduceToNat] at ho27; rw [← Ny325.out] at ho27)); have n0_ := Aside0.mk (Kd.S_elder' (by (with_reducible repeat (first | apply Kd.S_alloc | apply Kd.S_drewN | apply Kd.S_drew)); exact HO313.out) (Kd.R_base ho27) hb); have n1_ := Aside0.mk (Kd.S_below (by (with_reducible repeat (first | apply Kd.S_alloc | apply Kd.S_drewN | apply Kd.S_drew)); exact HO316.out) hb); have n2_ := Aside0.mk (Kd.R_elder' (by (with_reducible repeat (first | apply Kd.R_alloc | apply Kd.R_drewN | apply Kd.R_drew)); exact HO324.out) (Kd.R_base ho27) hb); have n3_ := Aside0.mk (Kd.R_lower (Kd.R_new' ho27 (Kd.R_lt (by (with_reducible repeat (first | apply Kd.R_alloc | apply Kd.R_drewN | apply Kd.R_drew)); exact HO324.out))) (below_size (by repeat (first | (with_reducible first | exact HB.out | apply below_alloc | apply pw_below_drewN | apply below_drew1 | refine below_set ?_ GE318.out) | exact HB.out)))); have n4_ := Aside0.mk (blk_below (g := gb318) (o := .cells #[.int .i64 t310, .slice Ao20 t311.length co20, .slice Ao21 t314.length co21] 76 (0, 0)) (by (with_reducible repeat (first | refine blk_drewN ?_ _ | refine blk_drew ?_ | refine blk_alloc ?_ _)); exact BK318.out) hb); have n5_ := Aside0.mk (below_step (by repeat (first | (with_reducible first | exact HB.out | apply below_alloc | apply pw_below_drewN | apply below_drew1 | refine below_set ?_ GE318.out) | exact HB.out)) hb); clear HO313; clear HO316; clear HO324; clear BK318; clear HB; have HO313 := n0_; have HO316 := n1_; have HO324 := n2_; have HO327 := n3_; have BK318 := n4_; have HB := n5_; clear n0_ n1_ n2_ n3_ n4_ n5_; clear hb ho27; obtain ⟨Ao28, co28, eo28⟩ := Kd.R_slice HO327.out; subst eo28) | (go_at_call 41; (with_reducible refine (tape_Mask.calls k _ _ y325 t328 _ ?side1 ?side2 A12.out).mono ?_); (case side1 => repeat (first | exact (Kd.R_reads' HO327.out).2.2 | (with_reducible refine Kd.C_alloc ?_ _) | (with_reducible refine Kd.C_drewN ?_ _) | (with_reducible refine Kd.C_drew ?_))); (case side2 => exact (Kd.R_reads' HO327.out).2.1); rintro e w' ⟨rfl, ⟨nd, rfl⟩⟩; obtain ⟨hcz29_0, hcz29_1, hcz29_2, hfz29_0, hfz29_1, hfz29_2⟩ := cells3 BK318.out) | (go_at_call 49; (with_reducible refine (tape_Same.calls k t310 _ _ t311 _ _ t314 t310 _ _ t311 _ _ t314 true _ ?side1 ?side2 ?side3 ?side4 ?side5 ?side6 ?side7 ?side8 A14.out).mono ?_); (case side1 => repeat (first | exact (Kd.S_reads' HO313.out).2.2 | (with_reducible refine Kd.C_alloc ?_ _) | (with_reducible refine Kd.C_drewN ?_ _) | (with_reducible refine Kd.C_drew ?_))); (case side2 => exact (Kd.S_reads' HO313.out).2.1); (case side3 => repeat (first | exact (Kd.S_reads' HO316.out).2.2 | (with_reducible refine Kd.C_alloc ?_ _) | (with_reducible refine Kd.C_drewN ?_ _) | (with_reducible refine Kd.C_drew ?_))); (case side4 => exact (Kd.S_reads' HO316.out).2.1); (case side5 => repeat (first | exact (Kd.S_reads' HO313.out).2.2 | (with_reducible refine Kd.C_alloc ?_ _) | (with_reducible refine Kd.C_drewN ?_ _) | (with_reducible refine Kd.C_drew ?_))); (case side6 => exact (Kd.S_reads' HO313.out).2.1); (case side7 => repeat (first | exact (Kd.S_reads' HO316.out).2.2 | (with_reducible refine Kd.C_alloc ?_ _) | (with_reducible refine Kd.C_drewN ?_ _) | (with_reducible refine Kd.C_drew ?_))); (case side8 => exact (Kd.S_reads' HO316.out).2.1); rintro e w30 ⟨rfl, hb⟩; have n0_ := Aside0.mk (Kd.S_below (by (with_reducible repeat (first | apply Kd.S_alloc | apply Kd.S_drewN | apply Kd.S_drew)); exact HO313.out) hb); have n1_ := Aside0.mk (Kd.S_below (by (with_reducible repeat (first | apply Kd.S_alloc | apply Kd.S_drewN | apply Kd.S_drew)); exact HO316.out) hb); have n2_ := Aside0.mk (Kd.R_below (by (with_reducible repeat (first | apply Kd.R_alloc | apply Kd.R_drewN | apply Kd.R_drew)); exact HO324.out) hb); have n3_ := Aside0.mk (Kd.R_below (by (with_reducible repeat (first | apply Kd.R_alloc | apply Kd.R_drewN | apply Kd.R_drew)); exact HO327.out) hb); have n4_ := Aside0.mk (blk_below (g := gb318) (o := .cells #[.int .i64 t310, .slice Ao20 t311.length co20, .slice Ao21 t314.length co21] 76 (0, 0)) (by (with_reducible repeat (first | refine blk_drewN ?_ _ | refine blk_drew ?_ | refine blk_alloc ?_ _)); exact BK318.out) hb); have n5_ := Aside0.mk (below_step (by repeat (first | (with_reducible first | exact HB.out | apply below_alloc | apply pw_below_drewN | apply below_drew1 | refine below_set ?_ GE318.out) | exact HB.out)) hb); clear HO313; clear HO316; clear HO324; clear HO327; clear BK318; clear HB; have HO313 := n0_; have HO316 := n1_; have HO324 := n2_; have HO327 := n3_; have BK318 := n4_; have HB := n5_; clear n0_ n1_ n2_ n3_ n4_ n5_; (try clear hb); (try clear hb2); (try clear hk); (try clear hi)) | (go_at_call 44; (with_reducible refine (tape_Plain.calls k (⟨#[35, 10, 97]⟩ : ByteArray) t330 _ A16.out).mono ?_); rintro e w31 ⟨rfl, hb⟩; have n0_ := Aside0.mk (Kd.S_below (by (with_reducible repeat (first | apply Kd.S_alloc | apply Kd.S_drewN | apply Kd.S_drew)); exact HO313.out) hb); have n1_ := Aside0.mk (Kd.S_below (by (with_reducible repeat (first | apply Kd.S_alloc | apply Kd.S_drewN | apply Kd.S_drew)); exact HO316.out) hb); have n2_ := Aside0.mk (Kd.R_below (by (with_reducible repeat (first | apply Kd.R_alloc | apply Kd.R_drewN | apply Kd.R_drew)); exact HO324.out) hb); have n3_ := Aside0.mk (Kd.R_below (by (with_reducible repeat (first | apply Kd.R_alloc | apply Kd.R_drewN | apply Kd.R_drew)); exact HO327.out) hb); have n4_ := Aside0.mk (blk_below (g := gb318) (o := .cells #[.int .i64 t310, .slice Ao20 t311.length co20, .slice Ao21 t314.length co21] 76 (0, 0)) (by (with_reducible repeat (first | refine blk_drewN ?_ _ | refine blk_drew ?_ | refine blk_alloc ?_ _)); exact BK318.out) hb); have n5_ := Aside0.mk (below_step (by repeat (first | (with_reducible first | exact HB.out | apply below_alloc | apply pw_below_drewN | apply below_drew1 | refine below_set ?_ GE318.out) | exact HB.out)) hb); clear HO313; clear HO316; clear HO324; clear HO327; clear BK318; clear HB; have HO313 := n0_; have HO316 := n1_; have HO324 := n2_; have HO327 := n3_; have BK318 := n4_; have HB := n5_; clear n0_ n1_ n2_ n3_ n4_ n5_; (try clear hb); (try clear hb2); (try clear hk); (try clear hi)))
                      go_ret
                      exact ⟨by first | rfl | (simp [errW_none, errW_some] <;> rfl) | (simp [*, errW_none, errW_some] <;> rfl), by repeat (first | (with_reducible first | exact HB.out | apply below_alloc | apply pw_below_drewN | apply below_drew1 | refine below_set ?_ GE318.out) | exact HB.out)⟩
                    · replace c15 := Bool.eq_false_iff.mpr c15
                      subst c15
                      have H1 : (none) = some r := by rw [if_neg (show ¬ (false = true) by decide)] at H; exact H
                      clear H
                      have H := H1
                      clear H1
                      exact absurd H (by simp)
                  · rw [if_neg c13] at H
                    exact absurd H (by simp)
                · rw [if_neg c11] at H
                  exact absurd H (by simp)
              · rw [if_neg c10] at H
                exact absurd H (by simp)
            · rw [if_neg c9] at H
              exact absurd H (by simp)
          · rw [if_neg c8] at H
            exact absurd H (by simp)
        · rw [if_neg c7] at H
          exact absurd H (by simp)
      · rw [if_neg c6] at H
        exact absurd H (by simp)
    · rw [if_neg c5] at H
      exact absurd H (by simp)
  · rw [if_neg c4] at H
    exact absurd H (by simp)

end Go.Proofs.YtloibeefopdhpaaDoor.G
