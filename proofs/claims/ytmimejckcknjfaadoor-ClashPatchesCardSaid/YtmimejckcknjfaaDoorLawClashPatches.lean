/- why any two patches clash, and by which operations -/
import Derived.Test.YtmimejckcknjfaaDoorRows
import Derived.Test.YtmimejckcknjfaaDoorCards
import Derived.Test.YtmimejckcknjfaaDoorTie
import Derived.Test.YtmimejckcknjfaaDoorPureClashPatches
import Derived.Test.YtmimejckcknjfaaDoorRow
import Derived.WalkKit
import Derived.ProofKit
import Derived.OpenShut
import Derived.ShutString
import Derived.ChangeOld
import Derived.Below
import Derived.SizedLaws
import Derived.Deep.DeepHandedRow
import Derived.Lib.LaidTab
import Derived.Lib.LaidU8T
import Derived.PinnedBridge
namespace Go.Proofs.YtmimejckcknjfaaDoor.clashPatches
open Go.ChangeShapes Go.WideShapes Go.ChangeAt Go.RowKit Go.Proofs.YtmimejckcknjfaaDoor Go.Proofs.YtmimejckcknjfaaDoor.Row Go.Proofs.YtmimejckcknjfaaDoorW.PrintWords
set_option linter.unusedVariables false
theorem own : ownKnob Tryd.prog.godebug = none := by kernel_rfl
theorem laidOut : laidOutB Tryd.prog = true := by kernel_rfl
set_option maxRecDepth 100000 in
theorem contract (H : Type) (enc : TypeId × Value → H) (W : World) (base : Nat) (args : Array Value) (ds gs : List (DataW H)) (before : List MemPlace)
    (hval0 : ∀ (j : Nat) t v, Tryd.f4.params[j]? = some t → args[j]? = some v → Value.okWide Tryd.prog W .any base t v)
    (hW : DataW.Whole enc Tryd.prog Tryd.f4.params.toList Rows.clashPatchesSpec.vars false W args.toList ds gs before)
    (hsz0 : (DataW.weightsEach Tryd.prog (Tryd.f4.params.toList ++ Rows.clashPatchesSpec.plain.varTypes Tryd.prog) (ds ++ gs)).all (· ≤ reachBytes) = true) (hG : G.Gl W) :
    Calls Tryd.prog 4 args W fun e W' => ∃ v, e = .returned v ∧ Rows.clashPatchesSpec.post enc Tryd.prog Tryd.f4 false true false false W args v W' := by
  have hsz := hsz0
  have hval := hval0
  have hW' := hW
  obtain ⟨p, q, hA0, hV, rfl, hfz, hnd⟩ := hW
  have hA : DataW.TrodAll enc Tryd.prog W 0 (fun _ => true) true Tryd.f4.params.toList args.toList ds p := hA0
  rw [Tryd.params4] at hA hval hsz
  obtain ⟨v0, vs0, d0, ds0, p0, q0, hargs, rfl, rfl, h0, r0⟩ := trodAll_cons hA
  obtain ⟨v1, vs1, d1, ds1, p1, q1, rfl, rfl, rfl, h1, r1⟩ := trodAll_cons r0
  obtain ⟨rfl, rfl, rfl⟩ := trodAll_nil r1
  obtain rfl : args = #[v0, v1] := by cases args; simp_all
  obtain ⟨rfl, rfl⟩ := trodVars_none hV
  obtain ⟨x0, m0, ok0⟩ := open_arg (opens_struct (P := Tryd.prog) (T := 42) (fun x : G.S42 => (x.f0, x.f1, x.f2)) (fun a => (⟨a.1, a.2.1, a.2.2⟩ : G.S42)) (fun _ => rfl) Tryd.underlying42 (by kernel_rfl) (opensF_cons (opens_string (P := Tryd.prog) (T := 9) Tryd.underlying9) rfl (by kernel_rfl) (opensF_cons (opens_slice (P := Tryd.prog) (T := 25) (B := 16) Tryd.underlying25 (opens_string (P := Tryd.prog) (T := 9) Tryd.underlying9) (by kernel_rfl) (by kernel_rfl)) rfl (by kernel_rfl) (opensF_one (opens_slice (P := Tryd.prog) (T := 29) (B := 216) Tryd.underlying29 (opens_struct (P := Tryd.prog) (T := 27) (fun x : G.S27 => (x.f0, x.f1, x.f2, x.f3, x.f4, x.f5, x.f6, x.f7, x.f8, x.f9, x.f10)) (fun a => (⟨a.1, a.2.1, a.2.2.1, a.2.2.2.1, a.2.2.2.2.1, a.2.2.2.2.2.1, a.2.2.2.2.2.2.1, a.2.2.2.2.2.2.2.1, a.2.2.2.2.2.2.2.2.1, a.2.2.2.2.2.2.2.2.2.1, a.2.2.2.2.2.2.2.2.2.2⟩ : G.S27)) (fun _ => rfl) Tryd.underlying27 (by kernel_rfl) (opensF_cons (opens_int (P := Tryd.prog) (T := 3) Tryd.underlying3) rfl (by kernel_rfl) (opensF_cons (opens_struct (P := Tryd.prog) (T := 23) (fun x : G.S23 => (x.f0, x.f1)) (fun a => (⟨a.1, a.2⟩ : G.S23)) (fun _ => rfl) Tryd.underlying23 (by kernel_rfl) (opensF_cons (opens_string (P := Tryd.prog) (T := 9) Tryd.underlying9) rfl (by kernel_rfl) (opensF_one (opens_int (P := Tryd.prog) (T := 3) Tryd.underlying3) rfl (by kernel_rfl)))) rfl (by kernel_rfl) (opensF_cons (opens_struct (P := Tryd.prog) (T := 23) (fun x : G.S23 => (x.f0, x.f1)) (fun a => (⟨a.1, a.2⟩ : G.S23)) (fun _ => rfl) Tryd.underlying23 (by kernel_rfl) (opensF_cons (opens_string (P := Tryd.prog) (T := 9) Tryd.underlying9) rfl (by kernel_rfl) (opensF_one (opens_int (P := Tryd.prog) (T := 3) Tryd.underlying3) rfl (by kernel_rfl)))) rfl (by kernel_rfl) (opensF_cons (opens_struct (P := Tryd.prog) (T := 23) (fun x : G.S23 => (x.f0, x.f1)) (fun a => (⟨a.1, a.2⟩ : G.S23)) (fun _ => rfl) Tryd.underlying23 (by kernel_rfl) (opensF_cons (opens_string (P := Tryd.prog) (T := 9) Tryd.underlying9) rfl (by kernel_rfl) (opensF_one (opens_int (P := Tryd.prog) (T := 3) Tryd.underlying3) rfl (by kernel_rfl)))) rfl (by kernel_rfl) (opensF_cons (opens_string (P := Tryd.prog) (T := 9) Tryd.underlying9) rfl (by kernel_rfl) (opensF_cons (opens_string (P := Tryd.prog) (T := 9) Tryd.underlying9) rfl (by kernel_rfl) (opensF_cons (opens_struct (P := Tryd.prog) (T := 23) (fun x : G.S23 => (x.f0, x.f1)) (fun a => (⟨a.1, a.2⟩ : G.S23)) (fun _ => rfl) Tryd.underlying23 (by kernel_rfl) (opensF_cons (opens_string (P := Tryd.prog) (T := 9) Tryd.underlying9) rfl (by kernel_rfl) (opensF_one (opens_int (P := Tryd.prog) (T := 3) Tryd.underlying3) rfl (by kernel_rfl)))) rfl (by kernel_rfl) (opensF_cons (opens_struct (P := Tryd.prog) (T := 23) (fun x : G.S23 => (x.f0, x.f1)) (fun a => (⟨a.1, a.2⟩ : G.S23)) (fun _ => rfl) Tryd.underlying23 (by kernel_rfl) (opensF_cons (opens_string (P := Tryd.prog) (T := 9) Tryd.underlying9) rfl (by kernel_rfl) (opensF_one (opens_int (P := Tryd.prog) (T := 3) Tryd.underlying3) rfl (by kernel_rfl)))) rfl (by kernel_rfl) (opensF_cons (opens_slice (P := Tryd.prog) (T := 24) (B := 24) Tryd.underlying24 (opens_struct (P := Tryd.prog) (T := 23) (fun x : G.S23 => (x.f0, x.f1)) (fun a => (⟨a.1, a.2⟩ : G.S23)) (fun _ => rfl) Tryd.underlying23 (by kernel_rfl) (opensF_cons (opens_string (P := Tryd.prog) (T := 9) Tryd.underlying9) rfl (by kernel_rfl) (opensF_one (opens_int (P := Tryd.prog) (T := 3) Tryd.underlying3) rfl (by kernel_rfl)))) (by kernel_rfl) (by kernel_rfl)) rfl (by kernel_rfl) (opensF_cons (opens_int (P := Tryd.prog) (T := 3) Tryd.underlying3) rfl (by kernel_rfl) (opensF_one (opens_slice (P := Tryd.prog) (T := 25) (B := 16) Tryd.underlying25 (opens_string (P := Tryd.prog) (T := 9) Tryd.underlying9) (by kernel_rfl) (by kernel_rfl)) rfl (by kernel_rfl))))))))))))) (by kernel_rfl) (by kernel_rfl)) rfl (by kernel_rfl))))) h0 (arg_weights hsz (j := 0) (t := 42) rfl rfl)
  obtain ⟨x1, m1, ok1⟩ := open_arg (opens_struct (P := Tryd.prog) (T := 42) (fun x : G.S42 => (x.f0, x.f1, x.f2)) (fun a => (⟨a.1, a.2.1, a.2.2⟩ : G.S42)) (fun _ => rfl) Tryd.underlying42 (by kernel_rfl) (opensF_cons (opens_string (P := Tryd.prog) (T := 9) Tryd.underlying9) rfl (by kernel_rfl) (opensF_cons (opens_slice (P := Tryd.prog) (T := 25) (B := 16) Tryd.underlying25 (opens_string (P := Tryd.prog) (T := 9) Tryd.underlying9) (by kernel_rfl) (by kernel_rfl)) rfl (by kernel_rfl) (opensF_one (opens_slice (P := Tryd.prog) (T := 29) (B := 216) Tryd.underlying29 (opens_struct (P := Tryd.prog) (T := 27) (fun x : G.S27 => (x.f0, x.f1, x.f2, x.f3, x.f4, x.f5, x.f6, x.f7, x.f8, x.f9, x.f10)) (fun a => (⟨a.1, a.2.1, a.2.2.1, a.2.2.2.1, a.2.2.2.2.1, a.2.2.2.2.2.1, a.2.2.2.2.2.2.1, a.2.2.2.2.2.2.2.1, a.2.2.2.2.2.2.2.2.1, a.2.2.2.2.2.2.2.2.2.1, a.2.2.2.2.2.2.2.2.2.2⟩ : G.S27)) (fun _ => rfl) Tryd.underlying27 (by kernel_rfl) (opensF_cons (opens_int (P := Tryd.prog) (T := 3) Tryd.underlying3) rfl (by kernel_rfl) (opensF_cons (opens_struct (P := Tryd.prog) (T := 23) (fun x : G.S23 => (x.f0, x.f1)) (fun a => (⟨a.1, a.2⟩ : G.S23)) (fun _ => rfl) Tryd.underlying23 (by kernel_rfl) (opensF_cons (opens_string (P := Tryd.prog) (T := 9) Tryd.underlying9) rfl (by kernel_rfl) (opensF_one (opens_int (P := Tryd.prog) (T := 3) Tryd.underlying3) rfl (by kernel_rfl)))) rfl (by kernel_rfl) (opensF_cons (opens_struct (P := Tryd.prog) (T := 23) (fun x : G.S23 => (x.f0, x.f1)) (fun a => (⟨a.1, a.2⟩ : G.S23)) (fun _ => rfl) Tryd.underlying23 (by kernel_rfl) (opensF_cons (opens_string (P := Tryd.prog) (T := 9) Tryd.underlying9) rfl (by kernel_rfl) (opensF_one (opens_int (P := Tryd.prog) (T := 3) Tryd.underlying3) rfl (by kernel_rfl)))) rfl (by kernel_rfl) (opensF_cons (opens_struct (P := Tryd.prog) (T := 23) (fun x : G.S23 => (x.f0, x.f1)) (fun a => (⟨a.1, a.2⟩ : G.S23)) (fun _ => rfl) Tryd.underlying23 (by kernel_rfl) (opensF_cons (opens_string (P := Tryd.prog) (T := 9) Tryd.underlying9) rfl (by kernel_rfl) (opensF_one (opens_int (P := Tryd.prog) (T := 3) Tryd.underlying3) rfl (by kernel_rfl)))) rfl (by kernel_rfl) (opensF_cons (opens_string (P := Tryd.prog) (T := 9) Tryd.underlying9) rfl (by kernel_rfl) (opensF_cons (opens_string (P := Tryd.prog) (T := 9) Tryd.underlying9) rfl (by kernel_rfl) (opensF_cons (opens_struct (P := Tryd.prog) (T := 23) (fun x : G.S23 => (x.f0, x.f1)) (fun a => (⟨a.1, a.2⟩ : G.S23)) (fun _ => rfl) Tryd.underlying23 (by kernel_rfl) (opensF_cons (opens_string (P := Tryd.prog) (T := 9) Tryd.underlying9) rfl (by kernel_rfl) (opensF_one (opens_int (P := Tryd.prog) (T := 3) Tryd.underlying3) rfl (by kernel_rfl)))) rfl (by kernel_rfl) (opensF_cons (opens_struct (P := Tryd.prog) (T := 23) (fun x : G.S23 => (x.f0, x.f1)) (fun a => (⟨a.1, a.2⟩ : G.S23)) (fun _ => rfl) Tryd.underlying23 (by kernel_rfl) (opensF_cons (opens_string (P := Tryd.prog) (T := 9) Tryd.underlying9) rfl (by kernel_rfl) (opensF_one (opens_int (P := Tryd.prog) (T := 3) Tryd.underlying3) rfl (by kernel_rfl)))) rfl (by kernel_rfl) (opensF_cons (opens_slice (P := Tryd.prog) (T := 24) (B := 24) Tryd.underlying24 (opens_struct (P := Tryd.prog) (T := 23) (fun x : G.S23 => (x.f0, x.f1)) (fun a => (⟨a.1, a.2⟩ : G.S23)) (fun _ => rfl) Tryd.underlying23 (by kernel_rfl) (opensF_cons (opens_string (P := Tryd.prog) (T := 9) Tryd.underlying9) rfl (by kernel_rfl) (opensF_one (opens_int (P := Tryd.prog) (T := 3) Tryd.underlying3) rfl (by kernel_rfl)))) (by kernel_rfl) (by kernel_rfl)) rfl (by kernel_rfl) (opensF_cons (opens_int (P := Tryd.prog) (T := 3) Tryd.underlying3) rfl (by kernel_rfl) (opensF_one (opens_slice (P := Tryd.prog) (T := 25) (B := 16) Tryd.underlying25 (opens_string (P := Tryd.prog) (T := 9) Tryd.underlying9) (by kernel_rfl) (by kernel_rfl)) rfl (by kernel_rfl))))))))))))) (by kernel_rfl) (by kernel_rfl)) rfl (by kernel_rfl))))) h1 (arg_weights hsz (j := 1) (t := 42) rfl rfl)
  obtain ⟨cs0, ev0, _⟩ := okWide_struct Tryd.underlying42 (hval 0 42 v0 rfl rfl)
  subst ev0
  obtain ⟨A0_1, c0_1, A0_2, c0_2, hcs0, hc0_1, hr0_1, hc0_2, hr0_2⟩ := G.k42_open m0
  have e0 : Value.agg cs0 = .agg _ := congrArg Value.agg (Array.toList_inj.1 (hcs0.trans (List.toList_toArray).symm))
  obtain ⟨cs1, ev1, _⟩ := okWide_struct Tryd.underlying42 (hval 1 42 v1 rfl rfl)
  subst ev1
  obtain ⟨A1_1, c1_1, A1_2, c1_2, hcs1, hc1_1, hr1_1, hc1_2, hr1_2⟩ := G.k42_open m1
  have e1 : Value.agg cs1 = .agg _ := congrArg Value.agg (Array.toList_inj.1 (hcs1.trans (List.toList_toArray).symm))
  have hk := Pure.ClashPatches x0 x1 ok0 ok1
  have hcall := G.rafterlaw15_ClashPatches.calls x0 A0_1 c0_1 A0_2 c0_2 x1 A1_1 c1_1 A1_2 c1_2 W hr0_1 hc0_1 hr0_2 hc0_2 hr1_1 hc1_1 hr1_2 hc1_2 hk hG
  clear hA0 hval0 hsz0 hsz hval hA hargs m0 m1
  rw [← e0, ← e1] at hcall
  refine hcall.mono fun e W' ⟨he, bel⟩ => ?_
  subst he
  exact ⟨_, rfl, _, _, _, [], _, [], hW', trodAll_mk1 (shut_bool Tryd.underlying4 _), (trodAll_cons_mk (Below.trod laidOut (by kernel_rfl) (of_decide_eq_true (by kernel_rfl)) h0 bel (trod_blocks h0)) (trodAll_cons_mk (Below.trod laidOut (by kernel_rfl) (of_decide_eq_true (by kernel_rfl)) h1 bel (trod_blocks h1)) trodAll_mk0)), rfl, bel.frame _, fun h => by cases h⟩
/-- A datum's cells. -/
def cellsOf : DataW Unit → List Value
  | .lit (.int k n) => [.int k n]
  | .agg l => cellsAll l
  | _ => []
where cellsAll : List (DataW Unit) → List Value
  | [] => []
  | d :: l => cellsOf d ++ cellsAll l
noncomputable def laidWorld (os : Os) : World :=
  { World.holding Tryd.prog os ⟨#[], #[], []⟩ with heap := (((World.holding Tryd.prog os ⟨#[], #[], []⟩).heap).modify 1 (fun o => match o with | .cells _ t frozen => .cells (cellsOf Rows.laid_unicode_utf8_acceptRanges).toArray t frozen | o => o)).modify 0 (fun o => match o with | .cells _ t frozen => .cells (cellsOf Rows.laid_unicode_utf8_first).toArray t frozen | o => o) }
theorem laid_met (os : Os) : laidMet Tryd.prog Rows.clashPatchesRow.laid ((laidWorld os).forCall (fun _ _ => 0) ⟨#[], #[.agg #[.string ByteArray.empty, .slice none 0 0, .slice none 0 0], .agg #[.string ByteArray.empty, .slice none 0 0, .slice none 0 0]], []⟩).memory :=
  laidMet_of_run' 8 (by kernel_rfl) (by kernel_rfl)
theorem reads (os : Os) {H : Type} (enc : TypeId × Value → H) : ∃ places, DataW.whole enc Tryd.prog ((laidWorld os).forCall (fun _ _ => 0) ⟨#[], #[.agg #[.string ByteArray.empty, .slice none 0 0, .slice none 0 0], .agg #[.string ByteArray.empty, .slice none 0 0, .slice none 0 0]], []⟩).memory Tryd.f4.params.toList Rows.clashPatchesSpec.vars false (#[.agg #[.string ByteArray.empty, .slice none 0 0, .slice none 0 0], .agg #[.string ByteArray.empty, .slice none 0 0, .slice none 0 0]] : Array Value).toList 8 = some ([.agg [.lit (.string []), .nil, .nil], .agg [.lit (.string []), .nil, .nil]], [], places) :=
  ⟨[], by kernel_rfl⟩
theorem tables {W : World} (hL : laidMetH Tryd.prog Rows.clashPatchesRow.laid W) : G.Gl W := by
  have hL' : laidMet Tryd.prog Rows.clashPatchesRow.laid W := hL
  have h3 : Lib.VarReads Tryd.prog W "unicode/utf8.first" Rows.laid_unicode_utf8_first := Lib.laidMet.reads hL' (.tail _ (.head _))
  have h4 : Lib.VarReads Tryd.prog W "unicode/utf8.acceptRanges" Rows.laid_unicode_utf8_acceptRanges := Lib.laidMet.reads hL' (.head _)
  rw [show Rows.laid_unicode_utf8_first = Lib.firstData from Pinned.utf8First_eq] at h3
  rw [show (Rows.laid_unicode_utf8_acceptRanges : DataW Unit) = Lib.acceptData from by kernel_rfl] at h4
  exact utf8Tabs_of_readsT (ρ := ⟨fun n => n, fun | 5 => 5 | 119 => 74 | 138 => 77 | 139 => 78 | n => n, fun | 3 => 0 | 4 => 1 | n => n⟩) ⟨by kernel_rfl, by kernel_rfl, by kernel_rfl, by kernel_rfl⟩ ⟨by kernel_rfl, by kernel_rfl, by kernel_rfl, by kernel_rfl, by kernel_rfl, by kernel_rfl, by kernel_rfl⟩ h3 h4
set_option maxRecDepth 100000 in
theorem lifted (os : Os) (started : os.Started) (H : Type) (enc : TypeId × Value → H) (F : Stop.Interp) :
    ReturnsInHanded {} Tryd.checked os 4 .any ((OpenSpec.ofChange Rows.clashPatchesSpec).preRow enc Tryd.prog Tryd.f4 Rows.clashPatchesRow.domain false Rows.clashPatchesRow.laid) (((OpenSpec.ofChange Rows.clashPatchesSpec).at F).post enc Tryd.prog Tryd.f4 false true false false) := by
  obtain ⟨places, hx⟩ := reads os enc
  refine returnsInHanded_of_row (C := Tryd.checked) (s := OpenSpec.ofChange Rows.clashPatchesSpec) own started (by kernel_rfl) Tryd.func4
    (witness_row_at (enc := enc) (C := Tryd.checked) false (laidWorld os) #[.agg #[.string ByteArray.empty, .slice none 0 0, .slice none 0 0], .agg #[.string ByteArray.empty, .slice none 0 0, .slice none 0 0]] rfl (by kernel_rfl) (by kernel_rfl) (by kernel_rfl)
      (OpenSpec.preRow_of_cond 8 hx (by kernel_rfl) (fun k hk => by cases hk) (by kernel_rfl) (laid_met os))) ?_
  intro W base args ds gs before hval hW _ _ hsz hL hS _
  exact contract H enc W base args ds gs before hval hW hsz (tables hL)
theorem said : Rows.ClashPatchesSaid :=
  OpenClaim.holds_of_cond 4 Tryd.f4 rfl rfl rfl rfl rfl rfl rfl ⟨rfl, rfl, rfl, rfl, rfl⟩ rfl rfl rfl rfl rfl (by kernel_rfl) Tryd.func4 (by kernel_rfl)
    (of_decide_eq_true (by kernel_rfl)) (by unfold Func.isWrapper; first | (rw [if_pos (by decide +kernel)]; kernel_rfl) | (rw [if_neg (by decide +kernel)]; exact ⟨rfl, rfl⟩))
    (fun os started H enc _ F => by rw [OpenClaim.pre_eq_preRow]; exact lifted os started H enc F)
theorem plain (f : FuncId) (fn : Func) (hf : Tryd.pinned.checked.prog.funcNamed "rafter/rafterlaw15.ClashPatches" = some f) (hfn : Tryd.pinned.checked.prog.funcs[f]? = some fn) :
    false = Tryd.pinned.checked.prog.looks [] ∧ ∀ (j : Nat) t, fn.params[j]? = some t → Tryd.pinned.checked.prog.wantsStandIn t = false := by
  obtain rfl : f = 4 := Option.some.inj ((show Tryd.prog.funcNamed "rafter/rafterlaw15.ClashPatches" = some 4 by kernel_rfl).symm.trans hf) |>.symm
  obtain rfl : fn = Tryd.f4 := (Option.some.inj (Tryd.func4.symm.trans hfn)).symm
  refine ⟨by kernel_rfl, fun j t ht => ?_⟩
  rw [Tryd.params4] at ht
  have hm := Array.mem_of_getElem? ht
  simp only [List.mem_toArray, List.mem_cons, List.mem_nil_iff, or_false] at hm
  rcases hm with rfl | rfl
  · exact (show Tryd.prog.wantsStandIn 42 = false by kernel_rfl)
  · exact (show Tryd.prog.wantsStandIn 42 = false by kernel_rfl)
theorem proved : Rows.ClashPatchesCardSaid :=
  Claim7.holds_tied_plain_at .later [] _ _ _ _ said (fun _ h => by cases h) (by kernel_rfl) (fun _ h => by cases h) clashPatches_row_tie rfl ⟨rfl, rfl⟩ (by kernel_rfl) rfl plain (by kernel_rfl)
#print axioms proved
end Go.Proofs.YtmimejckcknjfaaDoor.clashPatches
namespace Go.Proofs.YtmimejckcknjfaaDoor
theorem clashPatches_holds : Rows.ClashPatchesCardSaid := clashPatches.proved
end Go.Proofs.YtmimejckcknjfaaDoor
