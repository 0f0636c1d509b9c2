/- why any two operations clash, both ways the same; which places they touch -/
import Derived.Test.YtmimejckcknjfaaDoorRows
import Derived.Test.YtmimejckcknjfaaDoorCards
import Derived.Test.YtmimejckcknjfaaDoorTie
import Derived.Test.YtmimejckcknjfaaDoorPureClashOps
import Derived.Test.YtmimejckcknjfaaDoorRow
import Derived.WalkKit
import Derived.ProofKit
import Derived.OpenShut
import Derived.ShutString
import Derived.ChangeOld
import Derived.Below
import Derived.SizedLaws
import Derived.Deep.DeepHandedRow
import Derived.Lib.LaidTab
import Derived.Lib.LaidU8T
import Derived.PinnedBridge
namespace Go.Proofs.YtmimejckcknjfaaDoor.clashOps
open Go.ChangeShapes Go.WideShapes Go.ChangeAt Go.RowKit Go.Proofs.YtmimejckcknjfaaDoor Go.Proofs.YtmimejckcknjfaaDoor.Row Go.Proofs.YtmimejckcknjfaaDoorW.PrintWords
set_option linter.unusedVariables false
theorem own : ownKnob Tryd.prog.godebug = none := by kernel_rfl
theorem laidOut : laidOutB Tryd.prog = true := by kernel_rfl
set_option maxRecDepth 100000 in
theorem contract (H : Type) (enc : TypeId × Value → H) (W : World) (base : Nat) (args : Array Value) (ds gs : List (DataW H)) (before : List MemPlace)
    (hval0 : ∀ (j : Nat) t v, Tryd.f3.params[j]? = some t → args[j]? = some v → Value.okWide Tryd.prog W .any base t v)
    (hW : DataW.Whole enc Tryd.prog Tryd.f3.params.toList Rows.clashOpsSpec.vars false W args.toList ds gs before)
    (hsz0 : (DataW.weightsEach Tryd.prog (Tryd.f3.params.toList ++ Rows.clashOpsSpec.plain.varTypes Tryd.prog) (ds ++ gs)).all (· ≤ reachBytes) = true) (hG : G.Gl W) :
    Calls Tryd.prog 3 args W fun e W' => ∃ v, e = .returned v ∧ Rows.clashOpsSpec.post enc Tryd.prog Tryd.f3 false true false false W args v W' := by
  have hsz := hsz0
  have hval := hval0
  have hW' := hW
  obtain ⟨p, q, hA0, hV, rfl, hfz, hnd⟩ := hW
  have hA : DataW.TrodAll enc Tryd.prog W 0 (fun _ => true) true Tryd.f3.params.toList args.toList ds p := hA0
  rw [Tryd.params3] at hA hval hsz
  obtain ⟨v0, vs0, d0, ds0, p0, q0, hargs, rfl, rfl, h0, r0⟩ := trodAll_cons hA
  obtain ⟨v1, vs1, d1, ds1, p1, q1, rfl, rfl, rfl, h1, r1⟩ := trodAll_cons r0
  obtain ⟨rfl, rfl, rfl⟩ := trodAll_nil r1
  obtain rfl : args = #[v0, v1] := by cases args; simp_all
  obtain ⟨rfl, rfl⟩ := trodVars_none hV
  obtain ⟨x0, m0, ok0⟩ := open_arg (opens_struct (P := Tryd.prog) (T := 27) (fun x : G.S27 => (x.f0, x.f1, x.f2, x.f3, x.f4, x.f5, x.f6, x.f7, x.f8, x.f9, x.f10)) (fun a => (⟨a.1, a.2.1, a.2.2.1, a.2.2.2.1, a.2.2.2.2.1, a.2.2.2.2.2.1, a.2.2.2.2.2.2.1, a.2.2.2.2.2.2.2.1, a.2.2.2.2.2.2.2.2.1, a.2.2.2.2.2.2.2.2.2.1, a.2.2.2.2.2.2.2.2.2.2⟩ : G.S27)) (fun _ => rfl) Tryd.underlying27 (by kernel_rfl) (opensF_cons (opens_int (P := Tryd.prog) (T := 3) Tryd.underlying3) rfl (by kernel_rfl) (opensF_cons (opens_struct (P := Tryd.prog) (T := 23) (fun x : G.S23 => (x.f0, x.f1)) (fun a => (⟨a.1, a.2⟩ : G.S23)) (fun _ => rfl) Tryd.underlying23 (by kernel_rfl) (opensF_cons (opens_string (P := Tryd.prog) (T := 9) Tryd.underlying9) rfl (by kernel_rfl) (opensF_one (opens_int (P := Tryd.prog) (T := 3) Tryd.underlying3) rfl (by kernel_rfl)))) rfl (by kernel_rfl) (opensF_cons (opens_struct (P := Tryd.prog) (T := 23) (fun x : G.S23 => (x.f0, x.f1)) (fun a => (⟨a.1, a.2⟩ : G.S23)) (fun _ => rfl) Tryd.underlying23 (by kernel_rfl) (opensF_cons (opens_string (P := Tryd.prog) (T := 9) Tryd.underlying9) rfl (by kernel_rfl) (opensF_one (opens_int (P := Tryd.prog) (T := 3) Tryd.underlying3) rfl (by kernel_rfl)))) rfl (by kernel_rfl) (opensF_cons (opens_struct (P := Tryd.prog) (T := 23) (fun x : G.S23 => (x.f0, x.f1)) (fun a => (⟨a.1, a.2⟩ : G.S23)) (fun _ => rfl) Tryd.underlying23 (by kernel_rfl) (opensF_cons (opens_string (P := Tryd.prog) (T := 9) Tryd.underlying9) rfl (by kernel_rfl) (opensF_one (opens_int (P := Tryd.prog) (T := 3) Tryd.underlying3) rfl (by kernel_rfl)))) rfl (by kernel_rfl) (opensF_cons (opens_string (P := Tryd.prog) (T := 9) Tryd.underlying9) rfl (by kernel_rfl) (opensF_cons (opens_string (P := Tryd.prog) (T := 9) Tryd.underlying9) rfl (by kernel_rfl) (opensF_cons (opens_struct (P := Tryd.prog) (T := 23) (fun x : G.S23 => (x.f0, x.f1)) (fun a => (⟨a.1, a.2⟩ : G.S23)) (fun _ => rfl) Tryd.underlying23 (by kernel_rfl) (opensF_cons (opens_string (P := Tryd.prog) (T := 9) Tryd.underlying9) rfl (by kernel_rfl) (opensF_one (opens_int (P := Tryd.prog) (T := 3) Tryd.underlying3) rfl (by kernel_rfl)))) rfl (by kernel_rfl) (opensF_cons (opens_struct (P := Tryd.prog) (T := 23) (fun x : G.S23 => (x.f0, x.f1)) (fun a => (⟨a.1, a.2⟩ : G.S23)) (fun _ => rfl) Tryd.underlying23 (by kernel_rfl) (opensF_cons (opens_string (P := Tryd.prog) (T := 9) Tryd.underlying9) rfl (by kernel_rfl) (opensF_one (opens_int (P := Tryd.prog) (T := 3) Tryd.underlying3) rfl (by kernel_rfl)))) rfl (by kernel_rfl) (opensF_cons (opens_slice (P := Tryd.prog) (T := 24) (B := 24) Tryd.underlying24 (opens_struct (P := Tryd.prog) (T := 23) (fun x : G.S23 => (x.f0, x.f1)) (fun a => (⟨a.1, a.2⟩ : G.S23)) (fun _ => rfl) Tryd.underlying23 (by kernel_rfl) (opensF_cons (opens_string (P := Tryd.prog) (T := 9) Tryd.underlying9) rfl (by kernel_rfl) (opensF_one (opens_int (P := Tryd.prog) (T := 3) Tryd.underlying3) rfl (by kernel_rfl)))) (by kernel_rfl) (by kernel_rfl)) rfl (by kernel_rfl) (opensF_cons (opens_int (P := Tryd.prog) (T := 3) Tryd.underlying3) rfl (by kernel_rfl) (opensF_one (opens_slice (P := Tryd.prog) (T := 25) (B := 16) Tryd.underlying25 (opens_string (P := Tryd.prog) (T := 9) Tryd.underlying9) (by kernel_rfl) (by kernel_rfl)) rfl (by kernel_rfl))))))))))))) h0 (arg_weights hsz (j := 0) (t := 27) rfl rfl)
  obtain ⟨x1, m1, ok1⟩ := open_arg (opens_struct (P := Tryd.prog) (T := 27) (fun x : G.S27 => (x.f0, x.f1, x.f2, x.f3, x.f4, x.f5, x.f6, x.f7, x.f8, x.f9, x.f10)) (fun a => (⟨a.1, a.2.1, a.2.2.1, a.2.2.2.1, a.2.2.2.2.1, a.2.2.2.2.2.1, a.2.2.2.2.2.2.1, a.2.2.2.2.2.2.2.1, a.2.2.2.2.2.2.2.2.1, a.2.2.2.2.2.2.2.2.2.1, a.2.2.2.2.2.2.2.2.2.2⟩ : G.S27)) (fun _ => rfl) Tryd.underlying27 (by kernel_rfl) (opensF_cons (opens_int (P := Tryd.prog) (T := 3) Tryd.underlying3) rfl (by kernel_rfl) (opensF_cons (opens_struct (P := Tryd.prog) (T := 23) (fun x : G.S23 => (x.f0, x.f1)) (fun a => (⟨a.1, a.2⟩ : G.S23)) (fun _ => rfl) Tryd.underlying23 (by kernel_rfl) (opensF_cons (opens_string (P := Tryd.prog) (T := 9) Tryd.underlying9) rfl (by kernel_rfl) (opensF_one (opens_int (P := Tryd.prog) (T := 3) Tryd.underlying3) rfl (by kernel_rfl)))) rfl (by kernel_rfl) (opensF_cons (opens_struct (P := Tryd.prog) (T := 23) (fun x : G.S23 => (x.f0, x.f1)) (fun a => (⟨a.1, a.2⟩ : G.S23)) (fun _ => rfl) Tryd.underlying23 (by kernel_rfl) (opensF_cons (opens_string (P := Tryd.prog) (T := 9) Tryd.underlying9) rfl (by kernel_rfl) (opensF_one (opens_int (P := Tryd.prog) (T := 3) Tryd.underlying3) rfl (by kernel_rfl)))) rfl (by kernel_rfl) (opensF_cons (opens_struct (P := Tryd.prog) (T := 23) (fun x : G.S23 => (x.f0, x.f1)) (fun a => (⟨a.1, a.2⟩ : G.S23)) (fun _ => rfl) Tryd.underlying23 (by kernel_rfl) (opensF_cons (opens_string (P := Tryd.prog) (T := 9) Tryd.underlying9) rfl (by kernel_rfl) (opensF_one (opens_int (P := Tryd.prog) (T := 3) Tryd.underlying3) rfl (by kernel_rfl)))) rfl (by kernel_rfl) (opensF_cons (opens_string (P := Tryd.prog) (T := 9) Tryd.underlying9) rfl (by kernel_rfl) (opensF_cons (opens_string (P := Tryd.prog) (T := 9) Tryd.underlying9) rfl (by kernel_rfl) (opensF_cons (opens_struct (P := Tryd.prog) (T := 23) (fun x : G.S23 => (x.f0, x.f1)) (fun a => (⟨a.1, a.2⟩ : G.S23)) (fun _ => rfl) Tryd.underlying23 (by kernel_rfl) (opensF_cons (opens_string (P := Tryd.prog) (T := 9) Tryd.underlying9) rfl (by kernel_rfl) (opensF_one (opens_int (P := Tryd.prog) (T := 3) Tryd.underlying3) rfl (by kernel_rfl)))) rfl (by kernel_rfl) (opensF_cons (opens_struct (P := Tryd.prog) (T := 23) (fun x : G.S23 => (x.f0, x.f1)) (fun a => (⟨a.1, a.2⟩ : G.S23)) (fun _ => rfl) Tryd.underlying23 (by kernel_rfl) (opensF_cons (opens_string (P := Tryd.prog) (T := 9) Tryd.underlying9) rfl (by kernel_rfl) (opensF_one (opens_int (P := Tryd.prog) (T := 3) Tryd.underlying3) rfl (by kernel_rfl)))) rfl (by kernel_rfl) (opensF_cons (opens_slice (P := Tryd.prog) (T := 24) (B := 24) Tryd.underlying24 (opens_struct (P := Tryd.prog) (T := 23) (fun x : G.S23 => (x.f0, x.f1)) (fun a => (⟨a.1, a.2⟩ : G.S23)) (fun _ => rfl) Tryd.underlying23 (by kernel_rfl) (opensF_cons (opens_string (P := Tryd.prog) (T := 9) Tryd.underlying9) rfl (by kernel_rfl) (opensF_one (opens_int (P := Tryd.prog) (T := 3) Tryd.underlying3) rfl (by kernel_rfl)))) (by kernel_rfl) (by kernel_rfl)) rfl (by kernel_rfl) (opensF_cons (opens_int (P := Tryd.prog) (T := 3) Tryd.underlying3) rfl (by kernel_rfl) (opensF_one (opens_slice (P := Tryd.prog) (T := 25) (B := 16) Tryd.underlying25 (opens_string (P := Tryd.prog) (T := 9) Tryd.underlying9) (by kernel_rfl) (by kernel_rfl)) rfl (by kernel_rfl))))))))))))) h1 (arg_weights hsz (j := 1) (t := 27) rfl rfl)
  obtain ⟨cs0, ev0, _⟩ := okWide_struct Tryd.underlying27 (hval 0 27 v0 rfl rfl)
  subst ev0
  obtain ⟨A0_13, c0_13, A0_15, c0_15, hcs0, hc0_13, hr0_13, hc0_15, hr0_15⟩ := G.k27_open m0
  have e0 : Value.agg cs0 = .agg _ := congrArg Value.agg (Array.toList_inj.1 (hcs0.trans (List.toList_toArray).symm))
  obtain ⟨cs1, ev1, _⟩ := okWide_struct Tryd.underlying27 (hval 1 27 v1 rfl rfl)
  subst ev1
  obtain ⟨A1_13, c1_13, A1_15, c1_15, hcs1, hc1_13, hr1_13, hc1_15, hr1_15⟩ := G.k27_open m1
  have e1 : Value.agg cs1 = .agg _ := congrArg Value.agg (Array.toList_inj.1 (hcs1.trans (List.toList_toArray).symm))
  have hk := Pure.ClashOps x0 x1 ok0 ok1
  have hcall := G.rafterlaw15_ClashOps.calls x0 A0_13 c0_13 A0_15 c0_15 x1 A1_13 c1_13 A1_15 c1_15 W hr0_13 hc0_13 hr0_15 hc0_15 hr1_13 hc1_13 hr1_15 hc1_15 hk hG
  clear hA0 hval0 hsz0 hsz hval hA hargs m0 m1
  rw [← e0, ← e1] at hcall
  refine hcall.mono fun e W' ⟨he, bel⟩ => ?_
  subst he
  exact ⟨_, rfl, _, _, _, [], _, [], hW', trodAll_mk1 (shut_bool Tryd.underlying4 _), (trodAll_cons_mk (Below.trod laidOut (by kernel_rfl) (of_decide_eq_true (by kernel_rfl)) h0 bel (trod_blocks h0)) (trodAll_cons_mk (Below.trod laidOut (by kernel_rfl) (of_decide_eq_true (by kernel_rfl)) h1 bel (trod_blocks h1)) trodAll_mk0)), rfl, bel.frame _, fun h => by cases h⟩
/-- A datum's cells. -/
def cellsOf : DataW Unit → List Value
  | .lit (.int k n) => [.int k n]
  | .agg l => cellsAll l
  | _ => []
where cellsAll : List (DataW Unit) → List Value
  | [] => []
  | d :: l => cellsOf d ++ cellsAll l
noncomputable def laidWorld (os : Os) : World :=
  { World.holding Tryd.prog os ⟨#[], #[], []⟩ with heap := (((World.holding Tryd.prog os ⟨#[], #[], []⟩).heap).modify 1 (fun o => match o with | .cells _ t frozen => .cells (cellsOf Rows.laid_unicode_utf8_acceptRanges).toArray t frozen | o => o)).modify 0 (fun o => match o with | .cells _ t frozen => .cells (cellsOf Rows.laid_unicode_utf8_first).toArray t frozen | o => o) }
theorem laid_met (os : Os) : laidMet Tryd.prog Rows.clashOpsRow.laid ((laidWorld os).forCall (fun _ _ => 0) ⟨#[], #[.agg #[.int .i64 0, .string ByteArray.empty, .int .i64 0, .string ByteArray.empty, .int .i64 0, .string ByteArray.empty, .int .i64 0, .string ByteArray.empty, .string ByteArray.empty, .string ByteArray.empty, .int .i64 0, .string ByteArray.empty, .int .i64 0, .slice none 0 0, .int .i64 0, .slice none 0 0], .agg #[.int .i64 0, .string ByteArray.empty, .int .i64 0, .string ByteArray.empty, .int .i64 0, .string ByteArray.empty, .int .i64 0, .string ByteArray.empty, .string ByteArray.empty, .string ByteArray.empty, .int .i64 0, .string ByteArray.empty, .int .i64 0, .slice none 0 0, .int .i64 0, .slice none 0 0]], []⟩).memory :=
  laidMet_of_run' 8 (by kernel_rfl) (by kernel_rfl)
theorem reads (os : Os) {H : Type} (enc : TypeId × Value → H) : ∃ places, DataW.whole enc Tryd.prog ((laidWorld os).forCall (fun _ _ => 0) ⟨#[], #[.agg #[.int .i64 0, .string ByteArray.empty, .int .i64 0, .string ByteArray.empty, .int .i64 0, .string ByteArray.empty, .int .i64 0, .string ByteArray.empty, .string ByteArray.empty, .string ByteArray.empty, .int .i64 0, .string ByteArray.empty, .int .i64 0, .slice none 0 0, .int .i64 0, .slice none 0 0], .agg #[.int .i64 0, .string ByteArray.empty, .int .i64 0, .string ByteArray.empty, .int .i64 0, .string ByteArray.empty, .int .i64 0, .string ByteArray.empty, .string ByteArray.empty, .string ByteArray.empty, .int .i64 0, .string ByteArray.empty, .int .i64 0, .slice none 0 0, .int .i64 0, .slice none 0 0]], []⟩).memory Tryd.f3.params.toList Rows.clashOpsSpec.vars false (#[.agg #[.int .i64 0, .string ByteArray.empty, .int .i64 0, .string ByteArray.empty, .int .i64 0, .string ByteArray.empty, .int .i64 0, .string ByteArray.empty, .string ByteArray.empty, .string ByteArray.empty, .int .i64 0, .string ByteArray.empty, .int .i64 0, .slice none 0 0, .int .i64 0, .slice none 0 0], .agg #[.int .i64 0, .string ByteArray.empty, .int .i64 0, .string ByteArray.empty, .int .i64 0, .string ByteArray.empty, .int .i64 0, .string ByteArray.empty, .string ByteArray.empty, .string ByteArray.empty, .int .i64 0, .string ByteArray.empty, .int .i64 0, .slice none 0 0, .int .i64 0, .slice none 0 0]] : Array Value).toList 8 = some ([.agg [.lit (.int .i64 0), .agg [.lit (.string []), .lit (.int .i64 0)], .agg [.lit (.string []), .lit (.int .i64 0)], .agg [.lit (.string []), .lit (.int .i64 0)], .lit (.string []), .lit (.string []), .agg [.lit (.string []), .lit (.int .i64 0)], .agg [.lit (.string []), .lit (.int .i64 0)], .nil, .lit (.int .i64 0), .nil], .agg [.lit (.int .i64 0), .agg [.lit (.string []), .lit (.int .i64 0)], .agg [.lit (.string []), .lit (.int .i64 0)], .agg [.lit (.string []), .lit (.int .i64 0)], .lit (.string []), .lit (.string []), .agg [.lit (.string []), .lit (.int .i64 0)], .agg [.lit (.string []), .lit (.int .i64 0)], .nil, .lit (.int .i64 0), .nil]], [], places) :=
  ⟨[], by kernel_rfl⟩
theorem tables {W : World} (hL : laidMetH Tryd.prog Rows.clashOpsRow.laid W) : G.Gl W := by
  have hL' : laidMet Tryd.prog Rows.clashOpsRow.laid W := hL
  have h3 : Lib.VarReads Tryd.prog W "unicode/utf8.first" Rows.laid_unicode_utf8_first := Lib.laidMet.reads hL' (.tail _ (.head _))
  have h4 : Lib.VarReads Tryd.prog W "unicode/utf8.acceptRanges" Rows.laid_unicode_utf8_acceptRanges := Lib.laidMet.reads hL' (.head _)
  rw [show Rows.laid_unicode_utf8_first = Lib.firstData from Pinned.utf8First_eq] at h3
  rw [show (Rows.laid_unicode_utf8_acceptRanges : DataW Unit) = Lib.acceptData from by kernel_rfl] at h4
  exact utf8Tabs_of_readsT (ρ := ⟨fun n => n, fun | 5 => 5 | 119 => 74 | 138 => 77 | 139 => 78 | n => n, fun | 3 => 0 | 4 => 1 | n => n⟩) ⟨by kernel_rfl, by kernel_rfl, by kernel_rfl, by kernel_rfl⟩ ⟨by kernel_rfl, by kernel_rfl, by kernel_rfl, by kernel_rfl, by kernel_rfl, by kernel_rfl, by kernel_rfl⟩ h3 h4
set_option maxRecDepth 100000 in
theorem lifted (os : Os) (started : os.Started) (H : Type) (enc : TypeId × Value → H) (F : Stop.Interp) :
    ReturnsInHanded {} Tryd.checked os 3 .any ((OpenSpec.ofChange Rows.clashOpsSpec).preRow enc Tryd.prog Tryd.f3 Rows.clashOpsRow.domain false Rows.clashOpsRow.laid) (((OpenSpec.ofChange Rows.clashOpsSpec).at F).post enc Tryd.prog Tryd.f3 false true false false) := by
  obtain ⟨places, hx⟩ := reads os enc
  refine returnsInHanded_of_row (C := Tryd.checked) (s := OpenSpec.ofChange Rows.clashOpsSpec) own started (by kernel_rfl) Tryd.func3
    (witness_row_at (enc := enc) (C := Tryd.checked) false (laidWorld os) #[.agg #[.int .i64 0, .string ByteArray.empty, .int .i64 0, .string ByteArray.empty, .int .i64 0, .string ByteArray.empty, .int .i64 0, .string ByteArray.empty, .string ByteArray.empty, .string ByteArray.empty, .int .i64 0, .string ByteArray.empty, .int .i64 0, .slice none 0 0, .int .i64 0, .slice none 0 0], .agg #[.int .i64 0, .string ByteArray.empty, .int .i64 0, .string ByteArray.empty, .int .i64 0, .string ByteArray.empty, .int .i64 0, .string ByteArray.empty, .string ByteArray.empty, .string ByteArray.empty, .int .i64 0, .string ByteArray.empty, .int .i64 0, .slice none 0 0, .int .i64 0, .slice none 0 0]] rfl (by kernel_rfl) (by kernel_rfl) (by kernel_rfl)
      (OpenSpec.preRow_of_cond 8 hx (by kernel_rfl) (fun k hk => by cases hk) (by kernel_rfl) (laid_met os))) ?_
  intro W base args ds gs before hval hW _ _ hsz hL hS _
  exact contract H enc W base args ds gs before hval hW hsz (tables hL)
theorem said : Rows.ClashOpsSaid :=
  OpenClaim.holds_of_cond 3 Tryd.f3 rfl rfl rfl rfl rfl rfl rfl ⟨rfl, rfl, rfl, rfl, rfl⟩ rfl rfl rfl rfl rfl (by kernel_rfl) Tryd.func3 (by kernel_rfl)
    (of_decide_eq_true (by kernel_rfl)) (by unfold Func.isWrapper; first | (rw [if_pos (by decide +kernel)]; kernel_rfl) | (rw [if_neg (by decide +kernel)]; exact ⟨rfl, rfl⟩))
    (fun os started H enc _ F => by rw [OpenClaim.pre_eq_preRow]; exact lifted os started H enc F)
theorem plain (f : FuncId) (fn : Func) (hf : Tryd.pinned.checked.prog.funcNamed "rafter/rafterlaw15.ClashOps" = some f) (hfn : Tryd.pinned.checked.prog.funcs[f]? = some fn) :
    false = Tryd.pinned.checked.prog.looks [] ∧ ∀ (j : Nat) t, fn.params[j]? = some t → Tryd.pinned.checked.prog.wantsStandIn t = false := by
  obtain rfl : f = 3 := Option.some.inj ((show Tryd.prog.funcNamed "rafter/rafterlaw15.ClashOps" = some 3 by kernel_rfl).symm.trans hf) |>.symm
  obtain rfl : fn = Tryd.f3 := (Option.some.inj (Tryd.func3.symm.trans hfn)).symm
  refine ⟨by kernel_rfl, fun j t ht => ?_⟩
  rw [Tryd.params3] at ht
  have hm := Array.mem_of_getElem? ht
  simp only [List.mem_toArray, List.mem_cons, List.mem_nil_iff, or_false] at hm
  rcases hm with rfl | rfl
  · exact (show Tryd.prog.wantsStandIn 27 = false by kernel_rfl)
  · exact (show Tryd.prog.wantsStandIn 27 = false by kernel_rfl)
theorem proved : Rows.ClashOpsCardSaid :=
  Claim7.holds_tied_plain_at .later [] _ _ _ _ said (fun _ h => by cases h) (by kernel_rfl) (fun _ h => by cases h) clashOps_row_tie rfl ⟨rfl, rfl⟩ (by kernel_rfl) rfl plain (by kernel_rfl)
#print axioms proved
end Go.Proofs.YtmimejckcknjfaaDoor.clashOps
namespace Go.Proofs.YtmimejckcknjfaaDoor
theorem clashOps_holds : Rows.ClashOpsCardSaid := clashOps.proved
end Go.Proofs.YtmimejckcknjfaaDoor
