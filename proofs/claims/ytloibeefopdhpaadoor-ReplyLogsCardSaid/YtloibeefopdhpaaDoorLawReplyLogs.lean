/- the log of any replies, and back; the replies of any text, or that it is none; how many there are of each error -/
import Derived.Test.YtloibeefopdhpaaDoorRows
import Derived.Test.YtloibeefopdhpaaDoorCards
import Derived.Test.YtloibeefopdhpaaDoorTie
import Derived.Test.YtloibeefopdhpaaDoorPureReplyLogs
import Derived.Test.YtloibeefopdhpaaDoorRow
import Derived.WalkKit
import Derived.ProofKit
import Derived.OpenShut
import Derived.ShutString
import Derived.ChangeOld
import Derived.Below
import Derived.SizedLaws
import Derived.Deep.DeepHandedRow
import Derived.Lib.LaidTab
namespace Go.Proofs.YtloibeefopdhpaaDoor.replyLogs
open Go.ChangeShapes Go.WideShapes Go.ChangeAt Go.RowKit Go.Proofs.YtloibeefopdhpaaDoor Go.Proofs.YtloibeefopdhpaaDoor.Row Go.Proofs.YtloibeefopdhpaaDoorW.PrintWords
set_option linter.unusedVariables false
theorem own : ownKnob Tryd.prog.godebug = none := by kernel_rfl
theorem laidOut : laidOutB Tryd.prog = true := by kernel_rfl
set_option maxRecDepth 100000 in
theorem contract (H : Type) (enc : TypeId × Value → H) (W : World) (base : Nat) (args : Array Value) (ds gs : List (DataW H)) (before : List MemPlace)
    (hval0 : ∀ (j : Nat) t v, Tryd.f8.params[j]? = some t → args[j]? = some v → Value.okWide Tryd.prog W .any base t v)
    (hW : DataW.Whole enc Tryd.prog Tryd.f8.params.toList Rows.replyLogsSpec.vars false W args.toList ds gs before)
    (hsz0 : (DataW.weightsEach Tryd.prog (Tryd.f8.params.toList ++ Rows.replyLogsSpec.plain.varTypes Tryd.prog) (ds ++ gs)).all (· ≤ reachBytes) = true) :
    Calls Tryd.prog 8 args W fun e W' => ∃ v, e = .returned v ∧ Rows.replyLogsSpec.post enc Tryd.prog Tryd.f8 false true false false W args v W' := by
  have hsz := hsz0
  have hval := hval0
  have hW' := hW
  obtain ⟨p, q, hA0, hV, rfl, hfz, hnd⟩ := hW
  have hA : DataW.TrodAll enc Tryd.prog W 0 (fun _ => true) true Tryd.f8.params.toList args.toList ds p := hA0
  rw [Tryd.params8] at hA hval hsz
  obtain ⟨v0, vs0, d0, ds0, p0, q0, hargs, rfl, rfl, h0, r0⟩ := trodAll_cons hA
  obtain ⟨v1, vs1, d1, ds1, p1, q1, rfl, rfl, rfl, h1, r1⟩ := trodAll_cons r0
  obtain ⟨rfl, rfl, rfl⟩ := trodAll_nil r1
  obtain rfl : args = #[v0, v1] := by cases args; simp_all
  obtain ⟨rfl, rfl⟩ := trodVars_none hV
  obtain ⟨x0, m0, ok0⟩ := open_arg (opens_slice (P := Tryd.prog) (T := 56) (B := 104) Tryd.underlying56 (opens_struct (P := Tryd.prog) (T := 54) (fun x : G.S54 => (x.f0, x.f1, x.f2, x.f3, x.f4)) (fun a => (⟨a.1, a.2.1, a.2.2.1, a.2.2.2.1, a.2.2.2.2⟩ : G.S54)) (fun _ => rfl) Tryd.underlying54 (by kernel_rfl) (opensF_cons (opens_int (P := Tryd.prog) (T := 24) Tryd.underlying24) rfl (by kernel_rfl) (opensF_cons (opens_slice (P := Tryd.prog) (T := 28) (B := 16) Tryd.underlying28 (opens_string (P := Tryd.prog) (T := 9) Tryd.underlying9) (by kernel_rfl) (by kernel_rfl)) rfl (by kernel_rfl) (opensF_cons (opens_slice (P := Tryd.prog) (T := 50) (B := 32) Tryd.underlying50 (opens_array2 (P := Tryd.prog) (T := 100) (fun x : G.S100 => (x.f0, x.f1)) (fun a => (⟨a.1, a.2⟩ : G.S100)) (fun _ => rfl) Tryd.underlying100 (by kernel_rfl) (by kernel_rfl) (opens_string (P := Tryd.prog) (T := 9) Tryd.underlying9)) (by kernel_rfl) (by kernel_rfl)) rfl (by kernel_rfl) (opensF_cons (opens_slice (P := Tryd.prog) (T := 51) (B := 96) Tryd.underlying51 (opens_struct (P := Tryd.prog) (T := 108) (fun x : G.S108 => (x.f0, x.f1, x.f2, x.f3, x.f4, x.f5)) (fun a => (⟨a.1, a.2.1, a.2.2.1, a.2.2.2.1, a.2.2.2.2.1, a.2.2.2.2.2⟩ : G.S108)) (fun _ => rfl) Tryd.underlying108 (by kernel_rfl) (opensF_cons (opens_int (P := Tryd.prog) (T := 3) Tryd.underlying3) rfl (by kernel_rfl) (opensF_cons (opens_string (P := Tryd.prog) (T := 9) Tryd.underlying9) rfl (by kernel_rfl) (opensF_cons (opens_string (P := Tryd.prog) (T := 9) Tryd.underlying9) rfl (by kernel_rfl) (opensF_cons (opens_int (P := Tryd.prog) (T := 3) Tryd.underlying3) rfl (by kernel_rfl) (opensF_cons (opens_slice (P := Tryd.prog) (T := 28) (B := 16) Tryd.underlying28 (opens_string (P := Tryd.prog) (T := 9) Tryd.underlying9) (by kernel_rfl) (by kernel_rfl)) rfl (by kernel_rfl) (opensF_one (opens_slice (P := Tryd.prog) (T := 28) (B := 16) Tryd.underlying28 (opens_string (P := Tryd.prog) (T := 9) Tryd.underlying9) (by kernel_rfl) (by kernel_rfl)) rfl (by kernel_rfl)))))))) (by kernel_rfl) (by kernel_rfl)) rfl (by kernel_rfl) (opensF_one (opens_slice (P := Tryd.prog) (T := 52) (B := 48) Tryd.underlying52 (opens_struct (P := Tryd.prog) (T := 102) (fun x : G.S102 => (x.f0, x.f1, x.f2)) (fun a => (⟨a.1, a.2.1, a.2.2⟩ : G.S102)) (fun _ => rfl) Tryd.underlying102 (by kernel_rfl) (opensF_cons (opens_string (P := Tryd.prog) (T := 9) Tryd.underlying9) rfl (by kernel_rfl) (opensF_cons (opens_bool (P := Tryd.prog) (T := 4) Tryd.underlying4) rfl (by kernel_rfl) (opensF_one (opens_slice (P := Tryd.prog) (T := 28) (B := 16) Tryd.underlying28 (opens_string (P := Tryd.prog) (T := 9) Tryd.underlying9) (by kernel_rfl) (by kernel_rfl)) rfl (by kernel_rfl))))) (by kernel_rfl) (by kernel_rfl)) rfl (by kernel_rfl))))))) (by kernel_rfl) (by kernel_rfl)) h0 (arg_weights hsz (j := 0) (t := 56) rfl rfl)
  obtain ⟨x1, m1, ok1⟩ := open_arg (opens_string (P := Tryd.prog) (T := 9) Tryd.underlying9) h1 (arg_weights hsz (j := 1) (t := 9) rfl rfl)
  obtain ⟨A0, c0, e0, hc0, hr0⟩ := slice_arg (okWide_slice Tryd.underlying56 (hval 0 56 v0 rfl rfl)) m0
  have e1 := string_arg (okWide_string Tryd.underlying9 (hval 1 9 v1 rfl rfl)) m1
  obtain ⟨k, hk⟩ := Pure.ReplyLogs x0 x1 ok0 ok1
  have hcall := G.rafterlaw36_ReplyLogs.calls k A0 c0 x0 x1 true W hr0 hc0 hk
  clear hA0 hval0 hsz0 hsz hval hA hargs m0 m1
  rw [← e0, ← e1] at hcall
  refine hcall.mono fun e W' ⟨he, bel⟩ => ?_
  subst he
  exact ⟨_, rfl, _, _, _, [], _, [], hW', trodAll_mk1 (shut_bool Tryd.underlying4 _), (trodAll_cons_mk (Below.trod laidOut (by kernel_rfl) (of_decide_eq_true (by kernel_rfl)) h0 bel (trod_blocks h0)) (trodAll_cons_mk (Below.trod laidOut (by kernel_rfl) (of_decide_eq_true (by kernel_rfl)) h1 bel (trod_blocks h1)) trodAll_mk0)), rfl, bel.frame _, fun h => by cases h⟩
/-- A datum's cells. -/
def cellsOf : DataW Unit → List Value
  | .lit (.int k n) => [.int k n]
  | .agg l => cellsAll l
  | _ => []
where cellsAll : List (DataW Unit) → List Value
  | [] => []
  | d :: l => cellsOf d ++ cellsAll l
noncomputable def laidWorld (os : Os) : World :=
  { World.holding Tryd.prog os ⟨#[], #[], []⟩ with heap := (((World.holding Tryd.prog os ⟨#[], #[], []⟩).heap).modify 2 (fun o => match o with | .cells _ t frozen => .cells (cellsOf Rows.laid_unicode_utf8_acceptRanges).toArray t frozen | o => o)).modify 1 (fun o => match o with | .cells _ t frozen => .cells (cellsOf Rows.laid_unicode_utf8_first).toArray t frozen | o => o) }
theorem laid_met (os : Os) : laidMet Tryd.prog Rows.replyLogsRow.laid ((laidWorld os).forCall (fun _ _ => 0) ⟨#[], #[.slice none 0 0, .string ByteArray.empty], []⟩).memory :=
  laidMet_of_run' 8 (by kernel_rfl) (by kernel_rfl)
theorem reads (os : Os) {H : Type} (enc : TypeId × Value → H) : ∃ places, DataW.whole enc Tryd.prog ((laidWorld os).forCall (fun _ _ => 0) ⟨#[], #[.slice none 0 0, .string ByteArray.empty], []⟩).memory Tryd.f8.params.toList Rows.replyLogsSpec.vars false (#[.slice none 0 0, .string ByteArray.empty] : Array Value).toList 8 = some ([.nil, .lit (.string [])], [], places) :=
  ⟨[], by kernel_rfl⟩
set_option maxRecDepth 100000 in
theorem lifted (os : Os) (started : os.Started) (H : Type) (enc : TypeId × Value → H) (F : Stop.Interp) :
    ReturnsInHanded {} Tryd.checked os 8 .any ((OpenSpec.ofChange Rows.replyLogsSpec).preRow enc Tryd.prog Tryd.f8 Rows.replyLogsRow.domain false Rows.replyLogsRow.laid) (((OpenSpec.ofChange Rows.replyLogsSpec).at F).post enc Tryd.prog Tryd.f8 false true false false) := by
  obtain ⟨places, hx⟩ := reads os enc
  refine returnsInHanded_of_row (C := Tryd.checked) (s := OpenSpec.ofChange Rows.replyLogsSpec) own started (by kernel_rfl) Tryd.func8
    (witness_row_at (enc := enc) (C := Tryd.checked) false (laidWorld os) #[.slice none 0 0, .string ByteArray.empty] rfl (by kernel_rfl) (by kernel_rfl) (by kernel_rfl)
      (OpenSpec.preRow_of_cond 8 hx (by kernel_rfl) (fun k hk => by cases hk) (by kernel_rfl) (laid_met os))) ?_
  intro W base args ds gs before hval hW _ _ hsz hL hS _
  exact contract H enc W base args ds gs before hval hW hsz
theorem said : Rows.ReplyLogsSaid :=
  OpenClaim.holds_of_cond 8 Tryd.f8 rfl rfl rfl rfl rfl rfl rfl ⟨rfl, rfl, rfl, rfl, rfl⟩ rfl rfl rfl rfl rfl (by kernel_rfl) Tryd.func8 (by kernel_rfl)
    (of_decide_eq_true (by kernel_rfl)) (by unfold Func.isWrapper; first | (rw [if_pos (by decide +kernel)]; kernel_rfl) | (rw [if_neg (by decide +kernel)]; exact ⟨rfl, rfl⟩))
    (fun os started H enc _ F => by rw [OpenClaim.pre_eq_preRow]; exact lifted os started H enc F)
theorem plain (f : FuncId) (fn : Func) (hf : Tryd.pinned.checked.prog.funcNamed "rafter/rafterlaw36.ReplyLogs" = some f) (hfn : Tryd.pinned.checked.prog.funcs[f]? = some fn) :
    false = Tryd.pinned.checked.prog.looks [] ∧ ∀ (j : Nat) t, fn.params[j]? = some t → Tryd.pinned.checked.prog.wantsStandIn t = false := by
  obtain rfl : f = 8 := Option.some.inj ((show Tryd.prog.funcNamed "rafter/rafterlaw36.ReplyLogs" = some 8 by kernel_rfl).symm.trans hf) |>.symm
  obtain rfl : fn = Tryd.f8 := (Option.some.inj (Tryd.func8.symm.trans hfn)).symm
  refine ⟨by kernel_rfl, fun j t ht => ?_⟩
  rw [Tryd.params8] at ht
  have hm := Array.mem_of_getElem? ht
  simp only [List.mem_toArray, List.mem_cons, List.mem_nil_iff, or_false] at hm
  rcases hm with rfl | rfl
  · exact (show Tryd.prog.wantsStandIn 56 = false by kernel_rfl)
  · exact (show Tryd.prog.wantsStandIn 9 = false by kernel_rfl)
theorem proved : Rows.ReplyLogsCardSaid :=
  Claim7.holds_tied_plain_at .later [] _ _ _ _ said (fun _ h => by cases h) (by kernel_rfl) (fun _ h => by cases h) replyLogs_row_tie rfl ⟨rfl, rfl⟩ (by kernel_rfl) rfl plain (by kernel_rfl)
#print axioms proved
end Go.Proofs.YtloibeefopdhpaaDoor.replyLogs
namespace Go.Proofs.YtloibeefopdhpaaDoor
theorem replyLogs_holds : Rows.ReplyLogsCardSaid := replyLogs.proved
end Go.Proofs.YtloibeefopdhpaaDoor
