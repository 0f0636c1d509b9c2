/- The row of CodeLays: for every number, text and list of texts the call returns true, and each argument reads as it read before. -/
import Derived.Test.YtigpnhgheameoaaRows
import Derived.Test.YtigpnhgheameoaaPureCodeLays
import Derived.WalkKit
import Derived.ProofKit
import Derived.OpenShut
import Derived.ShutString
import Derived.ChangeOld
import Derived.Below
import Derived.SizedLaws
namespace Go.Proofs.Ytigpnhgheameoaa.codeLays
open Go.ChangeShapes Go.WideShapes Go.ChangeAt Go.RowKit Go.Proofs.Ytigpnhgheameoaa.Row Go.Proofs.YtigpnhgheameoaaW.PrintWords
set_option linter.unusedVariables false
theorem own : ownKnob Try.prog.godebug = none := by kernel_rfl
theorem laidOut : laidOutB Try.prog = true := by kernel_rfl
set_option maxRecDepth 100000 in
theorem lifted (os : Os) (started : os.Started) (H : Type) (enc : TypeId × Value → H) :
    ReturnsInHanded {} Try.checked os 3 .any (Rows.codeLaysSpec.pre6 enc Try.prog Try.f3 Rows.codeLaysRow.domain false) (Rows.codeLaysSpec.post enc Try.prog Try.f3 false true false false) := by
  refine returnsInHanded_of_change_sized (C := Try.checked) own started (by kernel_rfl) Try.func3
    (ChangeSpec.witness6 (enc := enc) (C := Try.checked) false ⟨#[], #[.int .u64 0, .string ByteArray.empty, .slice none 0 0], []⟩ 8 (by kernel_rfl) (by kernel_rfl) (by kernel_rfl) (by kernel_rfl)) ?_
  intro W base args ds gs before hval0 hW hcnd hsz0 _
  have hsz : (DataW.weightsEach Try.prog (Try.f3.params.toList ++ Rows.codeLaysSpec.plain.varTypes Try.prog) (ds ++ gs)).all (· ≤ reachBytes) = true := hsz0
  have hval : ∀ (j : Nat) t v, Try.f3.params[j]? = some t → args[j]? = some v → Value.okWide Try.prog W .any base t v := hval0
  have hW' := hW
  obtain ⟨p, q, hA0, hV, rfl, hfz, hnd⟩ := hW
  have hA : DataW.TrodAll enc Try.prog W 0 (fun _ => true) true Try.f3.params.toList args.toList ds p := hA0
  rw [Try.params3] at hA hval hsz
  obtain ⟨v0, vs0, d0, ds0, p0, q0, hargs, rfl, rfl, h0, r0⟩ := trodAll_cons hA
  obtain ⟨v1, vs1, d1, ds1, p1, q1, rfl, rfl, rfl, h1, r1⟩ := trodAll_cons r0
  obtain ⟨v2, vs2, d2, ds2, p2, q2, rfl, rfl, rfl, h2, r2⟩ := trodAll_cons r1
  obtain ⟨rfl, rfl, rfl⟩ := trodAll_nil r2
  obtain rfl : args = #[v0, v1, v2] := by cases args; simp_all
  obtain ⟨rfl, rfl⟩ := trodVars_none hV
  have o0 := opens_int (P := Try.prog) (T := 22) Try.underlying22
  have o1 := opens_string (P := Try.prog) (T := 9) Try.underlying9
  have o2 := opens_slice (P := Try.prog) (T := 23) (B := 16) Try.underlying23 o1 (by kernel_rfl) (by kernel_rfl)
  obtain ⟨a0, m0, ok0⟩ := open_arg o0 h0 (arg_weights hsz (j := 0) (t := 22) rfl rfl)
  obtain ⟨a1, m1, ok1⟩ := open_arg o1 h1 (arg_weights hsz (j := 1) (t := 9) rfl rfl)
  obtain ⟨l2, m2, ok2⟩ := open_arg o2 h2 (arg_weights hsz (j := 2) (t := 23) rfl rfl)
  have e0 := int_arg (okWide_int Try.underlying22 (hval 0 22 v0 rfl rfl)) m0
  have e1 := string_arg (okWide_string Try.underlying9 (hval 1 9 v1 rfl rfl)) m1
  obtain ⟨A2, c2, e2, hc2, hr2⟩ := slice_arg (okWide_slice Try.underlying23 (hval 2 23 v2 rfl rfl)) m2
  clear hA0 hval0 hsz0 hsz hval hA hargs m0 m1 m2 o0 o1 o2
  obtain ⟨k, hk⟩ := Pure.CodeLays a0 a1 l2 ok0 ok1 ok2
  have hcall := G.rafterlaw01_CodeLays.calls k a0 a1 A2 c2 l2 true W hr2 hc2 hk
  rw [← e0, ← e1, ← e2] at hcall
  refine hcall.mono fun e W' ⟨he, bel⟩ => ?_
  subst he
  exact ⟨_, rfl, _, _, _, [], _, [], hW', trodAll_mk1 (shut_bool Try.underlying4 _), (trodAll_cons_mk (Below.trod laidOut (by kernel_rfl) (of_decide_eq_true (by kernel_rfl)) h0 bel (trod_blocks h0)) (trodAll_cons_mk (Below.trod laidOut (by kernel_rfl) (of_decide_eq_true (by kernel_rfl)) h1 bel (trod_blocks h1)) (trodAll_cons_mk (Below.trod laidOut (by kernel_rfl) (of_decide_eq_true (by kernel_rfl)) h2 bel (trod_blocks h2)) trodAll_mk0))), rfl, bel.frame _, fun h => by cases h⟩
theorem over : Rows.codeLaysRow.holds Try.pinned (OpenSpec.ofChange Rows.codeLaysSpec) :=
  OpenClaim.holds_of_wide 3 Try.f3 rfl rfl rfl rfl rfl rfl rfl ⟨rfl, rfl, rfl, rfl, rfl⟩ rfl rfl rfl rfl rfl (by kernel_rfl) Try.func3 (by kernel_rfl)
    (of_decide_eq_true (by kernel_rfl)) (by unfold Func.isWrapper; first | (rw [if_pos (by decide +kernel)]; kernel_rfl) | (rw [if_neg (by decide +kernel)]; exact ⟨rfl, rfl⟩))
    (fun os started H enc _ => lifted os started H enc)
theorem proved : Rows.CodeLaysSaid := over
#print axioms proved
end Go.Proofs.Ytigpnhgheameoaa.codeLays
namespace Go.Proofs.Ytigpnhgheameoaa
theorem codeLays_holds : Rows.CodeLaysSaid := codeLays.proved
end Go.Proofs.Ytigpnhgheameoaa
