/- ClashOps: what the row tells of the arguments' sizes gives what the law's walk asks. -/
import Derived.Test.YtmimejckcknjfaaDoorClashOpsLaw
set_option linter.unusedVariables false
namespace Go.Proofs.YtmimejckcknjfaaDoor.G
open Go.RowKit Go.Proofs.YtmimejckcknjfaaDoorW.PrintWords Go.Proofs.YtmimejckcknjfaaDoor.Plain

theorem rafterlaw15_ClashOps.calls (x0 : TOp) (A0_13 : Option Addr) (c0_13 : Nat) (A0_15 : Option Addr) (c0_15 : Nat) (x1 : TOp) (A1_13 : Option Addr) (c1_13 : Nat) (A1_15 : Option Addr) (c1_15 : Nat) (w : World) (hr0_13 : Kd.C k23 w A0_13 x0.f8.length x0.f8) (hc0_13 : x0.f8.length ≤ c0_13) (hr0_15 : Kd.C Kd.string w A0_15 x0.f10.length x0.f10) (hc0_15 : x0.f10.length ≤ c0_15) (hr1_13 : Kd.C k23 w A1_13 x1.f8.length x1.f8) (hc1_13 : x1.f8.length ≤ c1_13) (hr1_15 : Kd.C Kd.string w A1_15 x1.f10.length x1.f10) (hc1_15 : x1.f10.length ≤ c1_15) (h : OpSized x0 ∧ OpSized x1) (hG : Gl w) :
    Calls Tryd.prog 3 #[.agg #[.int .i64 x0.f0, .string x0.f1.f0, .int .i64 x0.f1.f1, .string x0.f2.f0, .int .i64 x0.f2.f1, .string x0.f3.f0, .int .i64 x0.f3.f1, .string x0.f4, .string x0.f5, .string x0.f6.f0, .int .i64 x0.f6.f1, .string x0.f7.f0, .int .i64 x0.f7.f1, .slice A0_13 x0.f8.length c0_13, .int .i64 x0.f9, .slice A0_15 x0.f10.length c0_15], .agg #[.int .i64 x1.f0, .string x1.f1.f0, .int .i64 x1.f1.f1, .string x1.f2.f0, .int .i64 x1.f2.f1, .string x1.f3.f0, .int .i64 x1.f3.f1, .string x1.f4, .string x1.f5, .string x1.f6.f0, .int .i64 x1.f6.f1, .string x1.f7.f0, .int .i64 x1.f7.f1, .slice A1_13 x1.f8.length c1_13, .int .i64 x1.f9, .slice A1_15 x1.f10.length c1_15]] w fun e w' => e = .returned (.bool true) ∧ Below w.heap.size w w' := by
  exact clashOps_law x0 A0_13 c0_13 A0_15 c0_15 x1 A1_13 c1_13 A1_15 c1_15 w ⟨hr0_13, hc0_13, hr0_15, hc0_15⟩ ⟨hr1_13, hc1_13, hr1_15, hc1_15⟩ h.1 h.2 hG
end Go.Proofs.YtmimejckcknjfaaDoor.G
set_option linter.unusedVariables false
namespace Go.Proofs.YtmimejckcknjfaaDoor.Pure
open Go.RowKit Go.Proofs.YtmimejckcknjfaaDoor.G Go.Proofs.YtmimejckcknjfaaDoor.Plain

def OkId (i : TId) : Prop := i.f0.size ≤ 140737488351232 ∧ (Lit.int .i64 i.f1).wf = true
def OkOp (x : TOp) : Prop := (Lit.int .i64 x.f0).wf = true ∧ OkId x.f1 ∧ OkId x.f2 ∧ OkId x.f3 ∧ x.f4.size ≤ 140737488351232 ∧ x.f5.size ≤ 140737488351232 ∧ OkId x.f6 ∧ OkId x.f7 ∧ ((∀ i ∈ x.f8, OkId i) ∧ x.f8.length * 24 ≤ 140737488351232 ∧ x.f8.length ≤ 9223372036854775807) ∧ (Lit.int .i64 x.f9).wf = true ∧ ((∀ s ∈ x.f10, s.size ≤ 140737488351232) ∧ x.f10.length * 16 ≤ 140737488351232 ∧ x.f10.length ≤ 9223372036854775807)
theorem sized_of {x : TOp} (h : OkOp x) : OpSized x := by
  obtain ⟨_, ⟨h1, _⟩, ⟨h2, _⟩, ⟨h3, _⟩, h4, h5, ⟨h6, _⟩, ⟨h7, _⟩, ⟨h8, l8, _⟩, _⟩ := h
  exact ⟨by omega, by omega, by omega, by omega, by omega, by omega, by omega, fun i hi => by have := (h8 i hi).1; omega, by omega⟩
theorem ClashOps (x0 x1 : TOp) (ok0 : OkOp x0) (ok1 : OkOp x1) : OpSized x0 ∧ OpSized x1 := ⟨sized_of ok0, sized_of ok1⟩
end Go.Proofs.YtmimejckcknjfaaDoor.Pure
