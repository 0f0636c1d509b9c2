/- ClashPatches: what the row tells of the arguments' sizes gives what the law's walk asks. -/
import Derived.Test.YtmimejckcknjfaaDoorClashPatchesLaw
import Derived.Test.YtmimejckcknjfaaDoorClashOpsLaw
set_option linter.unusedVariables false
namespace Go.Proofs.YtmimejckcknjfaaDoor.G
open Go.RowKit Go.Proofs.YtmimejckcknjfaaDoorW.PrintWords Go.Proofs.YtmimejckcknjfaaDoor.Plain

structure S42 where
  f0 : ByteArray
  f1 : List ByteArray
  f2 : List S27
def k42 : Kd S42 := Kd.iso (Kd.pair Kd.string (Kd.pair (Kd.slice 9 Kd.string) (Kd.slice 27 k27))) (fun x : S42 => (x.f0, x.f1, x.f2))
theorem k42_open {w : World} {x : S42} {cs : List Value} (h : k42.K w x cs) : ∃ A1 c1 A2 c2, cs = [.string x.f0, .slice A1 x.f1.length c1, .slice A2 x.f2.length c2] ∧ x.f1.length ≤ c1 ∧ Kd.string.C w A1 x.f1.length x.f1 ∧ x.f2.length ≤ c2 ∧ k27.C w A2 x.f2.length x.f2 := by
  obtain ⟨_, _, rfl, rfl, ⟨_, _, rfl, ⟨A1, c1, rfl, l1, g1⟩, ⟨A2, c2, rfl, l2, g2⟩⟩⟩ := h
  exact ⟨A1, c1, A2, c2, rfl, l1, g1, l2, g2⟩
theorem rafterlaw15_ClashPatches.calls (x0 : S42) (A0_1 : Option Addr) (c0_1 : Nat) (A0_2 : Option Addr) (c0_2 : Nat) (x1 : S42) (A1_1 : Option Addr) (c1_1 : Nat) (A1_2 : Option Addr) (c1_2 : Nat) (w : World) (hr0_1 : Kd.C Kd.string w A0_1 x0.f1.length x0.f1) (hc0_1 : x0.f1.length ≤ c0_1) (hr0_2 : Kd.C k27 w A0_2 x0.f2.length x0.f2) (hc0_2 : x0.f2.length ≤ c0_2) (hr1_1 : Kd.C Kd.string w A1_1 x1.f1.length x1.f1) (hc1_1 : x1.f1.length ≤ c1_1) (hr1_2 : Kd.C k27 w A1_2 x1.f2.length x1.f2) (hc1_2 : x1.f2.length ≤ c1_2) (h : (∀ x ∈ x0.f2, OpSized x) ∧ ∀ x ∈ x1.f2, OpSized x) (hG : Gl w) :
    Calls Tryd.prog 4 #[.agg #[.string x0.f0, .slice A0_1 x0.f1.length c0_1, .slice A0_2 x0.f2.length c0_2], .agg #[.string x1.f0, .slice A1_1 x1.f1.length c1_1, .slice A1_2 x1.f2.length c1_2]] w fun e w' => e = .returned (.bool true) ∧ Below w.heap.size w w' := by
  exact clashPatches_law x0.f0 x1.f0 A0_1 x0.f1.length c0_1 A0_2 c0_2 x0.f2 A1_1 x1.f1.length c1_1 A1_2 c1_2 x1.f2 w hr0_2 hr1_2 h.1 h.2 hG
end Go.Proofs.YtmimejckcknjfaaDoor.G
set_option linter.unusedVariables false
namespace Go.Proofs.YtmimejckcknjfaaDoor.Pure
open Go.RowKit Go.Proofs.YtmimejckcknjfaaDoor.G Go.Proofs.YtmimejckcknjfaaDoor.Plain

def OkId (i : TId) : Prop := i.f0.size ≤ 140737488351232 ∧ (Lit.int .i64 i.f1).wf = true
def OkOp (x : TOp) : Prop := (Lit.int .i64 x.f0).wf = true ∧ OkId x.f1 ∧ OkId x.f2 ∧ OkId x.f3 ∧ x.f4.size ≤ 140737488351232 ∧ x.f5.size ≤ 140737488351232 ∧ OkId x.f6 ∧ OkId x.f7 ∧ ((∀ i ∈ x.f8, OkId i) ∧ x.f8.length * 24 ≤ 140737488351232 ∧ x.f8.length ≤ 9223372036854775807) ∧ (Lit.int .i64 x.f9).wf = true ∧ ((∀ s ∈ x.f10, s.size ≤ 140737488351232) ∧ x.f10.length * 16 ≤ 140737488351232 ∧ x.f10.length ≤ 9223372036854775807)
theorem sized_of {x : TOp} (h : OkOp x) : OpSized x := by
  obtain ⟨_, ⟨h1, _⟩, ⟨h2, _⟩, ⟨h3, _⟩, h4, h5, ⟨h6, _⟩, ⟨h7, _⟩, ⟨h8, l8, _⟩, _⟩ := h
  exact ⟨by omega, by omega, by omega, by omega, by omega, by omega, by omega, fun i hi => by have := (h8 i hi).1; omega, by omega⟩
theorem ClashOps (x0 x1 : TOp) (ok0 : OkOp x0) (ok1 : OkOp x1) : OpSized x0 ∧ OpSized x1 := ⟨sized_of ok0, sized_of ok1⟩
def OkPatch (x : S42) : Prop := x.f0.size ≤ 140737488351232 ∧ ((∀ s ∈ x.f1, s.size ≤ 140737488351232) ∧ x.f1.length * 16 ≤ 140737488351232 ∧ x.f1.length ≤ 9223372036854775807) ∧ ((∀ o ∈ x.f2, OkOp o) ∧ x.f2.length * 216 ≤ 140737488351232 ∧ x.f2.length ≤ 9223372036854775807)
theorem ClashPatches (x0 x1 : S42) (ok0 : OkPatch x0) (ok1 : OkPatch x1) : (∀ x ∈ x0.f2, OpSized x) ∧ ∀ x ∈ x1.f2, OpSized x := ⟨fun x hx => sized_of (ok0.2.2.1 x hx), fun x hx => sized_of (ok1.2.2.1 x hx)⟩
end Go.Proofs.YtmimejckcknjfaaDoor.Pure
