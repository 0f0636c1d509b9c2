-- Printed by a program of this session (wip/tools/own_print.sh), on the model of the kit's print; Lean checks it.
import Derived.Test.YtloibeefopdhpaaDoorG0
namespace Go.Proofs.YtloibeefopdhpaaDoor.G
open Go.RowKit Go.Proofs.YtloibeefopdhpaaDoorW.PrintWords Go.Proofs.YtloibeefopdhpaaDoorW.PrintLast Go.Proofs.YtloibeefopdhpaaDoorW.PrintMore
attribute [local go_sem] max2_int min2_int max_two min_two max_three min_three max_four min_four   -- for this text's walks alone
set_option linter.unusedVariables false
set_option linter.unusedSimpArgs false

theorem eqA100 (d : Nat) (w : World) (x0 y0 : ByteArray) (x1 y1 : ByteArray) :
    (Op.equalIn (d + 2) 100 (.agg #[.string x0, .string x1]) (.agg #[.string y0, .string y1])).run Tryd.prog w = .ok (x0.toList == y0.toList && (x1.toList == y1.toList)) w := by
  have sz : ∀ w : World, (Go.sizeOf 9).run Tryd.prog w = .ok 1 w := by
    intro w
    obtain ⟨i0, hi0, hz0, hs0, hb0⟩ := info_parts info9
    simp [Go.sizeOf, typeInfo, hi0, hs0]
  have e : ∀ (a b : ByteArray), (Op.equalIn (d + 1) 9 (.string a) (.string b)).run Tryd.prog w = .ok (a.toList == b.toList) w := by
    intro a b
    go_simp
  have p0 : ∀ (a b : ByteArray), (part 9 #[.string a, .string b] 0).run Tryd.prog w = .ok (.string a) w := by intro a b; go_simp
  have p1 : ∀ (a b : ByteArray), (part 9 #[.string a, .string b] 1).run Tryd.prog w = .ok (.string b) w := by intro a b; go_simp
  rw [Op.equalIn]
  simp only [Sem.run_bind, run_underlying Tryd.underlying100, Result.andThen_ok, sz]
  simp [Std.Legacy.Range.forIn_eq_forIn_range', Std.Legacy.Range.size, List.range', p0, p1, e]
  cases h0 : (x0.toList == y0.toList) <;> cases h1 : (x1.toList == y1.toList) <;> simp_all
end Go.Proofs.YtloibeefopdhpaaDoor.G
