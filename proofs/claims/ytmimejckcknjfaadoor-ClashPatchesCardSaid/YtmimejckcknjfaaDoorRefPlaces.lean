/- R15.Places: the walk. -/
import Derived.Test.YtmimejckcknjfaaDoorClashRow
set_option linter.unusedVariables false
set_option linter.unusedSimpArgs false
namespace Go.Proofs.YtmimejckcknjfaaDoor.G
open Go.RowKit Go.Proofs.YtmimejckcknjfaaDoorW.PrintWords Go.Proofs.YtmimejckcknjfaaDoorW.PrintLast Go.Proofs.YtmimejckcknjfaaDoorW.PrintMore Go.Proofs.YtmimejckcknjfaaDoor.Plain

abbrev TPlace := S38
/-- The places of an operation, by the reference. -/
def plR (x : TOp) : List TPlace := if x.f0 = 4 then [⟨x.f2, x.f4⟩, ⟨x.f3, x.f5⟩] else if 1 ≤ x.f0 ∧ x.f0 ≤ 4 then [⟨x.f2, x.f4⟩] else []
theorem R_place1 {W : World} {base : Nat} (hb : base ≤ W.heap.size) (a : S23) (b : ByteArray) : Kd.R k38 38 (W.alloc (.cells #[.string a.f0, .int .i64 a.f1, .string b] 38)) base (fun _ => True) (.slice (some ⟨W.heap.size, 0, none⟩) 1 1) [⟨a, b⟩] :=
  have h2 : (W.alloc (.cells #[.string a.f0, .int .i64 a.f1, .string b] 38)).ownsRow base 38 3 (.slice (some ⟨W.heap.size, 0, none⟩) 1 1) 1 [.string a.f0, .int .i64 a.f1, .string b] := by simpa using World.ownsRow_lit (base := base) (e := 38) (size := 3) W #[.string a.f0, .int .i64 a.f1, .string b] 1 hb (by simp [maxLen]) (by simp)
  ⟨fun _ _ => trivial, _, h2, Reps.c3 (k38_mkM _ _ _ ⟨a, b⟩) (Reps.none _ _)⟩
set_option maxHeartbeats 4000000 in
set_option maxRecDepth 100000 in
theorem r15_Places.calls (x : TOp) (A : Option Addr) (c : Nat) (B : Option Addr) (d : Nat) (w : World) :
    Calls Tryd.prog 8 #[opV x A c B d] w fun e w' => ∃ v, e = .returned v ∧ Kd.R k38 38 w' w.heap.size (fun _ => True) v (plR x) ∧ Below w.heap.size w w' := by
  obtain ⟨r, hr⟩ : ∃ r, r = plR x := ⟨_, rfl⟩
  rw [← hr]
  unfold plR at hr
  go_enter Tryd.func8, Tryd.ntmps8
  go_upto_region 1 with (fail)
  obtain ⟨W, hW⟩ : ∃ W, W = w.alloc (.cells (opCs x A c B d) 27) := ⟨_, rfl⟩
  have HX : Aside0 (W.heap[w.heap.size]? = some (.cells (opCs x A c B d) 27 (0, 0))) := ⟨by rw [hW]; exact heap_alloc_new w _⟩
  have HB : Aside0 (Below w.heap.size w W) := ⟨by rw [hW]; exact below_alloc (Below.refl _ _) _⟩
  rw [← hW]
  clear hW
  obtain ⟨x0, -, -, x3, x4, x5, x6, x7, x8, -⟩ := op_cells HX.out
  by_cases h1 : x.f0 < 1
  case pos =>
    rw [if_neg (by omega), if_neg (by omega)] at hr
    subst hr
    have e1 : (x.f0 < 1) = True := eq_true h1
    clear h1
    go_wp2
    go_ret
    exact ⟨_, rfl, Kd.R_nil _ _ _ _ _, HB.out⟩
  by_cases h2 : x.f0 > 4
  case pos =>
    rw [if_neg (by omega), if_neg (by omega)] at hr
    subst hr
    have e1 : (x.f0 < 1) = False := eq_false h1
    have e2 : (x.f0 > 4) = True := eq_true h2
    have e3 : (4 < x.f0) = True := eq_true h2
    clear h1 h2
    go_wp2
    go_ret
    exact ⟨_, rfl, Kd.R_nil _ _ _ _ _, HB.out⟩
  have e1 : (x.f0 < 1) = False := eq_false h1
  have e2 : (x.f0 > 4) = False := eq_false h2
  have e3 : (4 < x.f0) = False := eq_false h2
  have HI := Aside0.mk (R_place1 (below_size HB.out) x.f2 x.f4)
  go_upto_region 4 with (fail)
  have HX1 := Aside0.mk (blk_alloc HX.out (.cells #[.string x.f2.f0, .int .i64 x.f2.f1, .string x.f4] 38))
  have HB1 := Aside0.mk (below_alloc HB.out (.cells #[.string x.f2.f0, .int .i64 x.f2.f1, .string x.f4] 38))
  generalize hV : W.alloc (.cells #[.string x.f2.f0, .int .i64 x.f2.f1, .string x.f4] 38) = V at *
  generalize W.heap.size = n at *
  clear x0 x3 x4 x5 x6 x7 x8 HX HB hV
  obtain ⟨x0, -, -, x3, x4, x5, x6, x7, x8, -⟩ := op_cells HX1.out
  cases h4 : x.f0 == 4
  case false =>
    rw [if_neg (by intro h; rw [h] at h4; cases h4), if_pos (by omega)] at hr
    subst hr
    clear h1 h2
    go_wp2
    go_ret
    exact ⟨_, rfl, HI.out, HB1.out⟩
  rw [if_pos (eq_of_beq h4)] at hr
  subst hr
  clear h1 h2
  have HI2 := Aside0.mk (R_place1 (below_size HB1.out) x.f3 x.f5)
  go_wp2_with (first | ((with_reducible refine gate_builtin (b := .append) (xs := #[.tmp 21, .tmp 27]) rfl ?_); at_builtin; refine Kd.R_append_rows k38 (w0 := w) w.heap.size rfl (.tmp 21) (.tmp 27) 33 38 (.agg #[.string ⟨#[]⟩, .int .i64 0, .string ⟨#[]⟩]) 40 rfl Tryd.underlying33 info38 rfl (by decide) (by omega) _ [⟨x.f2, x.f4⟩] [⟨x.f3, x.f5⟩] _ _ _ (fun _ => True) (fun _ => False) rfl rfl (Kd.R_alloc HI.out (.cells #[.string x.f3.f0, .int .i64 x.f3.f1, .string x.f5] 38)) (Kd.R_reads' HI2.out).2.2 (fun _ _ h => by obtain rfl := k38_open h; exact k38_mkM _ _ _ _) (fun _ h => h.elim) (fun _ _ => trivial) (below_alloc HB1.out (.cells #[.string x.f3.f0, .int .i64 x.f3.f1, .string x.f5] 38)) (below_size (below_alloc HB1.out (.cells #[.string x.f3.f0, .int .i64 x.f3.f1, .string x.f5] 38))) (by simp) ?_; intro v5 w5 ho hb hg hat; have HR2 := Aside0.mk ho; have HB2 := Aside0.mk hb; clear ho hb hg hat) | fail)
  go_ret
  exact ⟨_, rfl, HR2.out, HB2.out⟩
end Go.Proofs.YtmimejckcknjfaaDoor.G
