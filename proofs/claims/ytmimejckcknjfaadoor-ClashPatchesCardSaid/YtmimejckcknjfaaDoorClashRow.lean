/- An operation that lies in a row: its cells; a variable that it is put into; the pure texts and places of operations. -/
import Derived.Test.YtmimejckcknjfaaDoorClashBase
import Derived.Laws.Rows
import Derived.Laws.Tables
import Derived.Laws.CopyOwn
set_option linter.unusedVariables false
set_option linter.unusedSimpArgs false
namespace Go.Proofs.YtmimejckcknjfaaDoor.G
open Go.RowKit Go.Proofs.YtmimejckcknjfaaDoorW.PrintWords Go.Proofs.YtmimejckcknjfaaDoorW.PrintLast Go.Proofs.YtmimejckcknjfaaDoorW.PrintMore Go.Proofs.YtmimejckcknjfaaDoor.Plain

abbrev TOp := S27
/-- The cells of an operation at an address. -/
structure OpCells (w : World) (a : Addr) (x : TOp) (A : Option Addr) (c : Nat) (B : Option Addr) (d : Nat) : Prop where mk ::
  c0 : w.cell? a = some (.int .i64 x.f0)
  c1 : w.cell? ⟨a.block, a.off + 1, none⟩ = some (.string x.f1.f0)
  c2 : w.cell? ⟨a.block, a.off + 2, none⟩ = some (.int .i64 x.f1.f1)
  c3 : w.cell? ⟨a.block, a.off + 3, none⟩ = some (.string x.f2.f0)
  c4 : w.cell? ⟨a.block, a.off + 4, none⟩ = some (.int .i64 x.f2.f1)
  c5 : w.cell? ⟨a.block, a.off + 5, none⟩ = some (.string x.f3.f0)
  c6 : w.cell? ⟨a.block, a.off + 6, none⟩ = some (.int .i64 x.f3.f1)
  c7 : w.cell? ⟨a.block, a.off + 7, none⟩ = some (.string x.f4)
  c8 : w.cell? ⟨a.block, a.off + 8, none⟩ = some (.string x.f5)
  c9 : w.cell? ⟨a.block, a.off + 9, none⟩ = some (.string x.f6.f0)
  c10 : w.cell? ⟨a.block, a.off + 10, none⟩ = some (.int .i64 x.f6.f1)
  c11 : w.cell? ⟨a.block, a.off + 11, none⟩ = some (.string x.f7.f0)
  c12 : w.cell? ⟨a.block, a.off + 12, none⟩ = some (.int .i64 x.f7.f1)
  c13 : w.cell? ⟨a.block, a.off + 13, none⟩ = some (.slice A x.f8.length c)
  c14 : w.cell? ⟨a.block, a.off + 14, none⟩ = some (.int .i64 x.f9)
  c15 : w.cell? ⟨a.block, a.off + 15, none⟩ = some (.slice B x.f10.length d)
theorem OpCells.below {w w' : World} {a : Addr} {x : TOp} {A : Option Addr} {c : Nat} {B : Option Addr} {d : Nat} (h : OpCells w a x A c B d) (hb : Below w.heap.size w w') : OpCells w' a x A c B d :=
  have e : ∀ {p : Addr} {v : Value}, w.cell? p = some v → w'.cell? p = some v := fun q => (hb.cell (World.block_lt_of_cell? w _ q)).trans q
  ⟨e h.c0, e h.c1, e h.c2, e h.c3, e h.c4, e h.c5, e h.c6, e h.c7, e h.c8, e h.c9, e h.c10, e h.c11, e h.c12, e h.c13, e h.c14, e h.c15⟩
theorem op_row {w : World} {A : Option Addr} {l : List TOp} (h : Kd.C k27 w A l.length l) (i : Nat) (hi : i < l.length) : ∃ ad A13 c13 A15 c15, A = some ad ∧ OpCells w (ad.add (i * 16)) l[i] A13 c13 A15 c15 ∧ OpAt w l[i] A13 c13 A15 c15 := by
  have q := at_T27 h (i : Int) (by omega) (by omega)
  have e1 : rd_T27 l (i : Int) = l[i] := by simp [rd_T27, hi]
  rw [e1, Int.toNat_natCast] at q
  obtain ⟨ad, A13, c13, A15, c15, e, h0, h1, h2, h3, h4, h5, h6, h7, h8, h9, h10, h11, h12, h13, h14, h15, l13, g13, l15, g15⟩ := q
  exact ⟨ad, A13, c13, A15, c15, e, ⟨h0, h1, h2, h3, h4, h5, h6, h7, h8, h9, h10, h11, h12, h13, h14, h15⟩, ⟨g13, l13, g15, l15⟩⟩
/-! ### Whole operations loaded and stored: one step each -/
theorem op_size : (Tryd.prog.info? 27).map (·.size) = some 16 := by kernel_rfl
section
variable {ops : Array Oper} {rest : List Oper} {o : Oper} {a : Act} {Q : Exit → Act → World → Prop} {W : World}
theorem op_load (p : Tmp) (g : Nat) {x : TOp} {A : Option Addr} {c : Nat} {B : Option Addr} {d : Nat} (hX : W.heap[g]? = some (.cells (opCs x A c B d) 27 (0, 0)))
    (ho : o.op = .load 27 (.tmp p)) (hw : Region.wanted o (yielded ops a.tmps) = true) (hx : a.eval (.tmp p) = .pointer (some ⟨g, 0, none⟩))
    (h : wpList Tryd.prog ops Q rest (a.put o.dst (opV x A c B d)) W) : wpList Tryd.prog ops Q (o :: rest) a W :=
  gate_guard hw (wpList_load_row (o := { o with guard := none }) rfl 27 (.tmp p) ho g hx 27 (opCs x A c B d) (0, 0) _ hX Tryd.underlying27 rfl op_size h)
theorem op_run {W : World} {b : Addr} {x : TOp} {A : Option Addr} {c : Nat} {B : Option Addr} {d : Nat} (h : OpCells W b x A c B d) : (loadVar 27 b).run Tryd.prog W = .ok (opV x A c B d) W := by
  have hadd : ∀ j, 0 < j → b.add j = ⟨b.block, b.off + j, none⟩ := fun j hj => by unfold Addr.add; split <;> simp_all
  have hl : (loadCells b (opCs x A c B d).toList.length).run Tryd.prog W = .ok (opCs x A c B d).toList.toArray W :=
    run_loadCells_list (P := Tryd.prog) W b (opCs x A c B d).toList (fun j v hv => by
      rcases j with _ | _ | _ | _ | _ | _ | _ | _ | _ | _ | _ | _ | _ | _ | _ | _ | j
      case zero =>
        injection hv with hv
        subst hv
        rw [show b.add 0 = b by simp [Addr.add]]
        exact h.c0
      all_goals first | (rw [hadd _ (by omega)]; injection hv with hv; subst hv; first | exact h.c1 | exact h.c2 | exact h.c3 | exact h.c4 | exact h.c5 | exact h.c6 | exact h.c7 | exact h.c8 | exact h.c9 | exact h.c10 | exact h.c11 | exact h.c12 | exact h.c13 | exact h.c14 | exact h.c15) | exact absurd (List.getElem?_eq_some_iff.1 hv).1 (by simp))
  obtain ⟨i0, hi, hs⟩ := Option.map_eq_some_iff.1 op_size
  have hagg : (isAgg 27).run Tryd.prog W = .ok true W := by
    unfold isAgg
    rw [Sem.run_bind, run_underlying Tryd.underlying27 W]
    rfl
  replace hl : (loadCells b 16).run Tryd.prog W = .ok (opCs x A c B d) W := hl
  have hs' : i0.size = 16 := hs
  simp [loadVar, Sem.run_bind, hagg, sizeOf, typeInfo, hi, hs', hl]
theorem op_loadAt (p : Tmp) {b : Addr} {x : TOp} {A : Option Addr} {c : Nat} {B : Option Addr} {d : Nat} (hX : OpCells W b x A c B d)
    (ho : o.op = .load 27 (.tmp p)) (hw : Region.wanted o (yielded ops a.tmps) = true) (hx : a.eval (.tmp p) = .pointer (some b))
    (h : wpList Tryd.prog ops Q rest (a.put o.dst (opV x A c B d)) W) : wpList Tryd.prog ops Q (o :: rest) a W := by
  refine gate_guard hw (wpList_plain (o := { o with guard := none }) rfl fun K hK => ?_)
  unfold Oper.wp execOp
  simp only [ho, hx, Instr.loadAt, Instr.sureAddr, Sem.run_bind, Sem.run_pure, Result.andThen_ok, op_run hX]
  exact hK _ _ h
theorem op_new (p q : Tmp) {V : World} {z : Array Value} {x : TOp} {A : Option Addr} {c : Nat} {B : Option Addr} {d : Nat} (hV : W = V.alloc (.cells z 27)) (hz : z.size = 16)
    (ho : o.op = .store 27 (.tmp p) (.tmp q)) (hw : Region.wanted o (yielded ops a.tmps) = true) (hd : o.dst = none) (hp : a.eval (.tmp p) = .pointer (some ⟨V.heap.size, 0, none⟩)) (hq : a.eval (.tmp q) = opV x A c B d)
    (h : ∀ W', W'.heap[V.heap.size]? = some (.cells (opCs x A c B d) 27 (0, 0)) → Below V.heap.size V W' → wpList Tryd.prog ops Q rest a W') : wpList Tryd.prog ops Q (o :: rest) a W := by
  subst hV
  refine gate_guard hw (wpList_store_row (o := { o with guard := none }) rfl 27 (.tmp p) (.tmp q) ho V.heap.size (opCs x A c B d) hp hq 27 z (heap_alloc_new V _) op_size (hz.trans rfl) (by simp [Value.oneCell']) ?_)
  have e : a.put ({ o with guard := none } : Oper).dst undef = a := by
    show a.put o.dst undef = a
    rw [hd]
    rfl
  rw [e]
  exact h _ (setRow_heap _ _ _ _ _ _ (heap_alloc_new V _)) (below_setRow (below_alloc (Below.refl _ _) _) (Nat.le_refl _) _)
end
end Go.Proofs.YtmimejckcknjfaaDoor.G
