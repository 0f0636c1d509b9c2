-- Words of the kit's print (as it laid them for this seat); what this claim does not use is left out.
import Derived.Test.YtloibeefopdhpaaDoorTapeRef
import Derived.Test.YtloibeefopdhpaaDoorTapeParsesLaw
import Derived.Deep.Slices
import Derived.SizedLaws
import Derived.Carry
import Derived.WideShapes
set_option linter.unusedVariables false
set_option linter.unusedSimpArgs false
namespace Go.Proofs.YtloibeefopdhpaaDoor.Plain
open Go.RowKit Go.Proofs.YtloibeefopdhpaaDoor.G Go.Proofs.YtloibeefopdhpaaDoorW.PrintWords Go.Proofs.YtloibeefopdhpaaDoorW.PrintLast Go.Proofs.YtloibeefopdhpaaDoorW.PrintMore
theorem awake40 : Ev (fun k => rafterlaw40_awake.f k) true := Ev.of (fun k => rafterlaw40_awake.mono k) (k := 60) (by kernel_rfl)
theorem bt_last (s : ByteArray) (c : List UInt8) (b : UInt8) (h : s.toList = c ++ [b]) : bt s ((s.size : Int) - 1) = (b.toNat : Int) := by
  have hlen : c.length + 1 = s.size := by rw [← toList_length, h, List.length_append]; rfl
  rw [bt_eq, h, show ((s.size : Int) - 1).toNat = c.length by omega]
  simp
theorem ends_hit (s : ByteArray) (c : List UInt8) (h : s.toList = c ++ [10]) : endsB s = true := by
  unfold endsB
  rw [if_neg (by rw [h]; simp), bt_last s c 10 h]
  rfl
theorem ends_miss (s : ByteArray) (h : ∀ c, s.toList ≠ c ++ [10]) : endsB s = false := by
  unfold endsB
  by_cases hn : s.toList = []
  · rw [if_pos hn]
  · rw [if_neg hn]
    have e := (List.dropLast_concat_getLast hn).symm
    rw [bt_last s _ _ e, beq_eq_false_iff_ne]
    intro h10
    have : s.toList.getLast hn = 10 := UInt8.toNat_inj.1 (by show _ = 10; omega)
    rw [this] at e
    exact h _ e
end Go.Proofs.YtloibeefopdhpaaDoor.Plain
namespace Go.Proofs.YtloibeefopdhpaaDoor.Pure
open Go.RowKit Go.Proofs.YtloibeefopdhpaaDoor.G Go.Proofs.YtloibeefopdhpaaDoor.Plain Go.Proofs.YtloibeefopdhpaaDoorW.PrintWords Go.Proofs.YtloibeefopdhpaaDoorW.PrintLast Go.Proofs.YtloibeefopdhpaaDoorW.PrintMore
theorem TapeParses (s : ByteArray) (hw : s.size ≤ 140737488351232) : ∃ k, rafterlaw40_TapeParses.f k s = some true := by
  suffices h : Ev (fun k => rafterlaw40_TapeParses.f k s) true by
    obtain ⟨N, hN⟩ := h
    exact ⟨N, hN N (Nat.le_refl _)⟩
  unfold rafterlaw40_TapeParses.f
  by_cases hs : (s.size : Int) > 2000
  · exact Ev.pos hs awake40
  refine Ev.neg hs ?_
  rcases tapeParse_ev s (by omega) with ⟨c, t, hc, hp, hh, hl, ht⟩ | ⟨c, e, hc, hp, he⟩ | ⟨hc, hp⟩
  · have hlen : c.length + 1 = s.size := by rw [← toList_length, hc, List.length_append]; rfl
    have hpl := refPlain_ev s (by omega)
    rw [hc, plain_snoc] at hpl
    have hfl : (flatP (splitL 10 c)).length ≤ 500000 := by
      have h1 := plain_snoc c
      have h2 : ∀ L : List (List UInt8), (flatP L).length ≤ sumP L := by
        intro L
        induction L with
        | nil => simp [flatP, sumP]
        | cons x L ih =>
          rw [flatP, List.flatMap_cons, List.length_append, ← flatP, sumP, List.map_cons, List.sum_cons, ← sumP]
          split
          · simp; omega
          · rw [List.length_append]; simp; omega
      obtain ⟨L, z, g1, g2, g3⟩ := split_last (splitL 10 (c ++ [10])) (splitL_ne 10 _)
      rw [joinL_splitL, List.length_append] at g3
      rw [← h1, g2, List.length_append]
      have := h2 L
      simp at g3
      omega
    refine Ev.bind hp (Ev.pos rfl (Ev.bind awake40 (Ev.bind (may_ev t _ ht hh (by omega)) (Ev.bind (refText40_ev t _ ht hh hfl) (Ev.bind hpl (Ev.pos ⟨rfl, rfl, rfl⟩ (Ev.now _)))))))
  · have hne : ¬ e = 0 := by omega
    exact Ev.bind hp (Ev.neg hne (Ev.bind awake40 (Ev.bind same_zero (Ev.pos ⟨rfl, rfl, .inr ⟨he, ends_hit s c hc⟩⟩ (Ev.now _)))))
  · exact Ev.bind hp (Ev.neg (by decide) (Ev.bind awake40 (Ev.bind same_zero (Ev.pos ⟨rfl, rfl, .inl ⟨rfl, ends_miss s hc⟩⟩ (Ev.now _)))))
end Go.Proofs.YtloibeefopdhpaaDoor.Pure
set_option linter.unusedVariables false
namespace Go.Proofs.YtloibeefopdhpaaDoor.Row
open Go.RowKit Go.WideShapes Go.Proofs.YtloibeefopdhpaaDoorW.PrintWords Go.Proofs.YtloibeefopdhpaaDoorW.PrintLast
def Opens (P : Program) (T : TypeId) {α : Type} (d : Kd α) (ok : α → Prop) : Prop :=
  ∀ (H : Type) (enc : TypeId × Value → H) (W : World) (base : Nat) (spare : Nat → Bool) (held : Bool) (fuel : Nat) (cs : List Value) (x : DataW H) (ps : List MemPlace),
    DataW.trod enc P W base spare held fuel T cs = some (x, ps) → (∀ n ∈ x.weights P T, n ≤ reachBytes) → ∃ a : α, d.K W a cs ∧ ok a
theorem opens_string {P : Program} {T : TypeId} (hu : P.underlying T = some .string) : Opens P T Kd.string (fun s => s.size ≤ 140737488351232) := by
  intro H enc W base spare held fuel cs x ps h hw
  obtain ⟨s, rfl, hx, hs⟩ := DataW.trod_string hu h
  simp only [Prod.mk.injEq] at hx
  obtain ⟨rfl, rfl⟩ := hx
  refine ⟨s, rfl, ?_⟩
  have := hw s.data.toList.length (by simp [DataW.weights])
  rwa [data_length] at this
def OpensF (P : Program) (fs : List Field) (o : Nat) {α : Type} (d : Kd α) (ok : α → Prop) : Prop :=
  ∀ (H : Type) (enc : TypeId × Value → H) (W : World) (base : Nat) (spare : Nat → Bool) (held : Bool) (fuel : Nat) (cs : List Value) (xs : List (DataW H × List MemPlace)), cs.length = o + d.sz → xs.length = fs.length →
    (∀ (i : Nat) (f : Field), fs[i]? = some f → DataW.trod enc P W base spare held fuel f.type ((cs.drop f.offset).take (P.cellsOf f.type)) = xs[i]?) →
    (∀ n ∈ DataW.weightsEach P (fs.map (·.type)) (xs.map (·.1)), n ≤ reachBytes) → ∃ a : α, d.K W a (cs.drop o) ∧ ok a
theorem arg_weights {H : Type} {P : Program} {ts : List TypeId} {ds : List (DataW H)} (h : (DataW.weightsEach P ts ds).all (· ≤ reachBytes) = true) {j : Nat} {t : TypeId} {x : DataW H} (ht : ts[j]? = some t) (hx : ds[j]? = some x) : ∀ n ∈ x.weights P t, n ≤ reachBytes := by
  intro n hn
  have := List.all_eq_true.1 h n (DataW.weights_mem_each ht hx n hn)
  simpa using this
theorem open_arg {H : Type} {enc : TypeId × Value → H} {P : Program} {W : World} {base : Nat} {spare : Nat → Bool} {held : Bool} {T : TypeId} {α : Type} {d : Kd α} {ok : α → Prop} (hO : Opens P T d ok) {v : Value} {x : DataW H} {ps : List MemPlace}
    (h : DataW.Trod enc P W base spare held T v x ps) (hw : ∀ n ∈ x.weights P T, n ≤ reachBytes) : ∃ a : α, d.K W a v.cells.toList ∧ ok a := by
  obtain ⟨fuel, hf⟩ := h
  exact hO H enc W base spare held fuel _ x ps hf hw
theorem trod_blocks {H : Type} {enc : TypeId × Value → H} {P : Program} {W : World} {base : Nat} {spare : Nat → Bool} {held : Bool} {T : TypeId} {v : Value} {x : DataW H} {ps : List MemPlace} (h : DataW.Trod enc P W base spare held T v x ps) : ∀ y ∈ ps, y.block < W.heap.size := by
  obtain ⟨m, hm⟩ := h
  exact DataW.trod_lt m _ _ _ hm
theorem string_arg {W : World} {s : ByteArray} {v : Value} (hv : ∃ t, v = .string t) (h : Kd.string.K W s v.cells.toList) : v = .string s := by
  obtain ⟨t, rfl⟩ := hv
  have h' : (Value.string t).cells.toList = [.string s] := h
  simpa [Value.cells] using h'
end Go.Proofs.YtloibeefopdhpaaDoor.Row
