-- Words of the kit's print (as it laid them for this seat); what this claim does not use is left out.
import Derived.Test.YtmimejckcknjfaaDoorWMore
import Derived.Deep.Slices
import Derived.SizedLaws
import Derived.Carry
import Derived.WideShapes
import Derived.OpenShut
set_option linter.unusedVariables false
namespace Go.Proofs.YtmimejckcknjfaaDoor.Row
open Go.RowKit Go.WideShapes Go.Proofs.YtmimejckcknjfaaDoorW.PrintWords Go.Proofs.YtmimejckcknjfaaDoorW.PrintLast
def Opens (P : Program) (T : TypeId) {α : Type} (d : Kd α) (ok : α → Prop) : Prop :=
  ∀ (H : Type) (enc : TypeId × Value → H) (W : World) (base : Nat) (spare : Nat → Bool) (held : Bool) (fuel : Nat) (cs : List Value) (x : DataW H) (ps : List MemPlace),
    DataW.trod enc P W base spare held fuel T cs = some (x, ps) → (∀ n ∈ x.weights P T, n ≤ reachBytes) → ∃ a : α, d.K W a cs ∧ ok a
theorem opens_int {P : Program} {T : TypeId} {k : IntKind} (hu : P.underlying T = some (.int k)) : Opens P T (Kd.int k) (fun n => (Lit.int k n).wf = true) := by
  intro H enc W base spare held fuel cs x ps h hw
  obtain ⟨n, rfl, hx, hwf⟩ := DataW.trod_int hu h
  exact ⟨n, rfl, hwf⟩
theorem opens_string {P : Program} {T : TypeId} (hu : P.underlying T = some .string) : Opens P T Kd.string (fun s => s.size ≤ 140737488351232) := by
  intro H enc W base spare held fuel cs x ps h hw
  obtain ⟨s, rfl, hx, hs⟩ := DataW.trod_string hu h
  simp only [Prod.mk.injEq] at hx
  obtain ⟨rfl, rfl⟩ := hx
  refine ⟨s, rfl, ?_⟩
  have := hw s.data.toList.length (by simp [DataW.weights])
  rwa [data_length] at this
theorem collect {α : Type} {p : Nat → α → Prop} : ∀ n : Nat, (∀ i, i < n → ∃ x, p i x) → ∃ xs : List α, xs.length = n ∧ ∀ i x, xs[i]? = some x → p i x
  | 0, _ => ⟨[], rfl, fun i x h => by simp at h⟩
  | n + 1, h => by
    obtain ⟨xs, hl, hx⟩ := collect n (fun i hi => h i (by omega))
    obtain ⟨y, hy⟩ := h n (by omega)
    refine ⟨xs ++ [y], by simp [hl], fun i x hi => ?_⟩
    rcases Nat.lt_or_ge i xs.length with hlt | hge
    · rw [List.getElem?_append_left hlt] at hi
      exact hx i x hi
    · rw [List.getElem?_append_right hge] at hi
      have h0 : i - xs.length = 0 := by
        have := (List.getElem?_eq_some_iff.1 hi).1
        simp at this
        omega
      rw [h0] at hi
      simp at hi
      subst hi
      rw [show i = n by omega]
      exact hy
theorem weights_all {H : Type} {P : Program} {e : TypeId} : ∀ {l : List (DataW H)} {x : DataW H}, x ∈ l → ∀ n ∈ x.weights P e, n ∈ DataW.weightsAll P e l
  | [], x, hx, n, hn => by simp at hx
  | d :: l, x, hx, n, hn => by
    simp only [DataW.weightsAll, List.mem_append]
    rcases List.mem_cons.1 hx with rfl | hx
    · exact .inl hn
    · exact .inr (weights_all hx n hn)
theorem opens_slice {P : Program} {T e : TypeId} {α : Type} {d : Kd α} {ok : α → Prop} {B : Nat} (hu : P.underlying T = some (.slice e)) (h : Opens P e d ok) (hs : P.cellsOf e = d.sz) (hb : P.bytesOf e = B) :
    Opens P T (Kd.slice e d) (fun xs => (∀ x ∈ xs, ok x) ∧ xs.length * B ≤ 140737488351232 ∧ xs.length ≤ 9223372036854775807) := by
  intro H enc W base spare held fuel cs x ps ht hw
  rcases Deep.open_slice hu ht with ⟨rfl, hx⟩ | ⟨a, len, cap, m, n, D, Pl, rfl, hba, hlc, hcm, hm, hx, hel⟩
  · exact ⟨[], ⟨none, 0, rfl, Nat.le_refl _, Kd.C_nil d W⟩, by simp, by simp, by simp⟩
  · simp only [Prod.mk.injEq] at hx
    obtain ⟨rfl, rfl⟩ := hx
    have hlm : len ≤ m := by
      rw [hm]
      split
      · exact hlc
      · exact Nat.le_refl _
    have hwD : ∀ i, i < len → ∀ n ∈ (D i).weights P e, n ≤ reachBytes := by
      intro i hi n hn
      refine hw n ?_
      simp only [DataW.weights, hu, List.mem_cons, List.mem_append]
      exact .inr (.inl (weights_all (List.mem_map.2 ⟨i, by simpa using hi, rfl⟩) n hn))
    have hwL : len * B ≤ 140737488351232 := by
      have := hw ((((List.range len).map D).length + ((List.range (m - len)).map fun j => D (len + j)).length) * P.bytesOf e) (by simp only [DataW.weights, hu, List.mem_cons, true_or])
      rw [hb] at this
      simp only [List.length_map, List.length_range] at this
      have h2 : len * B ≤ (len + (m - len)) * B := Nat.mul_le_mul_right _ (by omega)
      simp only [reachBytes] at this
      omega
    have hmax : len ≤ 9223372036854775807 := by simp only [maxLen] at hcm; omega
    obtain ⟨xs, hl, hxs⟩ := collect (p := fun i x => ∃ c, c.length = d.sz ∧ d.K W x c ∧ ok x ∧ ∀ j u, c[j]? = some u → W.cell? (a.add (i * d.sz + j)) = some u) len (fun i hi => by
      obtain ⟨cs', hc, htr⟩ := hel i (by omega)
      obtain ⟨y, hk, hok⟩ := h H enc W base spare held n cs' (D i) (Pl i) htr (hwD i hi)
      obtain ⟨_, hcl, hcell⟩ := World.cells?_some hc
      refine ⟨y, cs', by rw [hcl, hs], hk, hok, fun j u hj => ?_⟩
      have hjl : j < P.cellsOf e := by rw [← hcl]; exact (List.getElem?_eq_some_iff.1 hj).1
      rw [← Deep.add_add, ← hs, hcell j hjl, hj])
    subst hl
    refine ⟨xs, ⟨some a, cap, rfl, hlc, rfl, hmax, fun _ => ⟨a, rfl, fun j p hp => ?_⟩⟩, fun x hx => ?_, hwL, hmax⟩
    · obtain ⟨c, h1, h2, _, h3⟩ := hxs j p hp
      exact ⟨c, h1, h2, h3⟩
    · obtain ⟨j, hj, rfl⟩ := List.mem_iff_getElem.1 hx
      obtain ⟨c, _, _, h3, _⟩ := hxs j _ (List.getElem?_eq_getElem hj)
      exact h3
def OpensF (P : Program) (fs : List Field) (o : Nat) {α : Type} (d : Kd α) (ok : α → Prop) : Prop :=
  ∀ (H : Type) (enc : TypeId × Value → H) (W : World) (base : Nat) (spare : Nat → Bool) (held : Bool) (fuel : Nat) (cs : List Value) (xs : List (DataW H × List MemPlace)), cs.length = o + d.sz → xs.length = fs.length →
    (∀ (i : Nat) (f : Field), fs[i]? = some f → DataW.trod enc P W base spare held fuel f.type ((cs.drop f.offset).take (P.cellsOf f.type)) = xs[i]?) →
    (∀ n ∈ DataW.weightsEach P (fs.map (·.type)) (xs.map (·.1)), n ≤ reachBytes) → ∃ a : α, d.K W a (cs.drop o) ∧ ok a
theorem opensF_one {P : Program} {f : Field} {o : Nat} {α : Type} {d : Kd α} {ok : α → Prop} (h : Opens P f.type d ok) (ho : f.offset = o) (hs : P.cellsOf f.type = d.sz) : OpensF P [f] o d ok := by
  intro H enc W base spare held fuel cs xs hl hx ht hw
  match xs, hx with
  | [y], _ =>
    have h0 := ht 0 f rfl
    rw [List.getElem?_cons_zero, ho, List.take_of_length_le (by rw [List.length_drop]; omega)] at h0
    exact h H enc W base spare held fuel _ y.1 y.2 h0 (fun n hn => hw n (by simp [DataW.weightsEach, hn]))
theorem opensF_cons {P : Program} {f : Field} {fs : List Field} {o : Nat} {α β : Type} {d : Kd α} {e : Kd β} {ok : α → Prop} {ok' : β → Prop} (h : Opens P f.type d ok) (ho : f.offset = o) (hs : P.cellsOf f.type = d.sz) (hr : OpensF P fs (o + d.sz) e ok') :
    OpensF P (f :: fs) o (Kd.pair d e) (fun p => ok p.1 ∧ ok' p.2) := by
  intro H enc W base spare held fuel cs xs hl hx ht hw
  have hl' : cs.length = o + (d.sz + e.sz) := hl
  match xs, hx with
  | y :: ys, hx =>
    have h0 := ht 0 f rfl
    rw [List.getElem?_cons_zero, ho, hs] at h0
    obtain ⟨a, ha, hok⟩ := h H enc W base spare held fuel _ y.1 y.2 h0 (fun n hn => hw n (by simp [DataW.weightsEach, hn]))
    obtain ⟨b, hb, hok'⟩ := hr H enc W base spare held fuel cs ys (by omega) (by simpa using hx) (fun i g hg => ht (i + 1) g (by simpa using hg)) (fun n hn => hw n (by
      simp only [List.map_cons, DataW.weightsEach, List.mem_append]
      exact .inr hn))
    refine ⟨(a, b), ⟨_, _, ?_, ha, hb⟩, hok, hok'⟩
    rw [← List.drop_drop, List.take_append_drop]
theorem opens_struct {P : Program} {T : TypeId} {fs : Array Field} {α β : Type} {d : Kd α} {ok : α → Prop} (f : β → α) (g : α → β) (hfg : ∀ a, f (g a) = a) (hu : P.underlying T = some (.struct fs)) (hs : P.cellsOf T = d.sz) (h : OpensF P fs.toList 0 d ok) :
    Opens P T (Kd.iso d f) (fun s => ok (f s)) := by
  intro H enc W base spare held fuel cs x ps ht hw
  obtain ⟨xs, n, rfl, hx, hl, hxl, hel⟩ := DataW.trod_struct hu ht
  simp only [Prod.mk.injEq] at hx
  obtain ⟨rfl, rfl⟩ := hx
  obtain ⟨a, ha, hok⟩ := h H enc W base spare held n cs xs (by omega) (by simpa using hxl) (fun i fl hf => hel i fl (by simpa using hf)) (fun n hn => hw n (by simpa [DataW.weights, hu] using hn))
  refine ⟨g a, ?_, ?_⟩
  · show d.K W (f (g a)) cs
    rw [hfg]
    simpa using ha
  · show ok (f (g a))
    rw [hfg]
    exact hok
theorem arg_weights {H : Type} {P : Program} {ts : List TypeId} {ds : List (DataW H)} (h : (DataW.weightsEach P ts ds).all (· ≤ reachBytes) = true) {j : Nat} {t : TypeId} {x : DataW H} (ht : ts[j]? = some t) (hx : ds[j]? = some x) : ∀ n ∈ x.weights P t, n ≤ reachBytes := by
  intro n hn
  have := List.all_eq_true.1 h n (DataW.weights_mem_each ht hx n hn)
  simpa using this
theorem open_arg {H : Type} {enc : TypeId × Value → H} {P : Program} {W : World} {base : Nat} {spare : Nat → Bool} {held : Bool} {T : TypeId} {α : Type} {d : Kd α} {ok : α → Prop} (hO : Opens P T d ok) {v : Value} {x : DataW H} {ps : List MemPlace}
    (h : DataW.Trod enc P W base spare held T v x ps) (hw : ∀ n ∈ x.weights P T, n ≤ reachBytes) : ∃ a : α, d.K W a v.cells.toList ∧ ok a := by
  obtain ⟨fuel, hf⟩ := h
  exact hO H enc W base spare held fuel _ x ps hf hw
theorem trod_blocks {H : Type} {enc : TypeId × Value → H} {P : Program} {W : World} {base : Nat} {spare : Nat → Bool} {held : Bool} {T : TypeId} {v : Value} {x : DataW H} {ps : List MemPlace} (h : DataW.Trod enc P W base spare held T v x ps) : ∀ y ∈ ps, y.block < W.heap.size := by
  obtain ⟨m, hm⟩ := h
  exact DataW.trod_lt m _ _ _ hm
end Go.Proofs.YtmimejckcknjfaaDoor.Row
