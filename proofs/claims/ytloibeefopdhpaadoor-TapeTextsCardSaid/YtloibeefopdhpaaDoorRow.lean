-- Words of the kit's print (as it laid them for this seat); what this claim does not use is left out.
import Derived.Test.YtloibeefopdhpaaDoorTapeSame
import Derived.Test.YtloibeefopdhpaaDoorTapeTextsLaw
import Derived.Deep.Slices
import Derived.SizedLaws
import Derived.Carry
import Derived.WideShapes
set_option linter.unusedVariables false
set_option linter.unusedSimpArgs false
namespace Go.Proofs.YtloibeefopdhpaaDoor.Plain
open Go.RowKit Go.Proofs.YtloibeefopdhpaaDoor.G Go.Proofs.YtloibeefopdhpaaDoorW.PrintWords Go.Proofs.YtloibeefopdhpaaDoorW.PrintLast Go.Proofs.YtloibeefopdhpaaDoorW.PrintMore
theorem awake40 : Ev (fun k => rafterlaw40_awake.f k) true := Ev.of (fun k => rafterlaw40_awake.mono k) (k := 60) (by kernel_rfl)
theorem i64_wf {n : Int} (h : (Lit.int .i64 n).wf = true) : -9223372036854775808 ≤ n ∧ n ≤ 9223372036854775807 := by
  have e1 : IntKind.i64.min = -9223372036854775808 := by decide
  have e2 : IntKind.i64.max = 9223372036854775807 := by decide
  simp [Lit.wf, e1, e2] at h
  exact h
theorem u8_wf {n : Int} (h : (Lit.int .u8 n).wf = true) : 0 ≤ n ∧ n ≤ 255 := by
  have e1 : IntKind.u8.min = 0 := by decide
  have e2 : IntKind.u8.max = 255 := by decide
  simp [Lit.wf, e1, e2] at h
  exact h
def OkStep (x : TStep) : Prop := (Lit.int .i64 x.f0).wf = true ∧ x.f1.size ≤ 140737488351232 ∧ x.f2.size ≤ 140737488351232 ∧ (Lit.int .i64 x.f3.f0).wf = true ∧ x.f3.f1.size ≤ 140737488351232 ∧ ((∀ y ∈ x.f3.f2, y.size ≤ 140737488351232) ∧ x.f3.f2.length * 16 ≤ 140737488351232 ∧ x.f3.f2.length ≤ 9223372036854775807) ∧ (Lit.int .i64 x.f3.f3.f0).wf = true ∧ x.f3.f3.f1.size ≤ 140737488351232 ∧ x.f3.f3.f2.size ≤ 140737488351232 ∧ (∀ y ∈ x.f3.f3.f3, y.size ≤ 140737488351232) ∧ x.f3.f3.f3.length * 16 ≤ 140737488351232 ∧ x.f3.f3.f3.length ≤ 9223372036854775807
def OkCrash (c : TCrash) : Prop := (Lit.int .i64 c.f0).wf = true ∧ (∀ y ∈ c.f1, (Lit.int .u8 y).wf = true) ∧ c.f1.length * 1 ≤ 140737488351232 ∧ c.f1.length ≤ 9223372036854775807
def OkScript (n : Int) (cs : List TCrash) (xs : List TStep) : Prop := (Lit.int .i64 n).wf = true ∧ ((∀ c ∈ cs, OkCrash c) ∧ cs.length * 32 ≤ 140737488351232 ∧ cs.length ≤ 9223372036854775807) ∧ (∀ x ∈ xs, OkStep x) ∧ xs.length * 152 ≤ 140737488351232 ∧ xs.length ≤ 9223372036854775807
theorem step_len {x : TStep} (h : OkStep x) : x.f3.f2.length ≤ 9223372036854775806 ∧ x.f3.f3.f3.length ≤ 9223372036854775806 := by
  obtain ⟨_, _, _, _, _, ⟨_, e1, _⟩, _, _, _, _, e2, _⟩ := h
  exact ⟨by omega, by omega⟩
theorem light_len {x : TStep} (h : LightX x) : x.f3.f2.length ≤ 100000000 ∧ x.f3.f3.f3.length ≤ 100000000 := by
  obtain ⟨_, _, _, e1, _, _, _, _, e2⟩ := h
  exact ⟨by omega, by omega⟩
theorem texts40 (a0 b0 : Int) (cs ds : List TCrash) (xs ys : List TStep) (h0 : OkScript a0 cs xs) (h1 : OkScript b0 ds ys) : Ev (fun k => rafterlaw40_TapeTexts.f k a0 cs xs b0 ds ys) true := by
  obtain ⟨p1, ⟨p2, p3, _⟩, p4, p5, _⟩ := h0
  obtain ⟨q1, ⟨q2, q3, _⟩, q4, q5, _⟩ := h1
  obtain ⟨b, hb, hp⟩ := light40 a0 cs xs (by omega) (by omega) fun x hx => step_len (p4 x hx)
  obtain ⟨d, hd, hq⟩ := light40 b0 ds ys (by omega) (by omega) fun x hx => step_len (q4 x hx)
  unfold rafterlaw40_TapeTexts.f
  refine Ev.bind hb ?_
  cases b with
  | false => exact Ev.neg (by decide) awake40
  | true =>
    refine Ev.pos rfl (Ev.bind hd ?_)
    cases d with
    | false => exact Ev.neg (by decide) awake40
    | true =>
      obtain ⟨⟨c1, c2⟩, x1, x2⟩ := hp rfl
      obtain ⟨⟨d1, d2⟩, y1, y2⟩ := hq rfl
      have hci : ∀ c ∈ cs, -9223372036854775808 ≤ c.f0 ∧ c.f0 ≤ 9223372036854775807 ∧ ∃ b, c.f1 = ints8 b ∧ b.length ≤ 100 := fun c hc => by
        obtain ⟨e1, e2, _⟩ := p2 c hc
        obtain ⟨b, e⟩ := ints8_of c.f1 fun x hx => u8_wf (e2 x hx)
        exact ⟨(i64_wf e1).1, (i64_wf e1).2, b, e, by have := c1 c hc; rw [e, ints8_length] at this; exact this⟩
      have hcb : ∀ c ∈ cs, ∃ b, c.f1 = ints8 b := fun c hc => by obtain ⟨_, _, b, e, _⟩ := hci c hc; exact ⟨b, e⟩
      have hdb : ∀ c ∈ ds, ∃ b, c.f1 = ints8 b := fun c hc => ints8_of c.f1 fun x hx => u8_wf ((q2 c hc).2.1 x hx)
      obtain ⟨r1, hr1, e1⟩ := same40 a0 b0 cs ds xs ys (fun c hc => by have := c1 c hc; omega) (fun y hy => light_len (y1 y hy)) (by omega) (by omega)
      obtain ⟨r2, hr2, e2⟩ := refSame40 a0 b0 cs ds xs ys hcb hdb (fun y hy => light_len (y1 y hy))
      obtain ⟨r3, hr3, e3⟩ := refSame40 a0 a0 cs cs xs xs hcb hcb (fun y hy => light_len (x1 y hy))
      have hr : r1 = r2 := by rw [Bool.eq_iff_iff, e1, e2]
      subst hr
      have h3 := e3.2 ⟨rfl, rfl, rfl⟩
      subst h3
      refine Ev.pos rfl ?_
      by_cases hn : a0 < 0 ∨ a0 > 1073741824
      · have ht : Ev (fun k => tape_Text.f k a0 cs xs) ((⟨#[]⟩ : ByteArray), 3) := by unfold tape_Text.f; exact Ev.pos hn (Ev.now _)
        have hm : Ev (fun k => rafterref40_May.f k a0 cs xs) 3 := by unfold rafterref40_May.f; exact Ev.pos hn (Ev.now _)
        exact Ev.bind ht (Ev.bind hm (Ev.bind hr1 (Ev.bind hr2 (Ev.bind awake40 (Ev.pos ⟨rfl, rfl, rfl⟩ (Ev.neg (by decide) (Ev.pos (toList_B []) (Ev.now _))))))))
      · obtain ⟨c, hc⟩ := crashL_of cs hci
        rcases steps_law xs x1 with ⟨x, hx⟩ | ⟨h3, h4⟩
        · have hm : Ev (fun k => rafterref40_May.f k a0 cs xs) 0 := by unfold rafterref40_May.f; exact Ev.neg hn (may_good hx)
          exact Ev.bind (text_ev (by omega) (by omega) hc hx c2 x2) (Ev.bind hm (Ev.bind hr1 (Ev.bind hr2 (Ev.bind awake40 (Ev.pos ⟨rfl, rfl, rfl⟩ (Ev.pos rfl (Ev.bind (parse_back (by omega) (by omega) hc hx c2 x2) (Ev.bind (ref_ev (by omega) (by omega) hc hx c2 x2) (Ev.bind hr3 (Ev.pos ⟨rfl, rfl, rfl⟩ (Ev.now _)))))))))))
        · have hm : Ev (fun k => rafterref40_May.f k a0 cs xs) 2 := by unfold rafterref40_May.f; exact Ev.neg hn h3
          have ht : Ev (fun k => tape_Text.f k a0 cs xs) ((⟨#[]⟩ : ByteArray), 2) := by
            have hl := numL_len2 a0 (by omega) (by omega)
            obtain ⟨l1, l2⟩ := crashL_lines hc
            have hlc := flatN_len 300 c (fun y hy => (l2 y hy).1)
            have hlc2 : (flatN c).length ≤ 40 * 301 := Nat.le_trans hlc (Nat.mul_le_mul_right _ (by omega))
            unfold tape_Text.f
            refine Ev.neg hn (Ev.bind (number_ev a0 (by omega) (by omega)) (Ev.pos (by rw [size_B]; omega) ?_))
            rw [show (⟨#[114, 111, 111, 109, 32]⟩ : ByteArray) = B roomP from rfl, show (⟨#[10]⟩ : ByteArray) = B [10] from rfl, B_append, B_append]
            refine Ev.bind (textC_ev hc _ (by simp only [List.length_append, roomP, List.length_cons, List.length_nil]; omega)) (h4 _ ?_)
            simp only [size_B, List.length_append, roomP, List.length_cons, List.length_nil]
            omega
          exact Ev.bind ht (Ev.bind hm (Ev.bind hr1 (Ev.bind hr2 (Ev.bind awake40 (Ev.pos ⟨rfl, rfl, rfl⟩ (Ev.neg (by decide) (Ev.pos (toList_B []) (Ev.now _))))))))
end Go.Proofs.YtloibeefopdhpaaDoor.Plain
namespace Go.Proofs.YtloibeefopdhpaaDoor.Pure
open Go.RowKit Go.Proofs.YtloibeefopdhpaaDoor.G Go.Proofs.YtloibeefopdhpaaDoor.Plain Go.Proofs.YtloibeefopdhpaaDoorW.PrintWords Go.Proofs.YtloibeefopdhpaaDoorW.PrintLast Go.Proofs.YtloibeefopdhpaaDoorW.PrintMore
theorem TapeTexts (x0 x1 : S76) (ok0 : OkScript x0.f0 x0.f1 x0.f2) (ok1 : OkScript x1.f0 x1.f1 x1.f2) : ∃ k, rafterlaw40_TapeTexts.f k x0.f0 x0.f1 x0.f2 x1.f0 x1.f1 x1.f2 = some true := by
  obtain ⟨N, hN⟩ := texts40 x0.f0 x1.f0 x0.f1 x1.f1 x0.f2 x1.f2 ok0 ok1
  exact ⟨N, hN N (Nat.le_refl _)⟩
end Go.Proofs.YtloibeefopdhpaaDoor.Pure
set_option linter.unusedVariables false
namespace Go.Proofs.YtloibeefopdhpaaDoor.Row
open Go.RowKit Go.WideShapes Go.Proofs.YtloibeefopdhpaaDoorW.PrintWords Go.Proofs.YtloibeefopdhpaaDoorW.PrintLast
def Opens (P : Program) (T : TypeId) {α : Type} (d : Kd α) (ok : α → Prop) : Prop :=
  ∀ (H : Type) (enc : TypeId × Value → H) (W : World) (base : Nat) (spare : Nat → Bool) (held : Bool) (fuel : Nat) (cs : List Value) (x : DataW H) (ps : List MemPlace),
    DataW.trod enc P W base spare held fuel T cs = some (x, ps) → (∀ n ∈ x.weights P T, n ≤ reachBytes) → ∃ a : α, d.K W a cs ∧ ok a
theorem opens_int {P : Program} {T : TypeId} {k : IntKind} (hu : P.underlying T = some (.int k)) : Opens P T (Kd.int k) (fun n => (Lit.int k n).wf = true) := by
  intro H enc W base spare held fuel cs x ps h hw
  obtain ⟨n, rfl, hx, hwf⟩ := DataW.trod_int hu h
  exact ⟨n, rfl, hwf⟩
theorem opens_string {P : Program} {T : TypeId} (hu : P.underlying T = some .string) : Opens P T Kd.string (fun s => s.size ≤ 140737488351232) := by
  intro H enc W base spare held fuel cs x ps h hw
  obtain ⟨s, rfl, hx, hs⟩ := DataW.trod_string hu h
  simp only [Prod.mk.injEq] at hx
  obtain ⟨rfl, rfl⟩ := hx
  refine ⟨s, rfl, ?_⟩
  have := hw s.data.toList.length (by simp [DataW.weights])
  rwa [data_length] at this
theorem collect {α : Type} {p : Nat → α → Prop} : ∀ n : Nat, (∀ i, i < n → ∃ x, p i x) → ∃ xs : List α, xs.length = n ∧ ∀ i x, xs[i]? = some x → p i x
  | 0, _ => ⟨[], rfl, fun i x h => by simp at h⟩
  | n + 1, h => by
    obtain ⟨xs, hl, hx⟩ := collect n (fun i hi => h i (by omega))
    obtain ⟨y, hy⟩ := h n (by omega)
    refine ⟨xs ++ [y], by simp [hl], fun i x hi => ?_⟩
    rcases Nat.lt_or_ge i xs.length with hlt | hge
    · rw [List.getElem?_append_left hlt] at hi
      exact hx i x hi
    · rw [List.getElem?_append_right hge] at hi
      have h0 : i - xs.length = 0 := by
        have := (List.getElem?_eq_some_iff.1 hi).1
        simp at this
        omega
      rw [h0] at hi
      simp at hi
      subst hi
      rw [show i = n by omega]
      exact hy
theorem weights_all {H : Type} {P : Program} {e : TypeId} : ∀ {l : List (DataW H)} {x : DataW H}, x ∈ l → ∀ n ∈ x.weights P e, n ∈ DataW.weightsAll P e l
  | [], x, hx, n, hn => by simp at hx
  | d :: l, x, hx, n, hn => by
    simp only [DataW.weightsAll, List.mem_append]
    rcases List.mem_cons.1 hx with rfl | hx
    · exact .inl hn
    · exact .inr (weights_all hx n hn)
theorem opens_slice {P : Program} {T e : TypeId} {α : Type} {d : Kd α} {ok : α → Prop} {B : Nat} (hu : P.underlying T = some (.slice e)) (h : Opens P e d ok) (hs : P.cellsOf e = d.sz) (hb : P.bytesOf e = B) :
    Opens P T (Kd.slice e d) (fun xs => (∀ x ∈ xs, ok x) ∧ xs.length * B ≤ 140737488351232 ∧ xs.length ≤ 9223372036854775807) := by
  intro H enc W base spare held fuel cs x ps ht hw
  rcases Deep.open_slice hu ht with ⟨rfl, hx⟩ | ⟨a, len, cap, m, n, D, Pl, rfl, hba, hlc, hcm, hm, hx, hel⟩
  · exact ⟨[], ⟨none, 0, rfl, Nat.le_refl _, Kd.C_nil d W⟩, by simp, by simp, by simp⟩
  · simp only [Prod.mk.injEq] at hx
    obtain ⟨rfl, rfl⟩ := hx
    have hlm : len ≤ m := by
      rw [hm]
      split
      · exact hlc
      · exact Nat.le_refl _
    have hwD : ∀ i, i < len → ∀ n ∈ (D i).weights P e, n ≤ reachBytes := by
      intro i hi n hn
      refine hw n ?_
      simp only [DataW.weights, hu, List.mem_cons, List.mem_append]
      exact .inr (.inl (weights_all (List.mem_map.2 ⟨i, by simpa using hi, rfl⟩) n hn))
    have hwL : len * B ≤ 140737488351232 := by
      have := hw ((((List.range len).map D).length + ((List.range (m - len)).map fun j => D (len + j)).length) * P.bytesOf e) (by simp only [DataW.weights, hu, List.mem_cons, true_or])
      rw [hb] at this
      simp only [List.length_map, List.length_range] at this
      have h2 : len * B ≤ (len + (m - len)) * B := Nat.mul_le_mul_right _ (by omega)
      simp only [reachBytes] at this
      omega
    have hmax : len ≤ 9223372036854775807 := by simp only [maxLen] at hcm; omega
    obtain ⟨xs, hl, hxs⟩ := collect (p := fun i x => ∃ c, c.length = d.sz ∧ d.K W x c ∧ ok x ∧ ∀ j u, c[j]? = some u → W.cell? (a.add (i * d.sz + j)) = some u) len (fun i hi => by
      obtain ⟨cs', hc, htr⟩ := hel i (by omega)
      obtain ⟨y, hk, hok⟩ := h H enc W base spare held n cs' (D i) (Pl i) htr (hwD i hi)
      obtain ⟨_, hcl, hcell⟩ := World.cells?_some hc
      refine ⟨y, cs', by rw [hcl, hs], hk, hok, fun j u hj => ?_⟩
      have hjl : j < P.cellsOf e := by rw [← hcl]; exact (List.getElem?_eq_some_iff.1 hj).1
      rw [← Deep.add_add, ← hs, hcell j hjl, hj])
    subst hl
    refine ⟨xs, ⟨some a, cap, rfl, hlc, rfl, hmax, fun _ => ⟨a, rfl, fun j p hp => ?_⟩⟩, fun x hx => ?_, hwL, hmax⟩
    · obtain ⟨c, h1, h2, _, h3⟩ := hxs j p hp
      exact ⟨c, h1, h2, h3⟩
    · obtain ⟨j, hj, rfl⟩ := List.mem_iff_getElem.1 hx
      obtain ⟨c, _, _, h3, _⟩ := hxs j _ (List.getElem?_eq_getElem hj)
      exact h3
def OpensF (P : Program) (fs : List Field) (o : Nat) {α : Type} (d : Kd α) (ok : α → Prop) : Prop :=
  ∀ (H : Type) (enc : TypeId × Value → H) (W : World) (base : Nat) (spare : Nat → Bool) (held : Bool) (fuel : Nat) (cs : List Value) (xs : List (DataW H × List MemPlace)), cs.length = o + d.sz → xs.length = fs.length →
    (∀ (i : Nat) (f : Field), fs[i]? = some f → DataW.trod enc P W base spare held fuel f.type ((cs.drop f.offset).take (P.cellsOf f.type)) = xs[i]?) →
    (∀ n ∈ DataW.weightsEach P (fs.map (·.type)) (xs.map (·.1)), n ≤ reachBytes) → ∃ a : α, d.K W a (cs.drop o) ∧ ok a
theorem opensF_one {P : Program} {f : Field} {o : Nat} {α : Type} {d : Kd α} {ok : α → Prop} (h : Opens P f.type d ok) (ho : f.offset = o) (hs : P.cellsOf f.type = d.sz) : OpensF P [f] o d ok := by
  intro H enc W base spare held fuel cs xs hl hx ht hw
  match xs, hx with
  | [y], _ =>
    have h0 := ht 0 f rfl
    rw [List.getElem?_cons_zero, ho, List.take_of_length_le (by rw [List.length_drop]; omega)] at h0
    exact h H enc W base spare held fuel _ y.1 y.2 h0 (fun n hn => hw n (by simp [DataW.weightsEach, hn]))
theorem opensF_cons {P : Program} {f : Field} {fs : List Field} {o : Nat} {α β : Type} {d : Kd α} {e : Kd β} {ok : α → Prop} {ok' : β → Prop} (h : Opens P f.type d ok) (ho : f.offset = o) (hs : P.cellsOf f.type = d.sz) (hr : OpensF P fs (o + d.sz) e ok') :
    OpensF P (f :: fs) o (Kd.pair d e) (fun p => ok p.1 ∧ ok' p.2) := by
  intro H enc W base spare held fuel cs xs hl hx ht hw
  have hl' : cs.length = o + (d.sz + e.sz) := hl
  match xs, hx with
  | y :: ys, hx =>
    have h0 := ht 0 f rfl
    rw [List.getElem?_cons_zero, ho, hs] at h0
    obtain ⟨a, ha, hok⟩ := h H enc W base spare held fuel _ y.1 y.2 h0 (fun n hn => hw n (by simp [DataW.weightsEach, hn]))
    obtain ⟨b, hb, hok'⟩ := hr H enc W base spare held fuel cs ys (by omega) (by simpa using hx) (fun i g hg => ht (i + 1) g (by simpa using hg)) (fun n hn => hw n (by
      simp only [List.map_cons, DataW.weightsEach, List.mem_append]
      exact .inr hn))
    refine ⟨(a, b), ⟨_, _, ?_, ha, hb⟩, hok, hok'⟩
    rw [← List.drop_drop, List.take_append_drop]
theorem opens_struct {P : Program} {T : TypeId} {fs : Array Field} {α β : Type} {d : Kd α} {ok : α → Prop} (f : β → α) (g : α → β) (hfg : ∀ a, f (g a) = a) (hu : P.underlying T = some (.struct fs)) (hs : P.cellsOf T = d.sz) (h : OpensF P fs.toList 0 d ok) :
    Opens P T (Kd.iso d f) (fun s => ok (f s)) := by
  intro H enc W base spare held fuel cs x ps ht hw
  obtain ⟨xs, n, rfl, hx, hl, hxl, hel⟩ := DataW.trod_struct hu ht
  simp only [Prod.mk.injEq] at hx
  obtain ⟨rfl, rfl⟩ := hx
  obtain ⟨a, ha, hok⟩ := h H enc W base spare held n cs xs (by omega) (by simpa using hxl) (fun i fl hf => hel i fl (by simpa using hf)) (fun n hn => hw n (by simpa [DataW.weights, hu] using hn))
  refine ⟨g a, ?_, ?_⟩
  · show d.K W (f (g a)) cs
    rw [hfg]
    simpa using ha
  · show ok (f (g a))
    rw [hfg]
    exact hok
theorem arg_weights {H : Type} {P : Program} {ts : List TypeId} {ds : List (DataW H)} (h : (DataW.weightsEach P ts ds).all (· ≤ reachBytes) = true) {j : Nat} {t : TypeId} {x : DataW H} (ht : ts[j]? = some t) (hx : ds[j]? = some x) : ∀ n ∈ x.weights P t, n ≤ reachBytes := by
  intro n hn
  have := List.all_eq_true.1 h n (DataW.weights_mem_each ht hx n hn)
  simpa using this
theorem open_arg {H : Type} {enc : TypeId × Value → H} {P : Program} {W : World} {base : Nat} {spare : Nat → Bool} {held : Bool} {T : TypeId} {α : Type} {d : Kd α} {ok : α → Prop} (hO : Opens P T d ok) {v : Value} {x : DataW H} {ps : List MemPlace}
    (h : DataW.Trod enc P W base spare held T v x ps) (hw : ∀ n ∈ x.weights P T, n ≤ reachBytes) : ∃ a : α, d.K W a v.cells.toList ∧ ok a := by
  obtain ⟨fuel, hf⟩ := h
  exact hO H enc W base spare held fuel _ x ps hf hw
theorem trod_blocks {H : Type} {enc : TypeId × Value → H} {P : Program} {W : World} {base : Nat} {spare : Nat → Bool} {held : Bool} {T : TypeId} {v : Value} {x : DataW H} {ps : List MemPlace} (h : DataW.Trod enc P W base spare held T v x ps) : ∀ y ∈ ps, y.block < W.heap.size := by
  obtain ⟨m, hm⟩ := h
  exact DataW.trod_lt m _ _ _ hm
end Go.Proofs.YtloibeefopdhpaaDoor.Row
