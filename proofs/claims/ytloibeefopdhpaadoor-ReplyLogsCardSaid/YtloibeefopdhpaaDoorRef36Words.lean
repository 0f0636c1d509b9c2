/- The reference: a reply's words: the walk by hand (printed by wip/tools/gen_words36.py). -/
import Derived.Test.YtloibeefopdhpaaDoorIndexByte
import Derived.Test.YtloibeefopdhpaaDoorG21
import Derived.Deep.RegionHeld3
import Derived.Outline
set_option linter.unusedVariables false
set_option linter.unusedSimpArgs false
namespace Go.Proofs.YtloibeefopdhpaaDoor.G
open Go.RowKit Go.Proofs.YtloibeefopdhpaaDoorW.PrintWords Go.Proofs.YtloibeefopdhpaaDoorW.PrintLast Go.Proofs.YtloibeefopdhpaaDoorW.PrintMore

def wAdd (o l : List ByteArray) : Option (List ByteArray) := if o.length + l.length < 8796093022208 then some (o ++ l) else none
theorem wAdd_some {o l r : List ByteArray} (h : wAdd o l = some r) : o.length + l.length < 8796093022208 ∧ r = o ++ l := by
  unfold wAdd at h
  split at h
  · exact ⟨by assumption, (Option.some.inj h).symm⟩
  · cases h
def wPairs (k : Nat) : List S100 → List ByteArray → Option (List ByteArray)
  | [], o => some o
  | p :: ps, o => (rafterref35_Word.f k p.f0).bind fun a => (rafterref35_Word.f k p.f1).bind fun b => (wAdd o [a, b]).bind fun o => wPairs k ps o
def wPrims (k : Nat) : List S108 → List ByteArray → Option (List ByteArray)
  | [], o => some o
  | p :: ps, o => (rafterref36_Number.f k p.f0).bind fun a => (rafterref35_Word.f k p.f1).bind fun b => (rafterref35_Word.f k p.f2).bind fun c => (rafterref36_Number.f k p.f3).bind fun d => (wAdd o [a, b, c, d]).bind fun o => (rafterref36_List.f k p.f4).bind fun l => (wAdd o l).bind fun o => (rafterref36_List.f k p.f5).bind fun m => (wAdd o m).bind fun o => wPrims k ps o
def wFiles (k : Nat) : List S102 → List ByteArray → Option (List ByteArray)
  | [], o => some o
  | f :: fs, o => (rafterref35_Word.f k f.f0).bind fun a => (wAdd o [a, if f.f1 = true then (⟨#[100]⟩ : ByteArray) else (⟨#[102]⟩ : ByteArray)]).bind fun o => (rafterref36_List.f k f.f2).bind fun l => (wAdd o l).bind fun o => wFiles k fs o
def rafterref36_Words.f (k : Nat) (a0_0 : Int) (l0_1 : List ByteArray) (l0_2 : List S100) (l0_3 : List S108) (l0_4 : List S102) : Option (List ByteArray) :=
  (rafterref36_Number.f k a0_0).bind fun a => (rafterref36_List.f k l0_1).bind fun l => (wAdd [a] l).bind fun o => (rafterref36_Number.f k (l0_2.length : Int)).bind fun b => (wAdd o [b]).bind fun o => (wPairs k l0_2 o).bind fun o => (rafterref36_Number.f k (l0_3.length : Int)).bind fun c => (wAdd o [c]).bind fun o => (wPrims k l0_3 o).bind fun o => (rafterref36_Number.f k (l0_4.length : Int)).bind fun d => (wAdd o [d]).bind fun o => wFiles k l0_4 o
theorem wPairs_mono (k : Nat) : ∀ l o, LeO (wPairs k l o) (wPairs (k + 1) l o)
  | [], _ => LeO.refl _
  | p :: ps, o => LeO.bind (rafterref35_Word.mono _ _) fun _ => LeO.bind (rafterref35_Word.mono _ _) fun _ => LeO.bind (LeO.refl _) fun _ => wPairs_mono k ps _
theorem wPrims_mono (k : Nat) : ∀ l o, LeO (wPrims k l o) (wPrims (k + 1) l o)
  | [], _ => LeO.refl _
  | p :: ps, o => LeO.bind (rafterref36_Number.mono _ _) fun _ => LeO.bind (rafterref35_Word.mono _ _) fun _ => LeO.bind (rafterref35_Word.mono _ _) fun _ => LeO.bind (rafterref36_Number.mono _ _) fun _ => LeO.bind (LeO.refl _) fun _ => LeO.bind (rafterref36_List.mono _ _) fun _ => LeO.bind (LeO.refl _) fun _ => LeO.bind (rafterref36_List.mono _ _) fun _ => LeO.bind (LeO.refl _) fun _ => wPrims_mono k ps _
theorem wFiles_mono (k : Nat) : ∀ l o, LeO (wFiles k l o) (wFiles (k + 1) l o)
  | [], _ => LeO.refl _
  | p :: ps, o => LeO.bind (rafterref35_Word.mono _ _) fun _ => LeO.bind (LeO.refl _) fun _ => LeO.bind (rafterref36_List.mono _ _) fun _ => LeO.bind (LeO.refl _) fun _ => wFiles_mono k ps _
theorem rafterref36_Words.mono : ∀ a0 a1 a2 a3 a4 k, LeO (rafterref36_Words.f k a0 a1 a2 a3 a4) (rafterref36_Words.f (k + 1) a0 a1 a2 a3 a4) := by
  intro a0 a1 a2 a3 a4 k
  unfold rafterref36_Words.f
  exact LeO.bind (rafterref36_Number.mono _ _) fun _ => LeO.bind (rafterref36_List.mono _ _) fun _ => LeO.bind (LeO.refl _) fun _ => LeO.bind (rafterref36_Number.mono _ _) fun _ => LeO.bind (LeO.refl _) fun _ => LeO.bind (wPairs_mono _ _ _) fun _ => LeO.bind (rafterref36_Number.mono _ _) fun _ => LeO.bind (LeO.refl _) fun _ => LeO.bind (wPrims_mono _ _ _) fun _ => LeO.bind (rafterref36_Number.mono _ _) fun _ => LeO.bind (LeO.refl _) fun _ => wFiles_mono _ _ _

/-- The reply's block, the words so far, and that nothing elder was touched. -/
structure WordsAt (w : World) (cs : Array Value) (v : Value) (o : List ByteArray) (W : World) : Prop where mk ::
  blk : W.heap[w.heap.size]? = some (.cells cs 54 (0, 0))
  out : Kd.R Kd.string 9 W w.heap.size (fun _ => True) v o
  bel : Below w.heap.size w W
section
variable {w W W' : World} {cs : Array Value} {v v' : Value} {o o' : List ByteArray}
theorem WordsAt.drew (h : WordsAt w cs v o W) : WordsAt w cs v o W.drew := ⟨blk_drew h.blk, Kd.R_drew h.out, below_drew1 h.bel⟩
theorem WordsAt.drewN (h : WordsAt w cs v o W) (n : Nat) : WordsAt w cs v o (W.drewN n) := ⟨blk_drewN h.blk _, Kd.R_drewN h.out _, pw_below_drewN h.bel _⟩
theorem WordsAt.below (h : WordsAt w cs v o W) (hb : Below W.heap.size W W') : WordsAt w cs v o W' := ⟨blk_below h.blk hb, Kd.R_below h.out hb, below_then h.bel h.bel.size hb⟩
theorem WordsAt.alloc (h : WordsAt w cs v o W) (O : Obj) : WordsAt w cs v o (W.alloc O) := ⟨blk_alloc h.blk _, Kd.R_alloc h.out _, below_alloc h.bel _⟩
theorem WordsAt.app (h : WordsAt w cs v o W) (ho : Kd.R Kd.string 9 W' w.heap.size (fun _ => True) v' o') (hb : Below w.heap.size w W') (hg : W.grownBy W' v.ownBlock) : WordsAt w cs v' o' W' :=
  ⟨blk_grown h.blk hg (Kd.R_ne h.out h.blk (by decide)), ho, hb⟩
theorem WordsAt.far (h : WordsAt w cs v o W) {g t : Nat} {ds : Array Value} (hb : W.heap[g]? = some (.cells ds t (0, 0))) (ht : 9 ≠ t) (hg : W.grownBy W' v.ownBlock) : W'.heap[g]? = some (.cells ds t (0, 0)) :=
  blk_grown hb hg (Kd.R_ne h.out hb ht)
end
/-- A literal row of texts, just made: it can be read. -/
theorem C_strs (W : World) (xs : List ByteArray) (hx : xs.length ≤ 9223372036854775807) : Kd.C Kd.string (W.alloc (.cells (xs.map Value.string).toArray 9)) (some ⟨W.heap.size, 0, none⟩) xs.length xs := (Kd.R_reads' (R_strs (Nat.le_refl _) xs hx)).2.2

set_option maxHeartbeats 8000000 in
set_option maxRecDepth 100000 in
theorem rafterref36_Words.calls (k : Nat) (a0_0 : Int) (A0_1 : Option Addr) (c0_1 : Nat) (l0_1 : List ByteArray) (A0_2 : Option Addr) (c0_2 : Nat) (l0_2 : List S100) (A0_3 : Option Addr) (c0_3 : Nat) (l0_3 : List S108) (A0_4 : Option Addr) (c0_4 : Nat) (l0_4 : List S102) (r : List ByteArray) (w : World) (hr0_1 : Kd.C Kd.string w A0_1 l0_1.length l0_1) (hc0_1 : l0_1.length ≤ c0_1) (hr0_2 : Kd.C k100 w A0_2 l0_2.length l0_2) (hc0_2 : l0_2.length ≤ c0_2) (hr0_3 : Kd.C k108 w A0_3 l0_3.length l0_3) (hc0_3 : l0_3.length ≤ c0_3) (hr0_4 : Kd.C k102 w A0_4 l0_4.length l0_4) (hc0_4 : l0_4.length ≤ c0_4) (h : rafterref36_Words.f k a0_0 l0_1 l0_2 l0_3 l0_4 = some r) :
    Calls Tryd.prog 86 #[.agg #[.int .i64 a0_0, .slice A0_1 l0_1.length c0_1, .slice A0_2 l0_2.length c0_2, .slice A0_3 l0_3.length c0_3, .slice A0_4 l0_4.length c0_4]] w fun e w' => ∃ v0_ : Value, e = .returned (v0_) ∧ Kd.R Kd.string 9 w' w.heap.size (fun _ => True) v0_ r ∧ Below w.heap.size w w' := by
  have HR1 := Aside0.mk (And.intro hr0_1 hc0_1)
  have HR2 := Aside0.mk (And.intro hr0_2 hc0_2)
  have HR3 := Aside0.mk (And.intro hr0_3 hc0_3)
  have HR4 := Aside0.mk (And.intro hr0_4 hc0_4)
  clear hr0_1 hc0_1 hr0_2 hc0_2 hr0_3 hc0_3 hr0_4 hc0_4
  unfold rafterref36_Words.f at h
  obtain ⟨a, h1, g⟩ := Option.bind_eq_some_iff.mp h
  clear h
  obtain ⟨l, h2, h⟩ := Option.bind_eq_some_iff.mp g
  clear g
  obtain ⟨o, h3, g⟩ := Option.bind_eq_some_iff.mp h
  clear h
  obtain ⟨hl, rfl⟩ := wAdd_some h3
  have HN := Aside0.mk (fun W => rafterref36_Number.calls k a0_0 a W h1)
  have HL := Aside0.mk (fun W e1 => rafterref36_List.calls k A0_1 c0_1 l0_1 l W e1 HR1.out.2 h2)
  have HZ := Aside0.mk hl
  have HF := Aside0.mk g
  clear h1 h2 h3 hl g
  go_enter Tryd.func86, Tryd.ntmps86
  go_upto_region 1 with (fail)
  obtain ⟨W, hW⟩ : ∃ W, W = w.alloc (.cells #[.int .i64 a0_0, .slice A0_1 l0_1.length c0_1, .slice A0_2 l0_2.length c0_2, .slice A0_3 l0_3.length c0_3, .slice A0_4 l0_4.length c0_4] 54) := ⟨_, rfl⟩
  have HX : Aside0 (W.heap[w.heap.size]? = some (.cells #[.int .i64 a0_0, .slice A0_1 l0_1.length c0_1, .slice A0_2 l0_2.length c0_2, .slice A0_3 l0_3.length c0_3, .slice A0_4 l0_4.length c0_4] 54 (0, 0))) := ⟨by rw [hW]; exact heap_alloc_new w _⟩
  have HB : Aside0 (Below w.heap.size w W) := ⟨by rw [hW]; exact below_alloc (Below.refl _ _) _⟩
  rw [← hW]
  clear hW
  obtain ⟨x0, x1, x2, x3, x4, -⟩ := cells5 HX.out
  go_cut [3] (fun v_ wc => Aside0 (WordsAt w #[.int .i64 a0_0, .slice A0_1 l0_1.length c0_1, .slice A0_2 l0_2.length c0_2, .slice A0_3 l0_3.length c0_3, .slice A0_4 l0_4.length c0_4] v_ ([a] ++ l) wc))
  case first =>
    go_region_held3 (fun w' => w'.cell? ⟨w.heap.size, 0, none⟩ = some (.int .i64 a0_0) ∧ w'.cell? ⟨w.heap.size, 1, none⟩ = some (.slice A0_1 l0_1.length c0_1) ∧ w'.cell? ⟨w.heap.size, 2, none⟩ = some (.slice A0_2 l0_2.length c0_2) ∧ w'.cell? ⟨w.heap.size, 3, none⟩ = some (.slice A0_3 l0_3.length c0_3) ∧ w'.cell? ⟨w.heap.size, 4, none⟩ = some (.slice A0_4 l0_4.length c0_4)) (first | exact ⟨x0, x1, x2, x3, x4⟩ | go_keep) (first | (refine Kd.R_append_rows_step Kd.string (w0 := w) w.heap.size (by rfl) (.tmp 13) (.tmp 16) 28 9 (.string ⟨#[]⟩) 16 rfl Tryd.underlying28 info9 rfl (by decide) (by omega) _ [a] l _ _ _ (fun _ => True) (fun _ => False) rfl rfl HO2.out HLC.out (fun _ _ h => h) (fun _ h => h.elim) (fun _ _ => trivial) HB2.out (below_size HB2.out) ?aL ?_; (case aL => have hz_ := HZ.out; simp only [List.length_cons, List.length_nil] at *; omega); intro v5 w5 ho hb hg hat; clear hat; have I5 := Aside0.mk (WordsAt.mk (blk_grown HX2.out hg (Kd.R_ne HO2.out HX2.out (by decide))) ho hb); clear ho hb hg x0 x1 x2 x3 x4; obtain ⟨x0, x1, x2, x3, x4, -⟩ := cells5 I5.out.blk) | (refine Kd.R_append_rows_step Kd.string (w0 := w) w.heap.size (by rfl) (.tmp 13) (.tmp 16) 28 9 (.string ⟨#[]⟩) 16 rfl Tryd.underlying28 info9 rfl (by decide) (by omega) _ [a] l _ _ _ (fun _ => True) (fun _ => False) rfl rfl (R_strs (below_size HB2.out) [a] (by simp)) (Kd.C_alloc HLC.out _) (fun _ _ h => h) (fun _ h => h.elim) (fun _ _ => trivial) (below_alloc HB2.out _) (below_size (below_alloc HB2.out _)) ?aL ?_; (case aL => have hz_ := HZ.out; simp only [List.length_cons, List.length_nil] at *; omega); intro v5 w5 ho hb hg hat; clear hat; have I5 := Aside0.mk (WordsAt.mk (blk_grown (blk_alloc HX2.out _) hg (Kd.R_ne (R_strs (below_size HB2.out) [a] (by simp)) (blk_alloc HX2.out _) (by decide))) ho hb); clear ho hb hg x0 x1 x2 x3 x4; obtain ⟨x0, x1, x2, x3, x4, -⟩ := cells5 I5.out.blk) | (go_at_call 120; refine (HL.out _ (Kd.C_alloc (Kd.C_below HR1.out.1 HB1.out) _)).mono ?_; rintro e_ w2 ⟨vL, rfl, hR, hb⟩; obtain ⟨AL, cL, rfl⟩ := Kd.R_slice hR; have HLC := Aside0.mk (Kd.R_reads' hR).2.2; have HO2 := Aside0.mk (Kd.R_below (R_strs (below_size HB1.out) [a] (by simp)) hb); have HX2 := Aside0.mk (blk_below (blk_alloc HX1.out _) hb); have HB2 := Aside0.mk (below_then (below_alloc HB1.out _) (below_alloc HB1.out _).size hb); clear hR hb x0 x1 x2 x3 x4; obtain ⟨x0, x1, x2, x3, x4, -⟩ := cells5 HX2.out) | (go_at_call 120; refine (HL.out _ (Kd.C_below HR1.out.1 HB1.out)).mono ?_; rintro e_ w2 ⟨vL, rfl, hR, hb⟩; obtain ⟨AL, cL, rfl⟩ := Kd.R_slice hR; have HLC := Aside0.mk (Kd.R_reads' hR).2.2; have HX2 := Aside0.mk (blk_below HX1.out hb); have HB2 := Aside0.mk (below_then HB1.out HB1.out.size hb); clear hR hb x0 x1 x2 x3 x4; obtain ⟨x0, x1, x2, x3, x4, -⟩ := cells5 HX2.out) | (go_at_call 28; refine (HN.out _).mono ?_; rintro e_ w1 ⟨rfl, hd⟩; have hb := below_drawn hd; have HX1 := Aside0.mk (blk_below (blk_drew HX.out) hb); have HB1 := Aside0.mk (below_then (below_drew1 HB.out) (below_drew1 HB.out).size hb); clear hd hb x0 x1 x2 x3 x4; obtain ⟨x0, x1, x2, x3, x4, -⟩ := cells5 HX1.out))
    all_goals
      go_wp2
      go_meet
      case rel => exact I5
  clear HX HB x0 x1 x2 x3 x4 HN HL HZ
  have I0 := hcut
  clear hcut
  have h := HF.out
  clear HF
  obtain ⟨b, h1, g⟩ := Option.bind_eq_some_iff.mp h
  clear h
  obtain ⟨o, h3, h⟩ := Option.bind_eq_some_iff.mp g
  clear g
  obtain ⟨hl, rfl⟩ := wAdd_some h3
  have HN := Aside0.mk (fun W => rafterref36_Number.calls k (l0_2.length : Int) b W h1)
  have HZ := Aside0.mk hl
  have HF := Aside0.mk h
  clear h1 h3 hl h
  obtain ⟨x0, x1, x2, x3, x4, -⟩ := cells5 I0.out.blk
  go_wp2_with (fail)
  refine (HN.out _).mono ?_
  rintro e_ w1 ⟨rfl, hd⟩
  have I1 := Aside0.mk (I0.out.below (below_drawn hd))
  clear hd
  clear x0 x1 x2 x3 x4
  obtain ⟨x0, x1, x2, x3, x4, -⟩ := cells5 I1.out.blk
  go_wp2_with (first | ((with_reducible refine gate_builtin (b := .append) (xs := #[.tmp 18, .tmp 23]) rfl ?_); (try (refine gate_guard (by rfl) ?_; dsimp only)); at_builtin; refine Kd.R_append_rows Kd.string (w0 := w) w.heap.size rfl (.tmp 18) (.tmp 23) 28 9 (.string ⟨#[]⟩) 16 rfl Tryd.underlying28 info9 rfl (by decide) (by omega) _ ([a] ++ l) [b] _ _ _ (fun _ => True) (fun _ => False) rfl rfl (Kd.R_alloc I1.out.out _) (C_strs _ [b] (by simp)) (fun _ _ h => h) (fun _ h => h.elim) (fun _ _ => trivial) (below_alloc I1.out.bel _) (below_size (below_alloc I1.out.bel _)) ?aL ?_; (case aL => have hz_ := HZ.out; simp only [List.length_cons, List.length_nil] at *; omega); intro v5 w5 ho hb hg hat; clear hat; have I2 := Aside0.mk ((I1.out.alloc _).app ho hb hg); clear ho hb hg x0 x1 x2 x3 x4; obtain ⟨x0, x1, x2, x3, x4, -⟩ := cells5 I2.out.blk))
  clear I0 I1 HN HZ
  go_wp2
  clear x0 x1 x2 x3 x4
  go_loopg [3, 4] l0_2.length (fun gk v3 v4 w' => ∃ (i : Nat) (o : List ByteArray), v4 = .int .i64 i ∧ Aside0 (i + gk = l0_2.length) ∧ Aside0 (WordsAt w #[.int .i64 a0_0, .slice A0_1 l0_1.length c0_1, .slice A0_2 l0_2.length c0_2, .slice A0_3 l0_3.length c0_3, .slice A0_4 l0_4.length c0_4] v3 o w') ∧ Aside0 ((wPairs k (l0_2.drop i) o).bind (fun o => (rafterref36_Number.f k (l0_3.length : Int)).bind fun c => (wAdd o [c]).bind fun o => (wPrims k l0_3 o).bind fun o => (rafterref36_Number.f k (l0_4.length : Int)).bind fun d => (wAdd o [d]).bind fun o => wFiles k l0_4 o) = some r))
  case atStart => exact ⟨0, _, rfl, ⟨by omega⟩, I2, HF⟩
  case round =>
    clear HF I2
    obtain ⟨i, o, rfl, HI, I0, HC⟩ := hrel
    have hm := Kd.C_max HR2.out.1
    obtain ⟨x0, x1, x2, x3, x4, -⟩ := cells5 I0.out.blk
    by_cases hi : i < l0_2.length
    case neg =>
      have hi' : ¬ (i : Int) < (l0_2.length : Int) := by omega
      have h := HC.out
      rw [List.drop_eq_nil_of_le (by omega), wPairs] at h
      clear HC
      rw [Option.bind_some] at h
      obtain ⟨b, h1, g⟩ := Option.bind_eq_some_iff.mp h
      clear h
      obtain ⟨o, h3, h⟩ := Option.bind_eq_some_iff.mp g
      clear g
      obtain ⟨hl, rfl⟩ := wAdd_some h3
      have HN := Aside0.mk (fun W => rafterref36_Number.calls k (l0_3.length : Int) b W h1)
      have HZ := Aside0.mk hl
      have HF := Aside0.mk h
      clear h1 h3 hl h
      obtain ⟨x0, x1, x2, x3, x4, -⟩ := cells5 I0.out.blk
      go_wp2_with (fail)
      refine (HN.out _).mono ?_
      rintro e_ w1 ⟨rfl, hd⟩
      have I1 := Aside0.mk (I0.out.below (below_drawn hd))
      clear hd
      clear x0 x1 x2 x3 x4
      obtain ⟨x0, x1, x2, x3, x4, -⟩ := cells5 I1.out.blk
      go_wp2_with (first | ((with_reducible refine gate_builtin (b := .append) (xs := #[.tmp 49, .tmp 54]) rfl ?_); (try (refine gate_guard (by rfl) ?_; dsimp only)); at_builtin; refine Kd.R_append_rows Kd.string (w0 := w) w.heap.size rfl (.tmp 49) (.tmp 54) 28 9 (.string ⟨#[]⟩) 16 rfl Tryd.underlying28 info9 rfl (by decide) (by omega) _ o [b] _ _ _ (fun _ => True) (fun _ => False) rfl rfl (Kd.R_alloc I1.out.out _) (C_strs _ [b] (by simp)) (fun _ _ h => h) (fun _ h => h.elim) (fun _ _ => trivial) (below_alloc I1.out.bel _) (below_size (below_alloc I1.out.bel _)) ?aL ?_; (case aL => have hz_ := HZ.out; simp only [List.length_cons, List.length_nil] at *; omega); intro v5 w5 ho hb hg hat; clear hat; have I2 := Aside0.mk ((I1.out.alloc _).app ho hb hg); clear ho hb hg x0 x1 x2 x3 x4; obtain ⟨x0, x1, x2, x3, x4, -⟩ := cells5 I2.out.blk))
      clear I0 I1 HN HZ
      go_wp2
      clear x0 x1 x2 x3 x4
      go_loopg [3, 5] l0_3.length (fun gk v3 v5 w' => ∃ (i : Nat) (o : List ByteArray), v5 = .int .i64 i ∧ Aside0 (i + gk = l0_3.length) ∧ Aside0 (WordsAt w #[.int .i64 a0_0, .slice A0_1 l0_1.length c0_1, .slice A0_2 l0_2.length c0_2, .slice A0_3 l0_3.length c0_3, .slice A0_4 l0_4.length c0_4] v3 o w') ∧ Aside0 ((wPrims k (l0_3.drop i) o).bind (fun o => (rafterref36_Number.f k (l0_4.length : Int)).bind fun d => (wAdd o [d]).bind fun o => wFiles k l0_4 o) = some r))
      case atStart => exact ⟨0, _, rfl, ⟨by omega⟩, I2, HF⟩
      case round =>
        clear HF I2
        obtain ⟨i, o, rfl, HI, I0, HC⟩ := hrel
        have hm := Kd.C_max HR3.out.1
        obtain ⟨x0, x1, x2, x3, x4, -⟩ := cells5 I0.out.blk
        by_cases hi : i < l0_3.length
        case neg =>
          have hi' : ¬ (i : Int) < (l0_3.length : Int) := by omega
          have h := HC.out
          rw [List.drop_eq_nil_of_le (by omega), wPrims] at h
          clear HC
          rw [Option.bind_some] at h
          obtain ⟨b, h1, g⟩ := Option.bind_eq_some_iff.mp h
          clear h
          obtain ⟨o, h3, h⟩ := Option.bind_eq_some_iff.mp g
          clear g
          obtain ⟨hl, rfl⟩ := wAdd_some h3
          have HN := Aside0.mk (fun W => rafterref36_Number.calls k (l0_4.length : Int) b W h1)
          have HZ := Aside0.mk hl
          have HF := Aside0.mk h
          clear h1 h3 hl h
          obtain ⟨x0, x1, x2, x3, x4, -⟩ := cells5 I0.out.blk
          go_wp2_with (fail)
          refine (HN.out _).mono ?_
          rintro e_ w1 ⟨rfl, hd⟩
          have I1 := Aside0.mk (I0.out.below (below_drawn hd))
          clear hd
          clear x0 x1 x2 x3 x4
          obtain ⟨x0, x1, x2, x3, x4, -⟩ := cells5 I1.out.blk
          go_wp2_with (first | ((with_reducible refine gate_builtin (b := .append) (xs := #[.tmp 92, .tmp 97]) rfl ?_); (try (refine gate_guard (by rfl) ?_; dsimp only)); at_builtin; refine Kd.R_append_rows Kd.string (w0 := w) w.heap.size rfl (.tmp 92) (.tmp 97) 28 9 (.string ⟨#[]⟩) 16 rfl Tryd.underlying28 info9 rfl (by decide) (by omega) _ o [b] _ _ _ (fun _ => True) (fun _ => False) rfl rfl (Kd.R_alloc I1.out.out _) (C_strs _ [b] (by simp)) (fun _ _ h => h) (fun _ h => h.elim) (fun _ _ => trivial) (below_alloc I1.out.bel _) (below_size (below_alloc I1.out.bel _)) ?aL ?_; (case aL => have hz_ := HZ.out; simp only [List.length_cons, List.length_nil] at *; omega); intro v5 w5 ho hb hg hat; clear hat; have I2 := Aside0.mk ((I1.out.alloc _).app ho hb hg); clear ho hb hg x0 x1 x2 x3 x4; obtain ⟨x0, x1, x2, x3, x4, -⟩ := cells5 I2.out.blk))
          clear I0 I1 HN HZ
          go_wp2
          clear x0 x1 x2 x3 x4
          go_loopg [3, 7] l0_4.length (fun gk v3 v7 w' => ∃ (i : Nat) (o : List ByteArray), v7 = .int .i64 i ∧ Aside0 (i + gk = l0_4.length) ∧ Aside0 (WordsAt w #[.int .i64 a0_0, .slice A0_1 l0_1.length c0_1, .slice A0_2 l0_2.length c0_2, .slice A0_3 l0_3.length c0_3, .slice A0_4 l0_4.length c0_4] v3 o w') ∧ Aside0 (wFiles k (l0_4.drop i) o = some r))
          case atStart => exact ⟨0, _, rfl, ⟨by omega⟩, I2, HF⟩
          case round =>
            clear HF I2
            obtain ⟨i, o, rfl, HI, I0, HC⟩ := hrel
            have hm := Kd.C_max HR4.out.1
            obtain ⟨x0, x1, x2, x3, x4, -⟩ := cells5 I0.out.blk
            by_cases hi : i < l0_4.length
            case neg =>
              have hi' : ¬ (i : Int) < (l0_4.length : Int) := by omega
              have h := HC.out
              rw [List.drop_eq_nil_of_le (by omega), wFiles] at h
              clear HC
              injection h with h
              subst h
              go_wp2
              go_ret
              exact ⟨_, rfl, I0.out.out, I0.out.bel⟩
            have hi' : (i : Int) < (l0_4.length : Int) := by omega
            have hi0 : 0 ≤ (i : Int) := by omega
            have hrd : l0_4.drop i = rd_T102 l0_4 (i : Int) :: l0_4.drop (i + 1) := by
              rw [List.drop_eq_getElem_cons hi]
              simp [rd_T102, hi]
            have h := HC.out
            rw [hrd, wFiles] at h
            clear HC hrd
            obtain ⟨ad, B2, d2, e0, f0, f1, f2, g2, q2⟩ := at_T102 HR4.out.1 (i : Int) hi0 hi'
            rw [Int.toNat_natCast] at f0 f1 f2
            generalize rd_T102 l0_4 (i : Int) = p at *
            cases e0
            replace f0 := (I0.out.bel.cell (World.block_lt_of_cell? w _ f0)).trans f0
            replace f1 := (I0.out.bel.cell (World.block_lt_of_cell? w _ f1)).trans f1
            replace f2 := (I0.out.bel.cell (World.block_lt_of_cell? w _ f2)).trans f2
            obtain ⟨a, h1, g⟩ := Option.bind_eq_some_iff.mp h
            clear h
            have h := g
            clear g
            obtain ⟨o2, h5, g⟩ := Option.bind_eq_some_iff.mp h
            clear h
            have h := g
            clear g
            obtain ⟨l, h6, g⟩ := Option.bind_eq_some_iff.mp h
            clear h
            have h := g
            clear g
            obtain ⟨o3, h7, g⟩ := Option.bind_eq_some_iff.mp h
            clear h
            have h := g
            clear g
            obtain ⟨hl, rfl⟩ := wAdd_some h5
            obtain ⟨hl2, rfl⟩ := wAdd_some h7
            have HW0 := Aside0.mk (fun W => rafterref35_Word.calls k p.f0 a W h1)
            have HL2 := Aside0.mk (fun W e1 => rafterref36_List.calls k B2 d2 p.f2 l W e1 g2 h6)
            have HQ2 := Aside0.mk q2
            have HZ := Aside0.mk hl
            have HZ2 := Aside0.mk hl2
            have HF := Aside0.mk h
            have r1 : (0 ≤ (i : Int)) = True := eq_true hi0
            have r2 : ((i : Int) < (l0_4.length : Int)) = True := eq_true hi'
            have hi9 : (i : Int) + 1 ≤ 9223372036854775807 := by omega
            clear h1 h5 h6 h7 hl hl2 h hi0 q2
            obtain ⟨kd, hkd⟩ : ∃ kd, kd = if p.f1 = true then (⟨#[100]⟩ : ByteArray) else (⟨#[102]⟩ : ByteArray) := ⟨_, rfl⟩
            rw [← hkd] at HZ HZ2 HF
            go_upto_region 20 with (fail)
            obtain ⟨W, hW⟩ : ∃ W, W = wr.alloc (.cells #[.string p.f0, .bool p.f1, .slice B2 p.f2.length d2] 102) := ⟨_, rfl⟩
            have P0 := Aside0.mk (heap_alloc_new wr (.cells #[.string p.f0, .bool p.f1, .slice B2 p.f2.length d2] 102))
            have J0 := Aside0.mk (I0.out.alloc (.cells #[.string p.f0, .bool p.f1, .slice B2 p.f2.length d2] 102))
            rw [← hW] at P0 J0 ⊢
            clear hW f0 f1 f2 x0 x1 x2 x3 x4 I0
            cases hd : p.f1
            all_goals
              obtain ⟨y0, y1, y2, -⟩ := cells3 P0.out
              have y1b := y1
              rw [hd] at y1b
              first
                | (have hk2 : kd = (⟨#[100]⟩ : ByteArray) := by rw [hkd, hd]; rfl)
                | (have hk2 : kd = (⟨#[102]⟩ : ByteArray) := by rw [hkd, hd]; rfl)
              subst hk2
              clear y1 hkd
              go_upto_region 22 with (fail)
              clear y1b y0 y2
              obtain ⟨y0, y1, y2, -⟩ := cells3 P0.out
              go_region_held3 (fun w' => w'.cell? ⟨wr.heap.size, 0, none⟩ = some (.string p.f0) ∧ w'.cell? ⟨wr.heap.size, 1, none⟩ = some (.bool p.f1) ∧ w'.cell? ⟨wr.heap.size, 2, none⟩ = some (.slice B2 p.f2.length d2)) (first | exact ⟨y0, y1, y2⟩ | go_keep) (first | (have z_ := J3; clear z_; refine Kd.R_append_rows_step Kd.string (w0 := w) w.heap.size (by rfl) (.tmp 119) (.tmp 122) 28 9 (.string ⟨#[]⟩) 16 rfl Tryd.underlying28 info9 rfl (by decide) (by omega) _ _ l _ _ _ (fun _ => True) (fun _ => False) rfl rfl J3.out.out HC3.out (fun _ _ h => h) (fun _ h => h.elim) (fun _ _ => trivial) J3.out.bel (below_size J3.out.bel) ?aL ?_; (case aL => have hz_ := HZ2.out; simp only [List.length_cons, List.length_nil] at *; omega); intro v5 w5 ho hb hg hat; clear hat; have P4 := Aside0.mk (J3.out.far P3.out (by decide) hg); have J4 := Aside0.mk (J3.out.app ho hb hg); clear ho hb hg; clear y0 y1 y2; obtain ⟨y0, y1, y2, -⟩ := cells3 P4.out) | (have z_ := J2; clear z_; go_at_call 120; refine (HL2.out _ (Kd.C_below HQ2.out J2.out.bel)).mono ?_; rintro e_ w3 ⟨vL, rfl, hR, hb⟩; obtain ⟨AL3, cL3, rfl⟩ := Kd.R_slice hR; have HC3 := Aside0.mk (Kd.R_reads' hR).2.2; have J3 := Aside0.mk (J2.out.below hb); have P3 := Aside0.mk (blk_below (P2.out) hb); clear hR hb; clear y0 y1 y2; obtain ⟨y0, y1, y2, -⟩ := cells3 P3.out) | (have z_ := J1; clear z_; refine Kd.R_append_rows_step Kd.string (w0 := w) w.heap.size (by rfl) (.tmp 113) (.tmp 118) 28 9 (.string ⟨#[]⟩) 16 rfl Tryd.underlying28 info9 rfl (by decide) (by omega) _ o [a, _] _ _ _ (fun _ => True) (fun _ => False) rfl rfl (Kd.R_alloc J1.out.out _) (C_strs _ [a, _] (by simp)) (fun _ _ h => h) (fun _ h => h.elim) (fun _ _ => trivial) (below_alloc J1.out.bel _) (below_size (below_alloc J1.out.bel _)) ?aL ?_; (case aL => have hz_ := HZ.out; simp only [List.length_cons, List.length_nil] at *; omega); intro v5 w5 ho hb hg hat; clear hat; have P2 := Aside0.mk ((J1.out.alloc _).far (blk_alloc P1.out _) (by decide) hg); have J2 := Aside0.mk ((J1.out.alloc _).app ho hb hg); clear ho hb hg; clear y0 y1 y2; obtain ⟨y0, y1, y2, -⟩ := cells3 P2.out) | (have z_ := J0; clear z_; go_at_call 15; refine (HW0.out _).mono ?_; rintro e_ w1 ⟨rfl, hb⟩; have J1 := Aside0.mk (J0.out.drew.below hb); have P1 := Aside0.mk (blk_below (blk_drew P0.out) hb); clear hb; clear y0 y1 y2; obtain ⟨y0, y1, y2, -⟩ := cells3 P1.out))
              clear J0 J1 J2 J3 P0 P1 P2 P3 P4 y0 y1 y2 HW0 HL2 HC3 HZ HZ2 HQ2 r1 r2
              go_wp2
              go_roundg (gk - 1)
              case measure => have := HI.out; omega
              case rel => exact ⟨i + 1, _, by go_num, ⟨by have := HI.out; omega⟩, J4, HF⟩
        have hi' : (i : Int) < (l0_3.length : Int) := by omega
        have hi0 : 0 ≤ (i : Int) := by omega
        have hrd : l0_3.drop i = rd_T108 l0_3 (i : Int) :: l0_3.drop (i + 1) := by
          rw [List.drop_eq_getElem_cons hi]
          simp [rd_T108, hi]
        have h := HC.out
        rw [hrd, wPrims] at h
        clear HC hrd
        obtain ⟨ad, B4, d4, B5, d5, e0, f0, f1, f2, f3, f4, f5, g4, q4, g5, q5⟩ := at_T108 HR3.out.1 (i : Int) hi0 hi'
        rw [Int.toNat_natCast] at f0 f1 f2 f3 f4 f5
        generalize rd_T108 l0_3 (i : Int) = p at *
        cases e0
        replace f0 := (I0.out.bel.cell (World.block_lt_of_cell? w _ f0)).trans f0
        replace f1 := (I0.out.bel.cell (World.block_lt_of_cell? w _ f1)).trans f1
        replace f2 := (I0.out.bel.cell (World.block_lt_of_cell? w _ f2)).trans f2
        replace f3 := (I0.out.bel.cell (World.block_lt_of_cell? w _ f3)).trans f3
        replace f4 := (I0.out.bel.cell (World.block_lt_of_cell? w _ f4)).trans f4
        replace f5 := (I0.out.bel.cell (World.block_lt_of_cell? w _ f5)).trans f5
        simp only [Option.bind_assoc] at h
        obtain ⟨a, h1, g⟩ := Option.bind_eq_some_iff.mp h
        clear h
        have h := g
        clear g
        obtain ⟨b, h2, g⟩ := Option.bind_eq_some_iff.mp h
        clear h
        have h := g
        clear g
        obtain ⟨c, h3, g⟩ := Option.bind_eq_some_iff.mp h
        clear h
        have h := g
        clear g
        obtain ⟨d, h4, g⟩ := Option.bind_eq_some_iff.mp h
        clear h
        have h := g
        clear g
        obtain ⟨o2, h5, g⟩ := Option.bind_eq_some_iff.mp h
        clear h
        have h := g
        clear g
        obtain ⟨l, h6, g⟩ := Option.bind_eq_some_iff.mp h
        clear h
        have h := g
        clear g
        obtain ⟨o3, h7, g⟩ := Option.bind_eq_some_iff.mp h
        clear h
        have h := g
        clear g
        obtain ⟨m, h8, g⟩ := Option.bind_eq_some_iff.mp h
        clear h
        have h := g
        clear g
        obtain ⟨o4, h9, g⟩ := Option.bind_eq_some_iff.mp h
        clear h
        have h := g
        clear g
        obtain ⟨hl, rfl⟩ := wAdd_some h5
        obtain ⟨hl2, rfl⟩ := wAdd_some h7
        obtain ⟨hl3, rfl⟩ := wAdd_some h9
        have HN0 := Aside0.mk (fun W => rafterref36_Number.calls k p.f0 a W h1)
        have HW1 := Aside0.mk (fun W => rafterref35_Word.calls k p.f1 b W h2)
        have HW2 := Aside0.mk (fun W => rafterref35_Word.calls k p.f2 c W h3)
        have HN3 := Aside0.mk (fun W => rafterref36_Number.calls k p.f3 d W h4)
        have HL4 := Aside0.mk (fun W e1 => rafterref36_List.calls k B4 d4 p.f4 l W e1 g4 h6)
        have HL5 := Aside0.mk (fun W e1 => rafterref36_List.calls k B5 d5 p.f5 m W e1 g5 h8)
        have HQ4 := Aside0.mk q4
        have HQ5 := Aside0.mk q5
        have HZ := Aside0.mk hl
        have HZ2 := Aside0.mk hl2
        have HZ3 := Aside0.mk hl3
        have HF := Aside0.mk h
        have r1 : (0 ≤ (i : Int)) = True := eq_true hi0
        have r2 : ((i : Int) < (l0_3.length : Int)) = True := eq_true hi'
        have hi9 : (i : Int) + 1 ≤ 9223372036854775807 := by omega
        clear h1 h2 h3 h4 h5 h6 h7 h8 h9 hl hl2 hl3 h hi0 q4 q5
        go_upto_region 12 with (fail)
        obtain ⟨W, hW⟩ : ∃ W, W = wr.alloc (.cells #[.int .i64 p.f0, .string p.f1, .string p.f2, .int .i64 p.f3, .slice B4 p.f4.length d4, .slice B5 p.f5.length d5] 108) := ⟨_, rfl⟩
        have P0 := Aside0.mk (heap_alloc_new wr (.cells #[.int .i64 p.f0, .string p.f1, .string p.f2, .int .i64 p.f3, .slice B4 p.f4.length d4, .slice B5 p.f5.length d5] 108))
        have J0 := Aside0.mk (I0.out.alloc (.cells #[.int .i64 p.f0, .string p.f1, .string p.f2, .int .i64 p.f3, .slice B4 p.f4.length d4, .slice B5 p.f5.length d5] 108))
        rw [← hW] at P0 J0 ⊢
        clear hW f0 f1 f2 f3 f4 f5 x0 x1 x2 x3 x4 I0
        obtain ⟨y0, y1, y2, y3, y4, y5, -⟩ := cells6 P0.out
        go_region_held3 (fun w' => w'.cell? ⟨wr.heap.size, 0, none⟩ = some (.int .i64 p.f0) ∧ w'.cell? ⟨wr.heap.size, 1, none⟩ = some (.string p.f1) ∧ w'.cell? ⟨wr.heap.size, 2, none⟩ = some (.string p.f2) ∧ w'.cell? ⟨wr.heap.size, 3, none⟩ = some (.int .i64 p.f3) ∧ w'.cell? ⟨wr.heap.size, 4, none⟩ = some (.slice B4 p.f4.length d4) ∧ w'.cell? ⟨wr.heap.size, 5, none⟩ = some (.slice B5 p.f5.length d5)) (first | exact ⟨y0, y1, y2, y3, y4, y5⟩ | go_keep) (first | (have z_ := J4; clear z_; refine Kd.R_append_rows_step Kd.string (w0 := w) w.heap.size (by rfl) (.tmp 68) (.tmp 81) 28 9 (.string ⟨#[]⟩) 16 rfl Tryd.underlying28 info9 rfl (by decide) (by omega) _ o [a, b, c, d] _ _ _ (fun _ => True) (fun _ => False) rfl rfl (Kd.R_alloc J4.out.out _) (C_strs _ [a, b, c, d] (by simp)) (fun _ _ h => h) (fun _ h => h.elim) (fun _ _ => trivial) (below_alloc J4.out.bel _) (below_size (below_alloc J4.out.bel _)) ?aL ?_; (case aL => have hz_ := HZ.out; simp only [List.length_cons, List.length_nil] at *; omega); intro v5 w5 ho hb hg hat; clear hat; have P5 := Aside0.mk ((J4.out.alloc _).far (blk_alloc P4.out _) (by decide) hg); have J5 := Aside0.mk ((J4.out.alloc _).app ho hb hg); clear ho hb hg; clear y0 y1 y2 y3 y4 y5; obtain ⟨y0, y1, y2, y3, y4, y5, -⟩ := cells6 P5.out) | (have z_ := J3; clear z_; go_at_call 28; refine (HN3.out _).mono ?_; rintro e_ w4 ⟨rfl, hd⟩; have hb := below_drawn hd; clear hd; have J4 := Aside0.mk (J3.out.below hb); have P4 := Aside0.mk (blk_below (P3.out) hb); clear hb; clear y0 y1 y2 y3 y4 y5; obtain ⟨y0, y1, y2, y3, y4, y5, -⟩ := cells6 P4.out) | (have z_ := J2; clear z_; go_at_call 15; refine (HW2.out _).mono ?_; rintro e_ w3 ⟨rfl, hb⟩; have J3 := Aside0.mk (J2.out.below hb); have P3 := Aside0.mk (blk_below (P2.out) hb); clear hb; clear y0 y1 y2 y3 y4 y5; obtain ⟨y0, y1, y2, y3, y4, y5, -⟩ := cells6 P3.out) | (have z_ := J1; clear z_; go_at_call 15; refine (HW1.out _).mono ?_; rintro e_ w2 ⟨rfl, hb⟩; have J2 := Aside0.mk (J1.out.below hb); have P2 := Aside0.mk (blk_below (P1.out) hb); clear hb; clear y0 y1 y2 y3 y4 y5; obtain ⟨y0, y1, y2, y3, y4, y5, -⟩ := cells6 P2.out) | (have z_ := J0; clear z_; go_at_call 28; refine (HN0.out _).mono ?_; rintro e_ w1 ⟨rfl, hd⟩; have hb := below_drawn hd; clear hd; have J1 := Aside0.mk (J0.out.drew.below hb); have P1 := Aside0.mk (blk_below (blk_drew P0.out) hb); clear hb; clear y0 y1 y2 y3 y4 y5; obtain ⟨y0, y1, y2, y3, y4, y5, -⟩ := cells6 P1.out))
        clear J0 J1 J2 J3 J4 P0 P1 P2 P3 P4 HN0 HW1 HW2 HN3 HZ
        go_upto_region 13 with (fail)
        go_region_held3 (fun w' => w'.cell? ⟨wr.heap.size, 0, none⟩ = some (.int .i64 p.f0) ∧ w'.cell? ⟨wr.heap.size, 1, none⟩ = some (.string p.f1) ∧ w'.cell? ⟨wr.heap.size, 2, none⟩ = some (.string p.f2) ∧ w'.cell? ⟨wr.heap.size, 3, none⟩ = some (.int .i64 p.f3) ∧ w'.cell? ⟨wr.heap.size, 4, none⟩ = some (.slice B4 p.f4.length d4) ∧ w'.cell? ⟨wr.heap.size, 5, none⟩ = some (.slice B5 p.f5.length d5)) (first | exact ⟨y0, y1, y2, y3, y4, y5⟩ | go_keep) (first | (have z_ := J8; clear z_; refine Kd.R_append_rows_step Kd.string (w0 := w) w.heap.size (by rfl) (.tmp 87) (.tmp 90) 28 9 (.string ⟨#[]⟩) 16 rfl Tryd.underlying28 info9 rfl (by decide) (by omega) _ (o ++ [a, b, c, d] ++ l) m _ _ _ (fun _ => True) (fun _ => False) rfl rfl J8.out.out HC8.out (fun _ _ h => h) (fun _ h => h.elim) (fun _ _ => trivial) J8.out.bel (below_size J8.out.bel) ?aL ?_; (case aL => have hz_ := HZ3.out; simp only [List.length_cons, List.length_nil] at *; omega); intro v5 w5 ho hb hg hat; clear hat; have P9 := Aside0.mk (J8.out.far P8.out (by decide) hg); have J9 := Aside0.mk (J8.out.app ho hb hg); clear ho hb hg; clear y0 y1 y2 y3 y4 y5; obtain ⟨y0, y1, y2, y3, y4, y5, -⟩ := cells6 P9.out) | (have z_ := J7; clear z_; go_at_call 120; refine (HL5.out _ (Kd.C_below HQ5.out J7.out.bel)).mono ?_; rintro e_ w8 ⟨vL, rfl, hR, hb⟩; obtain ⟨AL8, cL8, rfl⟩ := Kd.R_slice hR; have HC8 := Aside0.mk (Kd.R_reads' hR).2.2; have J8 := Aside0.mk (J7.out.below hb); have P8 := Aside0.mk (blk_below (P7.out) hb); clear hR hb; clear y0 y1 y2 y3 y4 y5; obtain ⟨y0, y1, y2, y3, y4, y5, -⟩ := cells6 P8.out) | (have z_ := J6; clear z_; refine Kd.R_append_rows_step Kd.string (w0 := w) w.heap.size (by rfl) (.tmp 83) (.tmp 86) 28 9 (.string ⟨#[]⟩) 16 rfl Tryd.underlying28 info9 rfl (by decide) (by omega) _ (o ++ [a, b, c, d]) l _ _ _ (fun _ => True) (fun _ => False) rfl rfl J6.out.out HC6.out (fun _ _ h => h) (fun _ h => h.elim) (fun _ _ => trivial) J6.out.bel (below_size J6.out.bel) ?aL ?_; (case aL => have hz_ := HZ2.out; simp only [List.length_cons, List.length_nil] at *; omega); intro v5 w5 ho hb hg hat; clear hat; have P7 := Aside0.mk (J6.out.far P6.out (by decide) hg); have J7 := Aside0.mk (J6.out.app ho hb hg); clear ho hb hg; clear y0 y1 y2 y3 y4 y5; obtain ⟨y0, y1, y2, y3, y4, y5, -⟩ := cells6 P7.out) | (have z_ := J5; clear z_; go_at_call 120; refine (HL4.out _ (Kd.C_below HQ4.out J5.out.drew.bel)).mono ?_; rintro e_ w6 ⟨vL, rfl, hR, hb⟩; obtain ⟨AL6, cL6, rfl⟩ := Kd.R_slice hR; have HC6 := Aside0.mk (Kd.R_reads' hR).2.2; have J6 := Aside0.mk (J5.out.drew.below hb); have P6 := Aside0.mk (blk_below (blk_drew P5.out) hb); clear hR hb; clear y0 y1 y2 y3 y4 y5; obtain ⟨y0, y1, y2, y3, y4, y5, -⟩ := cells6 P6.out))
        clear J5 J6 J7 J8 P5 P6 P7 P8 P9 y0 y1 y2 y3 y4 y5 HL4 HL5 HC6 HC8 HZ2 HZ3 HQ4 HQ5 r1 r2
        go_wp2
        go_roundg (gk - 1)
        case measure => have := HI.out; omega
        case rel => exact ⟨i + 1, _, by go_num, ⟨by have := HI.out; omega⟩, J9, HF⟩
    have hi' : (i : Int) < (l0_2.length : Int) := by omega
    have hi0 : 0 ≤ (i : Int) := by omega
    have hrd : l0_2.drop i = rd_T100 l0_2 (i : Int) :: l0_2.drop (i + 1) := by
      rw [List.drop_eq_getElem_cons hi]
      simp [rd_T100, hi]
    have h := HC.out
    rw [hrd, wPairs] at h
    clear HC hrd
    obtain ⟨ad, e0, f0, f1⟩ := at_T100 HR2.out.1 (i : Int) hi0 hi'
    rw [Int.toNat_natCast] at f0 f1
    generalize rd_T100 l0_2 (i : Int) = p at *
    cases e0
    have v0 := f0
    have v1 := f1
    replace f0 := (I0.out.bel.cell (World.block_lt_of_cell? w _ f0)).trans f0
    replace f1 := (I0.out.bel.cell (World.block_lt_of_cell? w _ f1)).trans f1
    simp only [Option.bind_assoc] at h
    obtain ⟨a, h1, g⟩ := Option.bind_eq_some_iff.mp h
    clear h
    have h := g
    clear g
    obtain ⟨b, h2, g⟩ := Option.bind_eq_some_iff.mp h
    clear h
    have h := g
    clear g
    obtain ⟨o2, h3, g⟩ := Option.bind_eq_some_iff.mp h
    clear h
    have h := g
    clear g
    obtain ⟨hl, rfl⟩ := wAdd_some h3
    have HW0 := Aside0.mk (fun W => rafterref35_Word.calls k p.f0 a W h1)
    have HW1 := Aside0.mk (fun W => rafterref35_Word.calls k p.f1 b W h2)
    have HZ := Aside0.mk hl
    have HF := Aside0.mk h
    have r1 : (0 ≤ (i : Int)) = True := eq_true hi0
    have r2 : ((i : Int) < (l0_2.length : Int)) = True := eq_true hi'
    have hi9 : (i : Int) + 1 ≤ 9223372036854775807 := by omega
    clear h1 h2 h3 hl h hi0
    go_upto_region 6 with (fail)
    go_region_held3 (fun w' => w'.cell? ⟨w.heap.size, 0, none⟩ = some (.int .i64 a0_0) ∧ w'.cell? ⟨w.heap.size, 1, none⟩ = some (.slice A0_1 l0_1.length c0_1) ∧ w'.cell? ⟨w.heap.size, 2, none⟩ = some (.slice (some ad) l0_2.length c0_2) ∧ w'.cell? ⟨w.heap.size, 3, none⟩ = some (.slice A0_3 l0_3.length c0_3) ∧ w'.cell? ⟨w.heap.size, 4, none⟩ = some (.slice A0_4 l0_4.length c0_4) ∧ w'.cell? (ad.add (i * 2)) = some (.string p.f0) ∧ w'.cell? ⟨(ad.add (i * 2)).block, (ad.add (i * 2)).off + 1, none⟩ = some (.string p.f1)) (first | exact ⟨x0, x1, x2, x3, x4, f0, f1⟩ | go_keep) (first | (have z_ := I2; clear z_; refine Kd.R_append_rows_step Kd.string (w0 := w) w.heap.size (by rfl) (.tmp 32) (.tmp 47) 28 9 (.string ⟨#[]⟩) 16 rfl Tryd.underlying28 info9 rfl (by decide) (by omega) _ o [a, b] _ _ _ (fun _ => True) (fun _ => False) rfl rfl (Kd.R_alloc I2.out.out _) (C_strs _ [a, b] (by simp)) (fun _ _ h => h) (fun _ h => h.elim) (fun _ _ => trivial) (below_alloc I2.out.bel _) (below_size (below_alloc I2.out.bel _)) ?aL ?_; (case aL => have hz_ := HZ.out; simp only [List.length_cons, List.length_nil] at *; omega); intro v5 w5 ho hb hg hat; clear hat; have I3 := Aside0.mk ((I2.out.alloc _).app ho hb hg); replace f0 := (hb.cell (World.block_lt_of_cell? w _ v0)).trans v0; replace f1 := (hb.cell (World.block_lt_of_cell? w _ v1)).trans v1; clear ho hb hg; clear x0 x1 x2 x3 x4; obtain ⟨x0, x1, x2, x3, x4, -⟩ := cells5 I3.out.blk) | (have z_ := I1; clear z_; go_at_call 15; refine (HW1.out _).mono ?_; rintro e_ w2 ⟨rfl, hb⟩; have I2 := Aside0.mk (I1.out.below hb); replace f0 := (hb.cell (World.block_lt_of_cell? _ _ f0)).trans f0; replace f1 := (hb.cell (World.block_lt_of_cell? _ _ f1)).trans f1; clear hb; clear x0 x1 x2 x3 x4; obtain ⟨x0, x1, x2, x3, x4, -⟩ := cells5 I2.out.blk) | (go_at_call 15; refine (HW0.out _).mono ?_; rintro e_ w1 ⟨rfl, hb⟩; have I1 := Aside0.mk (I0.out.drew.below hb); replace f0 := (hb.cell (World.block_lt_of_cell? _ _ f0)).trans f0; replace f1 := (hb.cell (World.block_lt_of_cell? _ _ f1)).trans f1; clear hb; clear x0 x1 x2 x3 x4; obtain ⟨x0, x1, x2, x3, x4, -⟩ := cells5 I1.out.blk))
    clear I1 I2 HW0 HW1 HZ f0 f1 v0 v1 x0 x1 x2 x3 x4 r1 r2
    go_wp2
    go_roundg (gk - 1)
    case measure => have := HI.out; omega
    case rel => exact ⟨i + 1, _, by go_num, ⟨by have := HI.out; omega⟩, I3, HF⟩
end Go.Proofs.YtloibeefopdhpaaDoor.G
