/- clash.Places with its closure: the walks. -/
import Derived.Test.YtmimejckcknjfaaDoorClashBase
import Derived.Test.YtmimejckcknjfaaDoorG34
import Derived.Shelf.Abstract
set_option linter.unusedVariables false
set_option linter.unusedSimpArgs false
namespace Go.Proofs.YtmimejckcknjfaaDoor.G
open Go.RowKit Go.Proofs.YtmimejckcknjfaaDoorW.PrintWords Go.Proofs.YtmimejckcknjfaaDoorW.PrintLast Go.Proofs.YtmimejckcknjfaaDoorW.PrintMore Go.Proofs.YtmimejckcknjfaaDoor.Plain

/-- The row that lies in a cell of its own. -/
structure PlAt (w : World) (g : Nat) (xs : List S35) (W : World) : Prop where
  bel : Below w.heap.size w W
  low : w.heap.size ≤ g
  row : ∃ v, W.heap[g]? = some (.cells #[v] 31 (0, 0)) ∧ Kd.R k35 35 W w.heap.size (fun k => k ≠ g) v xs
theorem PlAt.below {w : World} {g : Nat} {xs : List S35} {W W' : World} (h : PlAt w g xs W) (hb : Below W.heap.size W W') : PlAt w g xs W' := by
  obtain ⟨v, hk, hr⟩ := h.row
  exact ⟨below_then h.bel h.bel.size hb, h.low, v, blk_below hk hb, Kd.R_below hr hb⟩
set_option maxHeartbeats 4000000 in
set_option maxRecDepth 100000 in
theorem clash_Places_1.calls (k : Nat) (w : World) (g : Nat) (xs : List S35) (W : World) (x : S23) (n t : ByteArray) (hW : PlAt w g xs W) (ht : ident_Text.f k x.f0 x.f1 = some t) (hl : xs.length ≤ 1000) :
    Calls Tryd.prog 17 #[.agg #[.string x.f0, .int .i64 x.f1], .string n, .pointer (some ⟨g, 0, none⟩)] W fun e w' => e = .returned (.tuple #[]) ∧ PlAt w g (xs ++ [⟨t, n⟩]) w' ∧ ∀ (h : Nat) (cs : Array Value), W.heap[h]? = some (.cells cs 27 (0, 0)) → w'.heap[h]? = some (.cells cs 27 (0, 0)) := by
  obtain ⟨v, hk, hr⟩ := hW.row
  obtain ⟨Av, cv, rfl⟩ := Kd.R_slice hr
  have H0 : Aside0 (PlAt w g xs (W.alloc (.cells #[.string x.f0, .int .i64 x.f1] 23)) ∧ (W.alloc (.cells #[.string x.f0, .int .i64 x.f1] 23)).heap[g]? = some (.cells #[.slice Av xs.length cv] 31 (0, 0)) ∧ Kd.R k35 35 (W.alloc (.cells #[.string x.f0, .int .i64 x.f1] 23)) w.heap.size (fun k => k ≠ g) (.slice Av xs.length cv) xs ∧ (W.alloc (.cells #[.string x.f0, .int .i64 x.f1] 23)).heap[W.heap.size]? = some (.cells #[.string x.f0, .int .i64 x.f1] 23 (0, 0))) :=
    ⟨hW.below (below_alloc (Below.refl _ _) _), blk_alloc hk _, Kd.R_alloc hr _, by simpa using heap_alloc_new W _⟩
  have HW1 : Aside0 (∀ (h : Nat) (cs : Array Value), W.heap[h]? = some (.cells cs 27 (0, 0)) → (W.alloc (.cells #[.string x.f0, .int .i64 x.f1] 23)).drew.heap[h]? = some (.cells cs 27 (0, 0))) := ⟨fun h cs q => blk_drew (blk_alloc q _)⟩
  have hlow := hW.low
  have HT := Aside0.mk (fun W => ident_Text.calls k x.f0 x.f1 t W ht)
  have HL := Aside0.mk (show (xs.length + 1) * 32 ≤ 140737488355328 by omega)
  clear hW hk hr ht hl
  go_enter Tryd.func17, Tryd.ntmps17
  go_wp2_with (fail)
  generalize W.alloc (.cells #[.string x.f0, .int .i64 x.f1] 23) = W1 at *
  obtain ⟨x1, x2, -⟩ := cells2 H0.out.2.2.2
  obtain ⟨x0, -⟩ := cells1 H0.out.2.1
  replace H0 := Aside0.mk (And.intro (H0.out.1.below (below_drew (Below.refl _ _))) (And.intro (blk_drew H0.out.2.1) (And.intro (Kd.R_drew H0.out.2.2.1) (blk_drew H0.out.2.2.2))))
  go_region_law (first | (have z_ := H1; clear z_; refine Kd.R_append_rows_step k35 (w0 := w) w.heap.size (by rfl) (.tmp 5) (.tmp 10) 31 35 (.agg #[.string ⟨#[]⟩, .string ⟨#[]⟩]) 32 rfl Tryd.underlying31 info35 rfl (by decide) (by omega) _ xs [⟨t, n⟩] _ _ _ (fun k => k ≠ g) (fun _ => False) rfl rfl H3.out (Kd.R_reads' H2.out).2.2 (fun _ _ h => by obtain rfl := k35_open h; exact k35_mkM _ _ _ _) (fun _ h => h.elim) HF.out H4.out (below_size H4.out) HL.out ?_; intro v5 w5 ho hb hg hat; clear hat; obtain ⟨A5, c5, rfl⟩ := Kd.R_slice ho; simp only [List.length_append, List.length_singleton] at ho; have H5 := Aside0.mk (blk_grown (blk_alloc H1.out.2.1 (.cells #[.string t, .string n] 35)) hg (Kd.R_ne H3.out (blk_alloc H1.out.2.1 (.cells #[.string t, .string n] 35)) (by decide))); have H6 := Aside0.mk ho; have H7 := Aside0.mk hb; have H8 := Aside0.mk (blk_grown (blk_alloc H1.out.2.2.2 (.cells #[.string t, .string n] 35)) hg (Kd.R_ne H3.out (blk_alloc H1.out.2.2.2 (.cells #[.string t, .string n] 35)) (by decide))); have HK2 : Aside0 (∀ (h : Nat) (cs : Array Value), W.heap[h]? = some (.cells cs 27 (0, 0)) → w5.heap[h]? = some (.cells cs 27 (0, 0))) := ⟨fun h cs q => blk_grown (HK1.out h cs q) hg (Kd.R_ne H3.out (HK1.out h cs q) (by decide))⟩; have hf := blk_frozen H5.out 0; clear ho hb hg x0 x1 x2 x3; obtain ⟨x1, x2, -⟩ := cells2 H8.out; obtain ⟨x0, -⟩ := cells1 H5.out) | (have z_ := H0; clear z_; go_simp; go_at_call 18; refine (HT.out _).mono ?_; rintro e_ w1 ⟨rfl, hb⟩; have H1 : Aside0 (PlAt w g xs w1 ∧ w1.heap[g]? = some (.cells #[.slice Av xs.length cv] 31 (0, 0)) ∧ Kd.R k35 35 w1 w.heap.size (fun k => k ≠ g) (.slice Av xs.length cv) xs ∧ w1.heap[W.heap.size]? = some (.cells #[.string x.f0, .int .i64 x.f1] 23 (0, 0))) := ⟨H0.out.1.below hb, blk_below H0.out.2.1 hb, Kd.R_below H0.out.2.2.1 hb, blk_below H0.out.2.2.2 hb⟩; have HK1 : Aside0 (∀ (h : Nat) (cs : Array Value), W.heap[h]? = some (.cells cs 27 (0, 0)) → (w1.alloc (.cells #[.string t, .string n] 35)).heap[h]? = some (.cells cs 27 (0, 0))) := ⟨fun h cs q => blk_alloc (blk_below (HW1.out h cs q) hb) _⟩; clear H0 HW1; have H2 := Aside0.mk (R_pair1 (below_size H1.out.1.bel) t n); have H3 := Aside0.mk (Kd.R_alloc H1.out.2.2.1 (.cells #[.string t, .string n] 35)); have HF : Aside0 (∀ k_, (w1.alloc (.cells #[.string t, .string n] 35)).heap.size ≤ k_ → k_ ≠ g) := ⟨fun k_ hk_ => by have := blk_lt (blk_alloc H1.out.2.1 (.cells #[.string t, .string n] 35)); omega⟩; have H4 := Aside0.mk (below_alloc H1.out.1.bel (.cells #[.string t, .string n] 35)); clear hb x0 x1 x2; obtain ⟨x1, x2, -⟩ := cells2 H1.out.2.2.2; obtain ⟨x0, -⟩ := cells1 H1.out.2.1; obtain ⟨x3, -⟩ := cells1 (blk_alloc H1.out.2.1 (.cells #[.string t, .string n] 35))) | fail)
  all_goals
    clear x0 x1 x2 H1 H2 H3 H4 H8 HK1
    go_wp2
    go_end0
    exact ⟨rfl, ⟨below_set H7.out hlow, hlow, _, blk_put H5.out 0 _ rfl, Kd.R_far H6.out (fun _ h => h) _⟩, fun h cs q => blk_far (HK2.out h cs q) (blk_ne (HK2.out h cs q) H5.out (by decide)) _⟩
/-- The places that an operation touches. -/
def clash_Places.f (k : Nat) (x : S27) : Option (List S35) :=
  if x.f0 = 4 then (ident_Text.f k x.f2.f0 x.f2.f1).bind fun t => (ident_Text.f k x.f3.f0 x.f3.f1).bind fun u => some [⟨t, x.f4⟩, ⟨u, x.f5⟩]
  else if x.f0 = 1 ∨ x.f0 = 2 ∨ x.f0 = 3 then (ident_Text.f k x.f2.f0 x.f2.f1).bind fun t => some [⟨t, x.f4⟩]
  else some []
theorem clash_Places.mono : ∀ x k, LeO (clash_Places.f k x) (clash_Places.f (k + 1) x) := by
  intro x k
  unfold clash_Places.f
  exact LeO.ite (LeO.bind (ident_Text.mono _ _ _) fun _ => LeO.bind (ident_Text.mono _ _ _) fun _ => LeO.refl _) (LeO.ite (LeO.bind (ident_Text.mono _ _ _) fun _ => LeO.refl _) (LeO.refl _))
set_option maxHeartbeats 4000000 in
set_option maxRecDepth 100000 in
theorem clash_Places.calls (k : Nat) (x : S27) (A : Option Addr) (c : Nat) (B : Option Addr) (d : Nat) (l : List S35) (w : World) (h : clash_Places.f k x = some l) :
    Calls Tryd.prog 7 #[opV x A c B d] w fun e w' => ∃ v, e = .returned v ∧ Kd.R k35 35 w' w.heap.size (fun _ => True) v l ∧ Below w.heap.size w w' := by
  have HF := Aside0.mk h
  clear h
  go_enter Tryd.func7, Tryd.ntmps7
  go_upto_region 3 with (fail)
  obtain ⟨W, hW⟩ : ∃ W, W = (w.alloc (.cells (opCs x A c B d) 27)).alloc (.cells #[.slice none 0 0] 31) := ⟨_, rfl⟩
  have HX : Aside0 (W.heap[w.heap.size]? = some (.cells (opCs x A c B d) 27 (0, 0))) := ⟨by rw [hW]; exact blk_alloc (heap_alloc_new w _) _⟩
  have HP : Aside0 (PlAt w (w.heap.size + 1) [] W) := ⟨⟨by rw [hW]; exact below_alloc (below_alloc (Below.refl _ _) _) _, by omega, .slice none 0 0, by rw [hW]; simpa using heap_alloc_new (w.alloc (.cells (opCs x A c B d) 27)) (.cells #[.slice none 0 0] 31), Kd.R_nil _ _ _ _ _⟩⟩
  rw [← hW]
  clear hW
  obtain ⟨x0, x1, x2, x3, x4, x5, x6, x7, x8, x9, x10, x11, x12, x13, x14, x15⟩ := op_cells HX.out
  have h := HF.out
  clear HF
  unfold clash_Places.f at h
  by_cases h4 : x.f0 = 4
  case pos =>
    rw [if_pos h4] at h
    obtain ⟨t, h1, g⟩ := Option.bind_eq_some_iff.mp h
    clear h
    obtain ⟨u, h2, h⟩ := Option.bind_eq_some_iff.mp g
    clear g
    injection h with h
    subst h
    have HT := Aside0.mk h1
    have HU := Aside0.mk h2
    clear h1 h2
    go_wp2_with (fail)
    refine (clash_Places_1.calls k w (w.heap.size + 1) [] W x.f2 x.f4 t HP.out HT.out (by simp)).mono ?_
    rintro e_ w1 ⟨rfl, hp, hk⟩
    have P1 := Aside0.mk hp
    have X1 := Aside0.mk (hk _ _ HX.out)
    clear hp hk HX HP x0 x1 x2 x3 x4 x5 x6 x7 x8 x9 x10 x11 x12 x13 x14 x15
    have HX := X1
    clear X1
    obtain ⟨x0, x1, x2, x3, x4, x5, x6, x7, x8, x9, x10, x11, x12, x13, x14, x15⟩ := op_cells HX.out
    go_wp2_with (fail)
    refine (clash_Places_1.calls k w (w.heap.size + 1) _ w1 x.f3 x.f5 u P1.out HU.out (by simp)).mono ?_
    rintro e_ w2 ⟨rfl, hp, hk⟩
    have P2 := Aside0.mk hp
    have X2 := Aside0.mk (hk _ _ HX.out)
    clear hp hk HX P1 x0 x1 x2 x3 x4 x5 x6 x7 x8 x9 x10 x11 x12 x13 x14 x15
    have HX := X2
    clear X2
    obtain ⟨x0, x1, x2, x3, x4, x5, x6, x7, x8, x9, x10, x11, x12, x13, x14, x15⟩ := op_cells HX.out
    obtain ⟨v, hb, hr⟩ := P2.out.row
    obtain ⟨z0, -⟩ := cells1 hb
    have HR := Aside0.mk hr
    clear hb hr x0 x1 x2 x3 x4 x5 x6 x7 x8 x9 x10 x11 x12 x13 x14 x15
    go_wp2
    go_ret
    exact ⟨v, rfl, Kd.R_mono HR.out (fun _ _ => trivial), P2.out.bel⟩
  rw [if_neg h4] at h
  by_cases h5 : x.f0 = 1 ∨ x.f0 = 2 ∨ x.f0 = 3
  case pos =>
    rw [if_pos h5] at h
    obtain ⟨t, h1, g⟩ := Option.bind_eq_some_iff.mp h
    clear h
    injection g with h
    subst h
    have HT := Aside0.mk h1
    clear h1
    rcases h5 with h5 | h5 | h5
    all_goals
      go_wp2_with (fail)
      refine (clash_Places_1.calls k w (w.heap.size + 1) [] W x.f2 x.f4 t HP.out HT.out (by simp)).mono ?_
      rintro e_ w1 ⟨rfl, hp, hk⟩
      have P1 := Aside0.mk hp
      have X1 := Aside0.mk (hk _ _ HX.out)
      clear hp hk HX HP x0 x1 x2 x3 x4 x5 x6 x7 x8 x9 x10 x11 x12 x13 x14 x15
      have HX := X1
      clear X1
      obtain ⟨x0, x1, x2, x3, x4, x5, x6, x7, x8, x9, x10, x11, x12, x13, x14, x15⟩ := op_cells HX.out
      obtain ⟨v, hb, hr⟩ := P1.out.row
      obtain ⟨z0, -⟩ := cells1 hb
      have HR := Aside0.mk hr
      clear hb hr x0 x1 x2 x3 x4 x5 x6 x7 x8 x9 x10 x11 x12 x13 x14 x15
      go_wp2
      go_ret
      exact ⟨v, rfl, Kd.R_mono HR.out (fun _ _ => trivial), P1.out.bel⟩
  rw [if_neg h5] at h
  injection h with h
  subst h
  have e1 : (x.f0 == 1) = false := beq_eq_false_iff_ne.2 fun e => h5 (.inl e)
  have e2 : (x.f0 == 2) = false := beq_eq_false_iff_ne.2 fun e => h5 (.inr (.inl e))
  have e3 : (x.f0 == 3) = false := beq_eq_false_iff_ne.2 fun e => h5 (.inr (.inr e))
  have e4 : (x.f0 == 4) = false := beq_eq_false_iff_ne.2 h4
  obtain ⟨v, hb, hr⟩ := HP.out.row
  obtain ⟨z0, -⟩ := cells1 hb
  have HR := Aside0.mk hr
  clear hb hr h4 h5 x1 x2 x3 x4 x5 x6 x7 x8 x9 x10 x11 x12 x13 x14 x15
  generalize x.f0 = z at *
  go_wp2
  go_ret
  exact ⟨v, rfl, Kd.R_mono HR.out (fun _ _ => trivial), HP.out.bel⟩
end Go.Proofs.YtmimejckcknjfaaDoor.G
