/- What must come at any rate of reply: the walk of rafterlaw36.awake. -/
import Derived.Test.YtloibeefopdhpaaDoorG17
import Derived.Test.YtloibeefopdhpaaDoorReplyErrs
import Derived.Outline
set_option linter.unusedVariables false
namespace Go.Proofs.YtloibeefopdhpaaDoor.G
open Go.RowKit Go.Proofs.YtloibeefopdhpaaDoorW.PrintWords Go.Proofs.YtloibeefopdhpaaDoorW.PrintLast Go.Proofs.YtloibeefopdhpaaDoorW.PrintMore

abbrev TReply := S54
theorem C_one {α : Type} {d : Kd α} {W : World} {g t : Nat} {x : α} {cs : List Value} (hb : W.heap[g]? = some (.cells cs.toArray t (0, 0))) (hK : d.K W x cs) : d.C W (some ⟨g, 0, none⟩) [x].length [x] := by
  refine ⟨rfl, by simp, fun _ => ⟨_, rfl, fun j p hj => ?_⟩⟩
  obtain rfl : j = 0 := by
    have := (List.getElem?_eq_some_iff.1 hj).1
    simp at this
    exact this
  injection hj with hj
  subst hj
  refine ⟨cs, d.K_len hK, hK, fun i u hu => ?_⟩
  rw [Nat.zero_mul, Nat.zero_add, add_plain, blk_cell hb]
  simpa using hu
theorem C_two {α : Type} {d : Kd α} {W : World} {g t : Nat} {x y : α} {cs ds : List Value} (hb : W.heap[g]? = some (.cells (cs ++ ds).toArray t (0, 0))) (hK : d.K W x cs) (hL : d.K W y ds) : d.C W (some ⟨g, 0, none⟩) [x, y].length [x, y] := by
  refine ⟨rfl, by simp, fun _ => ⟨_, rfl, fun j p hj => ?_⟩⟩
  have hjl := (List.getElem?_eq_some_iff.1 hj).1
  simp only [List.length_cons, List.length_nil] at hjl
  rcases (show j = 0 ∨ j = 1 by omega) with rfl | rfl
  · injection hj with hj
    subst hj
    refine ⟨cs, d.K_len hK, hK, fun i u hu => ?_⟩
    have hi := (List.getElem?_eq_some_iff.1 hu).1
    rw [Nat.zero_mul, Nat.zero_add, add_plain, blk_cell hb]
    simpa [List.getElem?_append_left hi] using hu
  · injection hj with hj
    subst hj
    refine ⟨ds, d.K_len hL, hL, fun i u hu => ?_⟩
    rw [Nat.one_mul, add_plain, blk_cell hb]
    have h1 := d.K_len hK
    simpa [List.getElem?_append_right (show cs.length ≤ d.sz + i by omega), h1] using hu
def rA : TReply := ⟨9, [⟨#[97]⟩], [⟨⟨#[97]⟩, ⟨#[98, 32, 99]⟩⟩], [], [⟨⟨#[120]⟩, false, [⟨#[]⟩]⟩]⟩
def zA : TReply := ⟨0, [], [], [], []⟩
/-- The blocks of the reply that is written down. -/
structure AwBlk (b : Nat) (W : World) : Prop where mk ::
  s1 : W.heap[b]? = some (.cells #[.string ⟨#[97]⟩] 9 (0, 0))
  p1 : W.heap[b + 1]? = some (.cells #[.string ⟨#[97]⟩, .string ⟨#[98, 32, 99]⟩] 100 (0, 0))
  s2 : W.heap[b + 1 + 1]? = some (.cells #[.string ⟨#[]⟩] 9 (0, 0))
  f1 : W.heap[b + 1 + 1 + 1]? = some (.cells #[.string ⟨#[120]⟩, .bool false, .slice (some ⟨b + 1 + 1, 0, none⟩) 1 1] 102 (0, 0))
  rp : W.heap[b + 1 + 1 + 1 + 1]? = some (.cells #[.int .i64 9, .slice (some ⟨b, 0, none⟩) 1 1, .slice (some ⟨b + 1, 0, none⟩) 1 1, .slice none 0 0, .slice (some ⟨b + 1 + 1 + 1, 0, none⟩) 1 1] 54 (0, 0))
def awW (w : World) : World := ((((w.alloc (.cells #[.string ⟨#[97]⟩] 9)).alloc (.cells #[.string ⟨#[97]⟩, .string ⟨#[98, 32, 99]⟩] 100)).alloc (.cells #[.string ⟨#[]⟩] 9)).alloc (.cells #[.string ⟨#[120]⟩, .bool false, .slice (some ⟨w.heap.size + 1 + 1, 0, none⟩) 1 1] 102)).alloc (.cells #[.int .i64 9, .slice (some ⟨w.heap.size, 0, none⟩) 1 1, .slice (some ⟨w.heap.size + 1, 0, none⟩) 1 1, .slice none 0 0, .slice (some ⟨w.heap.size + 1 + 1 + 1, 0, none⟩) 1 1] 54)
theorem new_at (w : World) (n : Nat) (hn : w.heap.size = n) (cs : Array Value) (t : Nat) : (w.alloc (.cells cs t)).heap[n]? = some (.cells cs t (0, 0)) := by
  subst hn
  exact heap_alloc_new w (.cells cs t)
theorem aw_start (w : World) : AwBlk w.heap.size (awW w) ∧ Below w.heap.size w (awW w) := by
  unfold awW
  exact ⟨⟨blk_alloc (blk_alloc (blk_alloc (blk_alloc (new_at _ _ rfl _ _) _) _) _) _, blk_alloc (blk_alloc (blk_alloc (new_at _ _ (by simp) _ _) _) _) _, blk_alloc (blk_alloc (new_at _ _ (by simp) _ _) _) _, blk_alloc (new_at _ _ (by simp) _ _) _, new_at _ _ (by simp) _ _⟩,
    below_alloc (below_alloc (below_alloc (below_alloc (below_alloc (Below.refl _ _) _) _) _) _) _⟩
theorem AwBlk.step {b : Nat} {W W' : World} (h : AwBlk b W) (hb : Below W.heap.size W W') : AwBlk b W' :=
  ⟨blk_below h.s1 hb, blk_below h.p1 hb, blk_below h.s2 hb, blk_below h.f1 hb, blk_below h.rp hb⟩
theorem AwBlk.alloc {b : Nat} {W : World} (h : AwBlk b W) (o : Obj) : AwBlk b (W.alloc o) :=
  ⟨blk_alloc h.s1 _, blk_alloc h.p1 _, blk_alloc h.s2 _, blk_alloc h.f1 _, blk_alloc h.rp _⟩
theorem AwBlk.C1 {b : Nat} {W : World} (h : AwBlk b W) : Kd.C Kd.string W (some ⟨b, 0, none⟩) rA.f1.length rA.f1 := C_one (cs := [.string ⟨#[97]⟩]) h.s1 rfl
theorem AwBlk.C2 {b : Nat} {W : World} (h : AwBlk b W) : Kd.C k100 W (some ⟨b + 1, 0, none⟩) rA.f2.length rA.f2 := C_one (cs := [.string ⟨#[97]⟩, .string ⟨#[98, 32, 99]⟩]) h.p1 (k100_mk W ⟨⟨#[97]⟩, ⟨#[98, 32, 99]⟩⟩)
theorem AwBlk.C4 {b : Nat} {W : World} (h : AwBlk b W) : Kd.C k102 W (some ⟨b + 1 + 1 + 1, 0, none⟩) rA.f4.length rA.f4 :=
  C_one (cs := [.string ⟨#[120]⟩, .bool false, .slice (some ⟨b + 1 + 1, 0, none⟩) 1 1]) h.f1 (k102_mk W (⟨⟨#[120]⟩, false, [⟨#[]⟩]⟩ : S102) (A2 := some ⟨b + 1 + 1, 0, none⟩) (c2 := 1) (Nat.le_refl 1) (C_one (cs := [.string ⟨#[]⟩]) h.s2 rfl))
theorem AwBlk.K {b : Nat} {W : World} (h : AwBlk b W) : k54.K W rA [.int .i64 9, .slice (some ⟨b, 0, none⟩) 1 1, .slice (some ⟨b + 1, 0, none⟩) 1 1, .slice none 0 0, .slice (some ⟨b + 1 + 1 + 1, 0, none⟩) 1 1] :=
  k54_mk W rA (A1 := some ⟨b, 0, none⟩) (c1 := 1) (Nat.le_refl 1) h.C1 (A2 := some ⟨b + 1, 0, none⟩) (c2 := 1) (Nat.le_refl 1) h.C2 (A3 := none) (c3 := 0) (Nat.le_refl 0) (Kd.C_nil _ _) (A4 := some ⟨b + 1 + 1 + 1, 0, none⟩) (c4 := 1) (Nat.le_refl 1) h.C4
theorem zK (W : World) : k54.K W zA [.int .i64 0, .slice none 0 0, .slice none 0 0, .slice none 0 0, .slice none 0 0] :=
  k54_mk W zA (A1 := none) (c1 := 0) (Nat.le_refl 0) (Kd.C_nil _ _) (A2 := none) (c2 := 0) (Nat.le_refl 0) (Kd.C_nil _ _) (A3 := none) (c3 := 0) (Nat.le_refl 0) (Kd.C_nil _ _) (A4 := none) (c4 := 0) (Nat.le_refl 0) (Kd.C_nil _ _)
theorem errs_len (c : List Int) : ∀ l : List S54, (l.foldl (fun c r => bump c r.f0) c).length = c.length := by
  intro l
  induction l generalizing c with
  | nil => rfl
  | cons x l ih => rw [List.foldl_cons, ih, bump_length]
theorem errsL_length (l : List S54) : (errsL l).length = 20 := by
  unfold errsL
  rw [errs_len, List.length_replicate]
theorem AwBlk.row {b : Nat} {W : World} (h : AwBlk b W) (o : Obj) (cs : Array Value) : AwBlk b ((W.alloc o).setRow W.heap.size cs) := by
  have h1 := h.alloc o
  have e : ∀ k, k < W.heap.size → ((W.alloc o).setRow W.heap.size cs).heap[k]? = (W.alloc o).heap[k]? := fun k hk => setRow_other _ _ k cs (by omega)
  exact ⟨(e _ (blk_lt h.s1)).trans h1.s1, (e _ (blk_lt h.p1)).trans h1.p1, (e _ (blk_lt h.s2)).trans h1.s2, (e _ (blk_lt h.f1)).trans h1.f1, (e _ (blk_lt h.rp)).trans h1.rp⟩
def zeros20 : Array Value := #[.int .i64 0, .int .i64 0, .int .i64 0, .int .i64 0, .int .i64 0, .int .i64 0, .int .i64 0, .int .i64 0, .int .i64 0, .int .i64 0, .int .i64 0, .int .i64 0, .int .i64 0, .int .i64 0, .int .i64 0, .int .i64 0, .int .i64 0, .int .i64 0, .int .i64 0, .int .i64 0]
def rafterlaw36_awake.f (k : Nat) : Option Bool :=
  (reply_Text.f k rA.f0 rA.f1 rA.f2 rA.f3 rA.f4).bind fun s => (reply_Parse.f k s).bind fun x => (reply_Log.f k [rA, zA]).bind fun g => (reply_Read.f k g).bind fun l => (reply_Unnumber.f k ⟨#[45, 49, 50]⟩).bind fun n =>
    (reply_Same.f k x.1 x.2.1 x.2.2.1 x.2.2.2.1 x.2.2.2.2.1 rA.f0 rA.f1 rA.f2 rA.f3 rA.f4).bind fun b => (reply_Number.f k (-12)).bind fun m =>
      if s.toList = [57, 32, 49, 32, 97, 32, 49, 32, 97, 32, 61, 98, 37, 50, 48, 99, 32, 48, 32, 49, 32, 120, 32, 102, 32, 49, 32, 61] ∧ x.2.2.2.2.2 = 0 ∧ b = true ∧ l.2 = 0 ∧ l.1.length = 2 ∧ n.1 = -12 ∧ n.2 = 0 ∧ m.toList = [45, 49, 50] ∧ (errsL l.1).getD 9 0 = 1 ∧ (errsL l.1).getD 0 0 = 1 then some true else none
theorem rafterlaw36_awake.mono : ∀ k, LeO (rafterlaw36_awake.f k) (rafterlaw36_awake.f (k + 1)) := by
  intro k
  unfold rafterlaw36_awake.f
  exact LeO.bind (reply_Text.mono _ _ _ _ _ _) fun s => LeO.bind (reply_Parse.mono _ _) fun x => LeO.bind (reply_Log.mono _ _) fun g => LeO.bind (reply_Read.mono _ _) fun l => LeO.bind (reply_Unnumber.mono _ _) fun n => LeO.bind (reply_Same.mono _ _ _ _ _ _ _ _ _ _ _) fun b => LeO.bind (reply_Number.mono _ _) fun m => LeO.refl _

set_option maxHeartbeats 1000000 in
set_option maxRecDepth 100000 in
theorem rafterlaw36_awake.calls (k : Nat) (r : Bool) (w : World) (h : rafterlaw36_awake.f k = some r) :
    Calls Tryd.prog 25 #[] w fun e w' => e = .returned (.bool r) ∧ Below w.heap.size w w' := by
  obtain ⟨s, h1, h⟩ := Option.bind_eq_some_iff.mp h
  obtain ⟨⟨x1, x2, x3, x4, x5, x6⟩, h2, h⟩ := Option.bind_eq_some_iff.mp h
  obtain ⟨lg, h3, h⟩ := Option.bind_eq_some_iff.mp h
  obtain ⟨⟨l, le⟩, h4, h⟩ := Option.bind_eq_some_iff.mp h
  obtain ⟨⟨n, ne⟩, h5, h⟩ := Option.bind_eq_some_iff.mp h
  obtain ⟨b, h6, h⟩ := Option.bind_eq_some_iff.mp h
  obtain ⟨m, h7, h⟩ := Option.bind_eq_some_iff.mp h
  dsimp only at h1 h2 h3 h4 h5 h6 h7 h
  by_cases hc : s.toList = [57, 32, 49, 32, 97, 32, 49, 32, 97, 32, 61, 98, 37, 50, 48, 99, 32, 48, 32, 49, 32, 120, 32, 102, 32, 49, 32, 61] ∧ x6 = 0 ∧ b = true ∧ le = 0 ∧ l.length = 2 ∧ n = -12 ∧ ne = 0 ∧ m.toList = [45, 49, 50] ∧ (errsL l).getD 9 0 = 1 ∧ (errsL l).getD 0 0 = 1
  case neg => rw [if_neg hc] at h; cases h
  rw [if_pos hc] at h
  injection h with h
  subst h
  obtain ⟨q1, rfl, rfl, rfl, q5, rfl, rfl, q8, q9, q10⟩ := hc
  have HQ1 := Aside0.mk q1
  have HQ5 := Aside0.mk q5
  have HQ8 := Aside0.mk q8
  have HQ9 := Aside0.mk (And.intro q9 q10)
  clear q1 q5 q8 q9 q10
  have H1 := Aside0.mk h1
  have H2 := Aside0.mk (fun W => reply_Parse.calls k s x1 x2 x3 x4 x5 0 W h2)
  have H3 := Aside0.mk h3
  have H4 := Aside0.mk (fun W => reply_Read.calls k lg l 0 W h4)
  have H5 := Aside0.mk (fun W => reply_Unnumber.calls k ⟨#[45, 49, 50]⟩ (-12) 0 W h5)
  have H6 := Aside0.mk h6
  have H7 := Aside0.mk (fun W => reply_Number.calls k (-12) m W h7)
  clear h1 h2 h3 h4 h5 h6 h7
  go_enter Tryd.func25, Tryd.ntmps25
  go_wp2_with (fail)
  have HA0 := Aside0.mk (aw_start w).1
  have HW0 := Aside0.mk (aw_start w).2
  show Calls _ _ _ (awW w) _
  generalize awW w = W0 at HA0 HW0 ⊢
  refine (reply_Text.calls k rA.f0 _ 1 rA.f1 _ 1 rA.f2 none 0 rA.f3 _ 1 rA.f4 s W0 HA0.out.C1 (Nat.le_refl 1) HA0.out.C2 (Nat.le_refl 1) (Kd.C_nil _ _) (Nat.le_refl 0) HA0.out.C4 (Nat.le_refl 1) H1.out).mono ?_
  rintro e_ w1 ⟨rfl, hb1⟩
  have HA1 := Aside0.mk (HA0.out.step hb1)
  have HW1 := Aside0.mk (below_then HW0.out HW0.out.size hb1)
  clear HA0 HW0 hb1 H1
  go_wp2_with (fail)
  refine (H2.out w1).mono ?_
  rintro e_ w2 ⟨v1, v2, v3, v4, rfl, hR1, hR2, hR3, hR4, hb2⟩
  obtain ⟨A1, c1, rfl⟩ := Kd.R_slice hR1
  obtain ⟨A2, c2, rfl⟩ := Kd.R_slice hR2
  obtain ⟨A3, c3, rfl⟩ := Kd.S_slice hR3
  obtain ⟨A4, c4, rfl⟩ := Kd.S_slice hR4
  have HA2 := Aside0.mk (HA1.out.step hb2)
  have HW2 := Aside0.mk (below_then HW1.out HW1.out.size hb2)
  have HX := Aside0.mk (And.intro (Kd.R_reads' hR1) (And.intro (Kd.R_reads' hR2) (And.intro (Kd.S_reads' hR3) (Kd.S_reads' hR4))))
  clear HA1 HW1 hb2 H2 hR1 hR2 hR3 hR4
  obtain ⟨hc0, hc1, hc2, hc3, hc4, hf0, hf1, hf2, hf3, hf4⟩ := cells5 (blk_alloc HA2.out.rp (.cells #[.int .i64 x1, .slice A1 x2.length c1, .slice A2 x3.length c2, .slice A3 x4.length c3, .slice A4 x5.length c4] 54))
  go_wp2_with (fail)
  obtain ⟨o1, ho1⟩ : ∃ o, o = Obj.cells #[.int .i64 x1, .slice A1 x2.length c1, .slice A2 x3.length c2, .slice A3 x4.length c3, .slice A4 x5.length c4] 54 := ⟨_, rfl⟩
  rw [← ho1]
  obtain ⟨W3, hW3⟩ : ∃ W3, W3 = (w2.alloc o1).alloc (Obj.cells #[.int .i64 9, .slice (some ⟨w.heap.size, 0, none⟩) 1 1, .slice (some ⟨w.heap.size + 1, 0, none⟩) 1 1, .slice none 0 0, .slice (some ⟨w.heap.size + 1 + 1 + 1, 0, none⟩) 1 1, .int .i64 0, .slice none 0 0, .slice none 0 0, .slice none 0 0, .slice none 0 0] 54) := ⟨_, rfl⟩
  rw [← hW3]
  have hA3 : AwBlk w.heap.size W3 := by rw [hW3]; exact (HA2.out.alloc _).alloc _
  have hX3 : W3.heap[w2.heap.size]? = some (Obj.cells #[.int .i64 x1, .slice A1 x2.length c1, .slice A2 x3.length c2, .slice A3 x4.length c3, .slice A4 x5.length c4] 54 (0, 0)) := by rw [hW3, ho1]; exact blk_alloc (new_at _ _ rfl _ _) _
  have hC3 : Kd.C k54 W3 (some ⟨w2.heap.size + 1, 0, none⟩) [rA, zA].length [rA, zA] :=
    C_two (cs := [.int .i64 9, .slice (some ⟨w.heap.size, 0, none⟩) 1 1, .slice (some ⟨w.heap.size + 1, 0, none⟩) 1 1, .slice none 0 0, .slice (some ⟨w.heap.size + 1 + 1 + 1, 0, none⟩) 1 1]) (ds := [.int .i64 0, .slice none 0 0, .slice none 0 0, .slice none 0 0, .slice none 0 0]) (by rw [hW3]; exact new_at _ _ (by simp) _ _) hA3.K (zK W3)
  have hW03 : Below w.heap.size w W3 := by rw [hW3]; exact below_alloc (below_alloc HW2.out _) _
  have hW23 : Below w2.heap.size w2 W3 := by rw [hW3]; exact below_alloc (below_alloc (Below.refl _ _) _) _
  clear hc0 hc1 hc2 hc3 hc4 hf0 hf1 hf2 hf3 hf4 ho1 hW3
  refine (reply_Log.calls k _ 2 [rA, zA] lg W3 hC3 (Nat.le_refl 2) H3.out).mono ?_
  rintro e_ w3 ⟨rfl, hb3⟩
  have HA3 := Aside0.mk (hA3.step hb3)
  have HX3 := Aside0.mk (blk_below hX3 hb3)
  have HW3 := Aside0.mk (below_then hW03 hW03.size hb3)
  have HV3 := Aside0.mk (below_then hW23 hW23.size hb3)
  clear hA3 hX3 hC3 hW03 hW23 hb3 H3 HA2 HW2
  go_wp2_with (fail)
  refine (H4.out w3).mono ?_
  rintro e_ w4 ⟨v0, rfl, hRl, hb4⟩
  obtain ⟨A0, c0, rfl⟩ := Kd.R_slice hRl
  have HL4 := Aside0.mk (Kd.R_reads' hRl).2.2
  have HA4 := Aside0.mk (HA3.out.step hb4)
  have HX4 := Aside0.mk (blk_below HX3.out hb4)
  have HW4 := Aside0.mk (below_then HW3.out HW3.out.size hb4)
  have HV4 := Aside0.mk (below_then HV3.out HV3.out.size hb4)
  clear hRl hb4 HA3 HX3 HW3 HV3 H4
  go_wp2_with (fail)
  refine (H5.out w4).mono ?_
  rintro e_ w5 ⟨rfl, hb5⟩
  have HL5 := Aside0.mk (Kd.C_below HL4.out hb5)
  have HA5 := Aside0.mk (HA4.out.step hb5)
  have HX5 := Aside0.mk (blk_below HX4.out hb5)
  have HW5 := Aside0.mk (below_then HW4.out HW4.out.size hb5)
  have HV5 := Aside0.mk (below_then HV4.out HV4.out.size hb5)
  clear hb5 HL4 HA4 HX4 HW4 HV4 H5
  go_wp2_with (fail)
  refine (reply_Errs.calls A0 c0 l w5 HL5.out).mono ?_
  rintro e_ w6 ⟨rfl, hb6⟩
  have HA6 := Aside0.mk (HA5.out.step hb6)
  have HX6 := Aside0.mk (blk_below HX5.out hb6)
  have HW6 := Aside0.mk (below_then HW5.out HW5.out.size hb6)
  have HV6 := Aside0.mk (below_then HV5.out HV5.out.size hb6)
  clear hb6 HL5 HA5 HX5 HW5 HV5
  have hel := errsL_length l
  have HSZ : Aside0 ((Tryd.prog.info? 65).map (·.size) = some (ints (errsL l)).toArray.size) := ⟨by
    rw [show (ints (errsL l)).toArray.size = 20 by simp [ints, hel]]
    rfl⟩
  have HOL : Aside0 ((#[.int .i64 0, .int .i64 0, .int .i64 0, .int .i64 0, .int .i64 0, .int .i64 0, .int .i64 0, .int .i64 0, .int .i64 0, .int .i64 0, .int .i64 0, .int .i64 0, .int .i64 0, .int .i64 0, .int .i64 0, .int .i64 0, .int .i64 0, .int .i64 0, .int .i64 0, .int .i64 0] : Array Value).size = (ints (errsL l)).toArray.size) := ⟨by
    rw [show (ints (errsL l)).toArray.size = 20 by simp [ints, hel]]
    rfl⟩
  have HZ : Aside0 ((w6.alloc (.cells #[.int .i64 0, .int .i64 0, .int .i64 0, .int .i64 0, .int .i64 0, .int .i64 0, .int .i64 0, .int .i64 0, .int .i64 0, .int .i64 0, .int .i64 0, .int .i64 0, .int .i64 0, .int .i64 0, .int .i64 0, .int .i64 0, .int .i64 0, .int .i64 0, .int .i64 0, .int .i64 0] 65)).heap[w6.heap.size]? = some (.cells #[.int .i64 0, .int .i64 0, .int .i64 0, .int .i64 0, .int .i64 0, .int .i64 0, .int .i64 0, .int .i64 0, .int .i64 0, .int .i64 0, .int .i64 0, .int .i64 0, .int .i64 0, .int .i64 0, .int .i64 0, .int .i64 0, .int .i64 0, .int .i64 0, .int .i64 0, .int .i64 0] 65 (0, 0))) := ⟨new_at _ _ rfl _ _⟩
  obtain ⟨W7, hW7⟩ : ∃ W7, W7 = (w6.alloc (.cells #[.int .i64 0, .int .i64 0, .int .i64 0, .int .i64 0, .int .i64 0, .int .i64 0, .int .i64 0, .int .i64 0, .int .i64 0, .int .i64 0, .int .i64 0, .int .i64 0, .int .i64 0, .int .i64 0, .int .i64 0, .int .i64 0, .int .i64 0, .int .i64 0, .int .i64 0, .int .i64 0] 65)).setRow w6.heap.size (ints (errsL l)).toArray := ⟨_, rfl⟩
  have hA7 : AwBlk w.heap.size W7 := by rw [hW7]; exact HA6.out.row _ _
  have hX7 : W7.heap[w2.heap.size]? = some (Obj.cells #[.int .i64 x1, .slice A1 x2.length c1, .slice A2 x3.length c2, .slice A3 x4.length c3, .slice A4 x5.length c4] 54 (0, 0)) := by
    rw [hW7]
    exact (setRow_other _ _ _ _ (Nat.ne_of_lt (blk_lt HX6.out))).trans (blk_alloc HX6.out _)
  have hE7 : W7.heap[w6.heap.size]? = some (.cells (ints (errsL l)).toArray 65 (0, 0)) := by rw [hW7]; exact setRow_heap _ _ _ _ _ _ HZ.out
  have hW07 : Below w.heap.size w W7 := by rw [hW7]; exact below_setRow (below_alloc HW6.out _) HW6.out.size
  have hV7 : Below w2.heap.size w2 W7 := by rw [hW7]; exact below_setRow (below_alloc HV6.out _) HV6.out.size
  have HE7 := Aside0.mk hE7
  have HX7 := Aside0.mk hX7
  have HA7 := Aside0.mk hA7
  have HW7 := Aside0.mk hW07
  have HV7 := Aside0.mk hV7
  have HN7 := Aside0.mk hW7
  clear hE7 hX7 hA7 hW07 hV7 hW7 hel HA6 HX6 HW6 HV6
  obtain ⟨hc0, hc1, hc2, hc3, hc4, hf0, hf1, hf2, hf3, hf4⟩ := cells5 HX7.out
  obtain ⟨hd0, hd1, hd2, hd3, hd4, hg0, hg1, hg2, hg3, hg4⟩ := cells5 HA7.out.rp
  have hq1 : (s.toList == [57, 32, 49, 32, 97, 32, 49, 32, 97, 32, 61, 98, 37, 50, 48, 99, 32, 48, 32, 49, 32, 120, 32, 102, 32, 49, 32, 61]) = true := beq_iff_eq.2 HQ1.out
  go_wp2_with (refine gate_ (.store 65 (.tmp 9) (.tmp 37)) rfl ?_; refine wpList_store_row rfl 65 (.tmp 9) (.tmp 37) rfl w6.heap.size (ints (errsL l)).toArray rfl rfl 65 _ HZ.out HSZ.out HOL.out (by simp [ints, Value.oneCell']) ?_; rw [← HN7.out])
  have hx := HX.out
  refine (reply_Same.calls k x1 A1 c1 x2 A2 c2 x3 A3 c3 x4 A4 c4 x5 rA.f0 _ 1 rA.f1 _ 1 rA.f2 none 0 rA.f3 _ 1 rA.f4 true W7 (Kd.C_below hx.1.2.2 HV7.out) hx.1.2.1 (Kd.C_below hx.2.1.2.2 HV7.out) hx.2.1.2.1 (Kd.C_below hx.2.2.1.2.2 HV7.out) hx.2.2.1.2.1 (Kd.C_below hx.2.2.2.2.2 HV7.out) hx.2.2.2.2.1 HA7.out.C1 (Nat.le_refl 1) HA7.out.C2 (Nat.le_refl 1) (Kd.C_nil _ _) (Nat.le_refl 0) HA7.out.C4 (Nat.le_refl 1) H6.out).mono ?_
  rintro e_ w8 ⟨rfl, hb8⟩
  have HW8 := Aside0.mk (below_then HW7.out HW7.out.size hb8)
  have he8 := blk_below HE7.out hb8
  have hx9 : w8.cell? ⟨w6.heap.size, 9, none⟩ = some (.int .i64 1) := by rw [ints_cell he8 9 (by rw [errsL_length]; decide), HQ9.out.1]
  have hx0 : w8.cell? ⟨w6.heap.size, 0, none⟩ = some (.int .i64 1) := by rw [ints_cell he8 0 (by rw [errsL_length]; decide), HQ9.out.2]
  have hqm : (m.toList == [45, 49, 50]) = true := beq_iff_eq.2 HQ8.out
  have hql : l.length = 2 := HQ5.out
  clear hx hb8 he8 hc0 hc1 hc2 hc3 hc4 hf0 hf1 hf2 hf3 hf4 hd0 hd1 hd2 hd3 hd4 hg0 hg1 hg2 hg3 hg4
  go_wp2_with (fail)
  refine (H7.out w8).mono ?_
  rintro e_ w9 ⟨rfl, ⟨⟨n9, rfl⟩⟩⟩
  go_wp2_with (fail)
  go_ret
  exact ⟨rfl, pw_below_drewN HW8.out n9⟩

end Go.Proofs.YtloibeefopdhpaaDoor.G
