-- Words of the kit's print (as it laid them for this seat); what this claim does not use is left out.
import Derived.Test.YtloibeefopdhpaaDoorCmdParse
import Derived.Test.YtloibeefopdhpaaDoorG18
import Derived.Deep.RegionLaw
import Derived.Outline
set_option linter.unusedVariables false
namespace Go.Proofs.YtloibeefopdhpaaDoor.G
open Go.RowKit Go.Proofs.YtloibeefopdhpaaDoorW.PrintWords Go.Proofs.YtloibeefopdhpaaDoorW.PrintLast Go.Proofs.YtloibeefopdhpaaDoorW.PrintMore
abbrev TCrash := S134
abbrev TStep := S34
structure TScr where
  hd : Bool
  room : Int
  cs : List TCrash
  xs : List TStep
def lineT (k : Nat) (t : TScr) (l : ByteArray) : Option (TScr × Int) :=
  if t.hd = false then (tape_room.f k l).bind fun q => some (⟨true, q.1, t.cs, t.xs⟩, q.2)
  else (strings_CutPrefix.f l ⟨#[99, 114, 97, 115, 104, 32]⟩).bind fun c =>
    if c.2 = true ∧ t.xs.length = 0 then (tape_crash.f k c.1).bind fun q => if (t.cs.length + 1) * 32 ≤ 140737488355328 then some (⟨true, t.room, t.cs ++ [⟨q.1, q.2.1⟩], t.xs⟩, q.2.2) else none
    else (cmd_Parse.f k l).bind fun q => if (t.xs.length + 1) * 152 ≤ 140737488355328 then some (⟨true, t.room, t.cs, t.xs ++ [⟨q.1, q.2.1, q.2.2.1, ⟨q.2.2.2.1, q.2.2.2.2.1, q.2.2.2.2.2.1, ⟨q.2.2.2.2.2.2.1, q.2.2.2.2.2.2.2.1, q.2.2.2.2.2.2.2.2.1, q.2.2.2.2.2.2.2.2.2.1⟩⟩⟩]⟩, q.2.2.2.2.2.2.2.2.2.2) else none
theorem lineT_mono (k : Nat) (t : TScr) (l : ByteArray) : LeO (lineT k t l) (lineT (k + 1) t l) := by
  unfold lineT
  refine LeO.ite (LeO.bind (tape_room.mono _ _) fun q => LeO.refl _) (LeO.bind (LeO.refl _) fun c => LeO.ite (LeO.bind (tape_crash.mono _ _) fun q => LeO.refl _) (LeO.bind (cmd_Parse.mono _ _) fun q => LeO.refl _))
structure ScrAt (vL : Value) (ls : List ByteArray) (B go gh : Nat) (t : TScr) (vC vS : Value) (W : World) : Prop where mk ::
  blk : W.heap[go]? = some (.cells #[.int .i64 t.room, vC, vS] 76 (0, 0))
  hdb : W.heap[gh]? = some (.cells #[.bool t.hd] 4 (0, 0))
  r1 : Kd.S k134 134 W B (fun _ => True) vC t.cs
  r2 : Kd.S k34 34 W B (fun _ => True) vS t.xs
  r3 : Kd.R Kd.string 9 W B (fun _ => True) vL ls
theorem ScrAt.below {vL : Value} {ls : List ByteArray} {B go gh : Nat} {t : TScr} {vC vS : Value} {W W' : World} (h : ScrAt vL ls B go gh t vC vS W) (hb : Below W.heap.size W W') : ScrAt vL ls B go gh t vC vS W' :=
  ⟨blk_below h.blk hb, blk_below h.hdb hb, Kd.S_below h.r1 hb, Kd.S_below h.r2 hb, Kd.R_below h.r3 hb⟩
def LineLaw (k : Nat) (vL : Value) (ls : List ByteArray) (B go gh : Nat) : Prop := ∀ (w0 W : World) (t t' : TScr) (l : ByteArray) (e : Int) (vC vS : Value), w0.heap.size ≤ B → B ≤ go → B ≤ gh → ScrAt vL ls B go gh t vC vS W → Below w0.heap.size w0 W → lineT k t l = some (t', e) →
  Calls Tryd.prog 102 #[.string l, .pointer (some ⟨gh, 0, none⟩), .pointer (some ⟨go, 0, none⟩)] W fun e_ w' => e_ = .returned (.int .i64 e) ∧ (∃ vC' vS', ScrAt vL ls B go gh t' vC' vS' w') ∧ Below w0.heap.size w0 w'
theorem infoCrash : (Tryd.prog.info? 134).map (fun i => (i.zero, i.size, i.bytes)) = some (some (.agg #[.int .i64 0, .slice none 0 0]), 2, 32) := by kernel_rfl
theorem infoStep : (Tryd.prog.info? 34).map (fun i => (i.zero, i.size, i.bytes)) = some (some (.agg #[.int .i64 0, .string ⟨#[]⟩, .string ⟨#[]⟩, .int .i64 0, .string ⟨#[]⟩, .slice none 0 0, .int .i64 0, .string ⟨#[]⟩, .string ⟨#[]⟩, .slice none 0 0]), 10, 152) := by kernel_rfl
set_option maxHeartbeats 1000000 in
set_option maxRecDepth 100000 in
theorem line_room (k : Nat) (vL : Value) (ls : List ByteArray) (B go gh : Nat) (w0 W : World) (t : TScr) (l : ByteArray) (n e : Int) (vC vS : Value) (h0 : w0.heap.size ≤ B) (h1 : B ≤ go) (h2 : B ≤ gh) (hI : ScrAt vL ls B go gh t vC vS W) (hB : Below w0.heap.size w0 W) (hh : t.hd = false) (h : tape_room.f k l = some (n, e)) :
    Calls Tryd.prog 102 #[.string l, .pointer (some ⟨gh, 0, none⟩), .pointer (some ⟨go, 0, none⟩)] W fun e_ w' => e_ = .returned (.int .i64 e) ∧ ScrAt vL ls B go gh ⟨true, n, t.cs, t.xs⟩ vC vS w' ∧ Below w0.heap.size w0 w' := by
  have hne : go ≠ gh := blk_ne hI.blk hI.hdb (by decide)
  have hc : W.cell? ⟨gh, 0, none⟩ = some (.bool false) := by rw [← hh]; exact (blk_cell hI.hdb 0).trans rfl
  have hf := blk_frozen hI.hdb 0
  obtain ⟨W1, hW1⟩ : ∃ W1, W1 = W.setCell ⟨gh, 0, none⟩ (.bool true) := ⟨_, rfl⟩
  have HI1 : Aside0 (ScrAt vL ls B go gh ⟨true, t.room, t.cs, t.xs⟩ vC vS W1) := ⟨by
    rw [hW1]
    exact ⟨blk_far hI.blk hne _, by simpa using blk_set hI.hdb 0 (.bool true), Kd.S_set hI.r1 hI.hdb (by decide) 0 _, Kd.S_set hI.r2 hI.hdb (by decide) 0 _, Kd.R_set hI.r3 hI.hdb (by decide) 0 _⟩⟩
  have HB1 : Aside0 (Below w0.heap.size w0 W1) := ⟨by rw [hW1]; exact below_set hB (by omega)⟩
  have HC := Aside0.mk (tape_room.calls k l n e W1 h)
  have HN := Aside0.mk (And.intro (And.intro h0 h1) hne)
  have HW1 := Aside0.mk hW1
  clear hI hB hh h h0 h1 h2 hne hW1
  go_enter Tryd.func102, Tryd.ntmps102
  go_wp2_with (fail)
  rw [← HW1.out]
  refine HC.out.mono ?_
  rintro e_ w1 ⟨rfl, hb⟩
  have HI2 := Aside0.mk (HI1.out.below hb)
  have HB2 := Aside0.mk (below_then HB1.out HB1.out.size hb)
  have hx0 : w1.cell? ⟨go, 0, none⟩ = some (.int .i64 t.room) := (blk_cell HI2.out.blk 0).trans rfl
  have hf0 := blk_frozen HI2.out.blk 0
  clear hb HI1 HB1 HC HW1 hc hf
  go_wp2_with (fail)
  go_ret
  exact ⟨rfl, ⟨by simpa using blk_set HI2.out.blk 0 (.int .i64 n), blk_far HI2.out.hdb (Ne.symm HN.out.2) _, Kd.S_set HI2.out.r1 HI2.out.blk (by decide) 0 _, Kd.S_set HI2.out.r2 HI2.out.blk (by decide) 0 _, Kd.R_set HI2.out.r3 HI2.out.blk (by decide) 0 _⟩, below_set HB2.out (Nat.le_trans HN.out.1.1 HN.out.1.2)⟩
set_option maxHeartbeats 1000000 in
set_option maxRecDepth 100000 in
theorem line_crash (k : Nat) (vL : Value) (ls : List ByteArray) (B go gh : Nat) (w0 W : World) (t : TScr) (l c : ByteArray) (n e : Int) (m : List Int) (vC vS : Value) (h0 : w0.heap.size ≤ B) (h1 : B ≤ go) (h2 : B ≤ gh) (hI : ScrAt vL ls B go gh t vC vS W) (hB : Below w0.heap.size w0 W) (hh : t.hd = true)
    (hp : strings_CutPrefix.f l ⟨#[99, 114, 97, 115, 104, 32]⟩ = some (c, true)) (hx : t.xs.length = 0) (h : tape_crash.f k c = some (n, m, e)) (hl : (t.cs.length + 1) * 32 ≤ 140737488355328) :
    Calls Tryd.prog 102 #[.string l, .pointer (some ⟨gh, 0, none⟩), .pointer (some ⟨go, 0, none⟩)] W fun e_ w' => e_ = .returned (.int .i64 e) ∧ (∃ vC', ScrAt vL ls B go gh ⟨true, t.room, t.cs ++ [⟨n, m⟩], t.xs⟩ vC' vS w') ∧ Below w0.heap.size w0 w' := by
  have hne : go ≠ gh := blk_ne hI.blk hI.hdb (by decide)
  obtain ⟨AC, dC, rfl⟩ := Kd.S_slice hI.r1
  obtain ⟨AS, dS, rfl⟩ := Kd.S_slice hI.r2
  have hc : W.cell? ⟨gh, 0, none⟩ = some (.bool true) := by rw [← hh]; exact (blk_cell hI.hdb 0).trans rfl
  have hc1 : W.cell? ⟨go, 1, none⟩ = some (.slice AC t.cs.length dC) := (blk_cell hI.blk 1).trans rfl
  have hc2 : W.cell? ⟨go, 2, none⟩ = some (.slice AS 0 dS) := by rw [← hx]; exact (blk_cell hI.blk 2).trans rfl
  have HP := Aside0.mk (strings_CutPrefix.calls l ⟨#[99, 114, 97, 115, 104, 32]⟩ c true W hp)
  have HC := Aside0.mk (fun W' => tape_crash.calls k c n m e W' h)
  have HN := Aside0.mk (And.intro (And.intro h0 h1) hne)
  have HI := Aside0.mk hI
  have HB := Aside0.mk hB
  have HL := Aside0.mk hl
  have HH := Aside0.mk hh
  clear hI hB hh h h0 h1 h2 hne hp hl
  go_enter Tryd.func102, Tryd.ntmps102
  go_wp2_with (fail)
  refine HP.out.mono ?_
  rintro e_ w1 ⟨rfl, ⟨⟨n1, rfl⟩⟩⟩
  go_wp2_with (fail)
  refine (HC.out _).mono ?_
  rintro e_ w2 ⟨v1, rfl, hR, hb⟩
  obtain ⟨A1, d1, rfl⟩ := Kd.R_slice hR
  have hWw : Below W.heap.size W w2 := below_then (pw_below_drewN (Below.refl _ _) n1) (Nat.le_refl _) hb
  obtain ⟨Wa, hWa⟩ : ∃ Wa, Wa = w2.alloc (.cells #[.int .i64 n, .slice A1 m.length d1] 134) := ⟨_, rfl⟩
  have hWb : Below W.heap.size W Wa := by rw [hWa]; exact below_alloc hWw _
  have hBW : B ≤ W.heap.size := Nat.le_trans HN.out.1.2 (Nat.le_of_lt (blk_lt HI.out.blk))
  have HIa := Aside0.mk (HI.out.below hWb)
  have HBa := Aside0.mk (below_then HB.out HB.out.size hWb)
  have HM : Aside0 (k134.M Wa B (fun k_ => W.heap.size ≤ k_) (⟨n, m⟩ : TCrash) [.int .i64 n, .slice A1 m.length d1]) := ⟨by
    rw [hWa]
    exact k134_mkM _ B _ (⟨n, m⟩ : TCrash) (Kd.R_alloc (Kd.R_lower (Kd.R_mono (Kd.R_bound hR) (fun _ hk_ => hk_.2.1)) hBW) _)⟩
  have HO := Aside0.mk (Kd.S_mono (Kd.S_below (Kd.S_bound HI.out.r1) hWb) (fun k_ hk_ => (⟨trivial, Nat.not_le.2 hk_.2.2.1⟩ : True ∧ ¬ W.heap.size ≤ k_)))
  have HOK := Aside0.mk (show ∀ k_, W.heap.size ≤ k_ → True ∧ some k_ ≠ (Value.slice AC t.cs.length dC).ownBlock from fun k_ hk_ => ⟨trivial, fun e_ => Nat.lt_irrefl _ (Nat.lt_of_lt_of_le (Kd.S_lt HI.out.r1 k_ e_.symm) hk_)⟩)
  have HSZ := Aside0.mk (show B ≤ Wa.heap.size from Nat.le_trans hBW hWb.size)
  have hnew : Wa.heap[w2.heap.size]? = some (.cells #[.int .i64 n, .slice A1 m.length d1] 134 (0, 0)) := by rw [hWa]; exact heap_alloc_new _ _
  obtain ⟨hz0, hz1, hzf0, hzf1⟩ := cells2 hnew
  have hg1 : Wa.cell? ⟨go, 1, none⟩ = some (.slice AC t.cs.length dC) := (blk_cell HIa.out.blk 1).trans rfl
  rw [hWa] at hz0 hz1 hzf0 hzf1 hg1
  have HWa := Aside0.mk hWa
  clear hR hb hWw hWb hBW hnew hWa HC HP hc hc1 hc2
  go_wp2_with (refine gate_ (.call { callee := .builtin .append, args := #[.tmp 38, .tmp 40], argTypes := #[74, 74] }) rfl ?_; rw [← HWa.out]; refine Kd.S_append k134 (w0 := Wa) B rfl (.tmp 38) (.tmp 40) 74 134 (.agg #[.int .i64 0, .slice none 0 0]) 32 rfl Tryd.underlying74 infoCrash rfl (by decide) (by omega) (.slice AC t.cs.length dC) t.cs (⟨n, m⟩ : TCrash) [.int .i64 n, .slice A1 m.length d1] (fun _ => True) (fun k_ => W.heap.size ≤ k_) (by simp [Act.eval]) (by simp [Act.eval, HWa.out]) HM.out HOK.out (fun _ _ => trivial) HO.out (Below.refl B Wa) HSZ.out HL.out ?_; intro v_ w3 ho3 _ hg3 _; have HB3 := Aside0.mk (pw_below_grown HBa.out _ HBa.out.size hg3 (fun k_ hk_ => Nat.le_trans HN.out.1.1 (Kd.S_base HIa.out.r1 k_ hk_))); have hb3 := blk_grown HIa.out.blk hg3 (Kd.S_ne HIa.out.r1 HIa.out.blk (by decide)); have hd3 := blk_grown HIa.out.hdb hg3 (Kd.S_ne HIa.out.r1 HIa.out.hdb (by decide)); have hr3 := Kd.S_over' HIa.out.r2 (Kd.S_typed HIa.out.r1) (by decide) hg3; have hl3 := Kd.R_over' HIa.out.r3 (Kd.S_typed HIa.out.r1) (by decide) hg3; have hc3 : w3.cell? ⟨go, 1, none⟩ = some _ := (blk_cell hb3 1).trans rfl; have hf3 := blk_frozen hb3 1; obtain ⟨A9, c9, rfl⟩ := Kd.S_slice ho3; have HP3 := Aside0.mk (And.intro hb3 (And.intro hd3 (And.intro ho3 (And.intro hr3 hl3)))); clear ho3 hg3 hb3 hd3 hr3 hl3)
  go_ret
  have hP := HP3.out
  simp only [List.length_append, List.length_cons, List.length_nil, Nat.zero_add, hx] at hP
  have hd := hP.2.1
  rw [HH.out] at hd
  exact ⟨rfl, ⟨_, ⟨by simpa using blk_set hP.1 1 (.slice A9 (t.cs.length + 1) c9), blk_far hd (Ne.symm HN.out.2) _, Kd.S_set hP.2.2.1 hP.1 (by decide) 1 _, Kd.S_set hP.2.2.2.1 hP.1 (by decide) 1 _, Kd.R_set hP.2.2.2.2 hP.1 (by decide) 1 _⟩⟩, below_set HB3.out (Nat.le_trans HN.out.1.1 HN.out.1.2)⟩
set_option maxHeartbeats 1000000 in
set_option maxRecDepth 100000 in
theorem line_step (k : Nat) (vL : Value) (ls : List ByteArray) (B go gh : Nat) (w0 W : World) (t : TScr) (l c : ByteArray) (is : Bool) (q1 : Int) (q2 q3 : ByteArray) (q4 : Int) (q5 : ByteArray) (q6 : List ByteArray) (q7 : Int) (q8 q9 : ByteArray) (q10 : List ByteArray) (e : Int) (vC vS : Value) (h0 : w0.heap.size ≤ B) (h1 : B ≤ go) (h2 : B ≤ gh) (hI : ScrAt vL ls B go gh t vC vS W) (hB : Below w0.heap.size w0 W) (hh : t.hd = true)
    (hp : strings_CutPrefix.f l ⟨#[99, 114, 97, 115, 104, 32]⟩ = some (c, is)) (hx : is = false ∨ is = true ∧ t.xs.length ≠ 0) (h : cmd_Parse.f k l = some (q1, q2, q3, q4, q5, q6, q7, q8, q9, q10, e)) (hl : (t.xs.length + 1) * 152 ≤ 140737488355328) :
    Calls Tryd.prog 102 #[.string l, .pointer (some ⟨gh, 0, none⟩), .pointer (some ⟨go, 0, none⟩)] W fun e_ w' => e_ = .returned (.int .i64 e) ∧ (∃ vS', ScrAt vL ls B go gh ⟨true, t.room, t.cs, t.xs ++ [(⟨q1, q2, q3, ⟨q4, q5, q6, ⟨q7, q8, q9, q10⟩⟩⟩ : TStep)]⟩ vC vS' w') ∧ Below w0.heap.size w0 w' := by
  have hne : go ≠ gh := blk_ne hI.blk hI.hdb (by decide)
  obtain ⟨AC, dC, rfl⟩ := Kd.S_slice hI.r1
  obtain ⟨AS, dS, rfl⟩ := Kd.S_slice hI.r2
  have hc : W.cell? ⟨gh, 0, none⟩ = some (.bool true) := by rw [← hh]; exact (blk_cell hI.hdb 0).trans rfl
  have hc2 : W.cell? ⟨go, 2, none⟩ = some (.slice AS t.xs.length dS) := (blk_cell hI.blk 2).trans rfl
  have HP := Aside0.mk (strings_CutPrefix.calls l ⟨#[99, 114, 97, 115, 104, 32]⟩ c is W hp)
  have HC := Aside0.mk (fun W' => cmd_Parse.calls k l q1 q2 q3 q4 q5 q6 q7 q8 q9 q10 e W' h)
  have HN := Aside0.mk (And.intro (And.intro h0 h1) hne)
  have HI := Aside0.mk hI
  have HB := Aside0.mk hB
  have HL := Aside0.mk hl
  have HH := Aside0.mk hh
  have HBW := Aside0.mk (show B ≤ W.heap.size from Nat.le_trans h1 (Nat.le_of_lt (blk_lt hI.blk)))
  clear hI hB hh h h0 h1 h2 hne hp hl
  rcases hx with rfl | ⟨rfl, hx⟩
  all_goals
    try (have hx1 : ((t.xs.length : Int) == 0) = false := by simp; omega)
    go_enter Tryd.func102, Tryd.ntmps102
    go_wp2_with (fail)
    refine HP.out.mono ?_
    rintro e_ w1 ⟨rfl, ⟨⟨n1, rfl⟩⟩⟩
    go_wp2_with (fail)
    refine (HC.out _).mono ?_
    rintro e_ w2 ⟨v5, v9, rfl, hR5, hR9, hb⟩
    obtain ⟨A5, d5, rfl⟩ := Kd.R_slice hR5
    obtain ⟨A9, d9, rfl⟩ := Kd.R_slice hR9
    have hWw : Below W.heap.size W w2 := below_then (pw_below_drewN (Below.refl _ _) n1) (Nat.le_refl _) hb
    obtain ⟨Wa, hWa⟩ : ∃ Wa, Wa = w2.alloc (.cells #[.int .i64 q1, .string q2, .string q3, .int .i64 q4, .string q5, .slice A5 q6.length d5, .int .i64 q7, .string q8, .string q9, .slice A9 q10.length d9] 34) := ⟨_, rfl⟩
    have hWb : Below W.heap.size W Wa := by rw [hWa]; exact below_alloc hWw _
    have HIa := Aside0.mk (HI.out.below hWb)
    have HBa := Aside0.mk (below_then HB.out HB.out.size hWb)
    have HM : Aside0 (k34.M Wa B (fun k_ => W.heap.size ≤ k_) (⟨q1, q2, q3, ⟨q4, q5, q6, ⟨q7, q8, q9, q10⟩⟩⟩ : TStep) [.int .i64 q1, .string q2, .string q3, .int .i64 q4, .string q5, .slice A5 q6.length d5, .int .i64 q7, .string q8, .string q9, .slice A9 q10.length d9]) := ⟨by
      rw [hWa]
      exact k34_mkM _ B _ (⟨q1, q2, q3, ⟨q4, q5, q6, ⟨q7, q8, q9, q10⟩⟩⟩ : TStep) (Kd.R_alloc (Kd.R_lower (Kd.R_mono (Kd.R_bound hR5) (fun _ hk_ => hk_.2.1)) HBW.out) _) (Kd.R_alloc (Kd.R_lower (Kd.R_mono (Kd.R_bound hR9) (fun _ hk_ => hk_.2.1)) HBW.out) _)⟩
    have HO := Aside0.mk (Kd.S_mono (Kd.S_below (Kd.S_bound HI.out.r2) hWb) (fun k_ hk_ => (⟨trivial, Nat.not_le.2 hk_.2.2.1⟩ : True ∧ ¬ W.heap.size ≤ k_)))
    have HOK := Aside0.mk (show ∀ k_, W.heap.size ≤ k_ → True ∧ some k_ ≠ (Value.slice AS t.xs.length dS).ownBlock from fun k_ hk_ => ⟨trivial, fun e_ => Nat.lt_irrefl _ (Nat.lt_of_lt_of_le (Kd.S_lt HI.out.r2 k_ e_.symm) hk_)⟩)
    have HSZ := Aside0.mk (show B ≤ Wa.heap.size from Nat.le_trans HBW.out hWb.size)
    have hnew : Wa.heap[w2.heap.size]? = some (.cells #[.int .i64 q1, .string q2, .string q3, .int .i64 q4, .string q5, .slice A5 q6.length d5, .int .i64 q7, .string q8, .string q9, .slice A9 q10.length d9] 34 (0, 0)) := by rw [hWa]; exact heap_alloc_new _ _
    obtain ⟨hz0, hz1, hz2, hz3, hz4, hz5, hz6, hz7, hz8, hz9, hzf0, hzf1, hzf2, hzf3, hzf4, hzf5, hzf6, hzf7, hzf8, hzf9⟩ := cells10 hnew
    have hg1 : Wa.cell? ⟨go, 2, none⟩ = some (.slice AS t.xs.length dS) := (blk_cell HIa.out.blk 2).trans rfl
    rw [hWa] at hz0 hz1 hz2 hz3 hz4 hz5 hz6 hz7 hz8 hz9 hg1
    have HWa := Aside0.mk hWa
    clear hR5 hR9 hb hWw hWb hnew hWa HC HP hc hc2 hzf0 hzf1 hzf2 hzf3 hzf4 hzf5 hzf6 hzf7 hzf8 hzf9
    go_wp2_with (refine gate_ (.call { callee := .builtin .append, args := #[.tmp 50, .tmp 52], argTypes := #[36, 36] }) rfl ?_; rw [← HWa.out]; refine Kd.S_append k34 (w0 := Wa) B rfl (.tmp 50) (.tmp 52) 36 34 (.agg #[.int .i64 0, .string ⟨#[]⟩, .string ⟨#[]⟩, .int .i64 0, .string ⟨#[]⟩, .slice none 0 0, .int .i64 0, .string ⟨#[]⟩, .string ⟨#[]⟩, .slice none 0 0]) 152 rfl Tryd.underlying36 infoStep rfl (by decide) (by omega) (.slice AS t.xs.length dS) t.xs (⟨q1, q2, q3, ⟨q4, q5, q6, ⟨q7, q8, q9, q10⟩⟩⟩ : TStep) [.int .i64 q1, .string q2, .string q3, .int .i64 q4, .string q5, .slice A5 q6.length d5, .int .i64 q7, .string q8, .string q9, .slice A9 q10.length d9] (fun _ => True) (fun k_ => W.heap.size ≤ k_) (by simp [Act.eval]) (by simp [Act.eval, HWa.out]) HM.out HOK.out (fun _ _ => trivial) HO.out (Below.refl B Wa) HSZ.out HL.out ?_; intro v_ w3 ho3 _ hg3 _; have HB3 := Aside0.mk (pw_below_grown HBa.out _ HBa.out.size hg3 (fun k_ hk_ => Nat.le_trans HN.out.1.1 (Kd.S_base HIa.out.r2 k_ hk_))); have hb3 := blk_grown HIa.out.blk hg3 (Kd.S_ne HIa.out.r2 HIa.out.blk (by decide)); have hd3 := blk_grown HIa.out.hdb hg3 (Kd.S_ne HIa.out.r2 HIa.out.hdb (by decide)); have hr3 := Kd.S_over' HIa.out.r1 (Kd.S_typed HIa.out.r2) (by decide) hg3; have hl3 := Kd.R_over' HIa.out.r3 (Kd.S_typed HIa.out.r2) (by decide) hg3; have hc3 : w3.cell? ⟨go, 2, none⟩ = some _ := (blk_cell hb3 2).trans rfl; have hf3 := blk_frozen hb3 2; obtain ⟨A8, c8, rfl⟩ := Kd.S_slice ho3; have HP3 := Aside0.mk (And.intro hb3 (And.intro hd3 (And.intro ho3 (And.intro hr3 hl3)))); clear ho3 hg3 hb3 hd3 hr3 hl3)
    go_ret
    have hP := HP3.out
    simp only [List.length_append, List.length_cons, List.length_nil, Nat.zero_add] at hP
    have hd := hP.2.1
    rw [HH.out] at hd
    exact ⟨rfl, ⟨_, ⟨by simpa using blk_set hP.1 2 (.slice A8 (t.xs.length + 1) c8), blk_far hd (Ne.symm HN.out.2) _, Kd.S_set hP.2.2.2.1 hP.1 (by decide) 2 _, Kd.S_set hP.2.2.1 hP.1 (by decide) 2 _, Kd.R_set hP.2.2.2.2 hP.1 (by decide) 2 _⟩⟩, below_set HB3.out (Nat.le_trans HN.out.1.1 HN.out.1.2)⟩
theorem line_law (k : Nat) (vL : Value) (ls : List ByteArray) (B go gh : Nat) : LineLaw k vL ls B go gh := by
  intro w0 W t t' l e vC vS h0 h1 h2 hI hB h
  unfold lineT at h
  by_cases hh : t.hd = false
  · rw [if_pos hh] at h
    obtain ⟨⟨n, e1⟩, hr, h⟩ := Option.bind_eq_some_iff.mp h
    injection h with h
    simp only [Prod.mk.injEq] at h
    obtain ⟨rfl, rfl⟩ := h
    refine (line_room k vL ls B go gh w0 W t l n e1 vC vS h0 h1 h2 hI hB hh hr).mono ?_
    rintro e_ w' ⟨rfl, hS, hb⟩
    exact ⟨rfl, ⟨_, _, hS⟩, hb⟩
  · rw [if_neg hh] at h
    have hh' : t.hd = true := by
      cases hq : t.hd
      · exact absurd hq hh
      · rfl
    obtain ⟨⟨c, is⟩, hp, h⟩ := Option.bind_eq_some_iff.mp h
    dsimp only at hp h
    by_cases hx : is = true ∧ t.xs.length = 0
    · rw [if_pos hx] at h
      obtain ⟨rfl, hx⟩ := hx
      obtain ⟨⟨n, m, e1⟩, hr, h⟩ := Option.bind_eq_some_iff.mp h
      dsimp only at hr h
      by_cases hl : (t.cs.length + 1) * 32 ≤ 140737488355328
      case neg => rw [if_neg hl] at h; cases h
      rw [if_pos hl] at h
      injection h with h
      simp only [Prod.mk.injEq] at h
      obtain ⟨rfl, rfl⟩ := h
      refine (line_crash k vL ls B go gh w0 W t l c n e1 m vC vS h0 h1 h2 hI hB hh' hp hx hr hl).mono ?_
      rintro e_ w' ⟨rfl, ⟨vC', hS⟩, hb⟩
      exact ⟨rfl, ⟨_, _, hS⟩, hb⟩
    · rw [if_neg hx] at h
      obtain ⟨⟨q1, q2, q3, q4, q5, q6, q7, q8, q9, q10, e1⟩, hr, h⟩ := Option.bind_eq_some_iff.mp h
      dsimp only at hr h
      by_cases hl : (t.xs.length + 1) * 152 ≤ 140737488355328
      case neg => rw [if_neg hl] at h; cases h
      rw [if_pos hl] at h
      injection h with h
      simp only [Prod.mk.injEq] at h
      obtain ⟨rfl, rfl⟩ := h
      have hx' : is = false ∨ is = true ∧ t.xs.length ≠ 0 := by
        cases is
        · exact .inl rfl
        · exact .inr ⟨rfl, fun h_ => hx ⟨rfl, h_⟩⟩
      refine (line_step k vL ls B go gh w0 W t l c is q1 q2 q3 q4 q5 q6 q7 q8 q9 q10 e1 vC vS h0 h1 h2 hI hB hh' hp hx' hr hl).mono ?_
      rintro e_ w' ⟨rfl, ⟨vS', hS⟩, hb⟩
      exact ⟨rfl, ⟨_, _, hS⟩, hb⟩
def linesT (k : Nat) : List ByteArray → TScr → Option (TScr × Int)
  | [], t => some (t, 0)
  | l :: ls, t => (tape_nothing.f l).bind fun b => if b = true then linesT k ls t else (lineT k t l).bind fun q => if q.2 = 0 then linesT k ls q.1 else some (q.1, q.2)
theorem linesT_mono (k : Nat) : ∀ ls t, LeO (linesT k ls t) (linesT (k + 1) ls t)
  | [], t => LeO.refl _
  | l :: ls, t => by
    unfold linesT
    exact LeO.bind (LeO.refl _) fun b => LeO.ite (linesT_mono k ls t) (LeO.bind (lineT_mono k t l) fun q => LeO.ite (linesT_mono k ls q.1) (LeO.refl _))
def tape_Parse.f (k : Nat) (a0 : ByteArray) : Option (Int × List TCrash × List TStep × Int) :=
  (strings_CutSuffix.f a0 ⟨#[10]⟩).bind fun c => if c.2 = true then (strings_Split.f k c.1 ⟨#[10]⟩).bind fun ls => (linesT k ls ⟨false, 0, [], []⟩).bind fun q =>
    if q.2 = 0 then (if q.1.hd = true then some (q.1.room, q.1.cs, q.1.xs, 0) else some (0, [], [], 17)) else some (0, [], [], q.2)
  else some (0, [], [], 6)
theorem tape_Parse.mono : ∀ a0 k, LeO (tape_Parse.f k a0) (tape_Parse.f (k + 1) a0) := by
  intro a0 k
  unfold tape_Parse.f
  exact LeO.bind (LeO.refl _) fun c => LeO.ite (LeO.bind (strings_Split.mono _ _ _) fun ls => LeO.bind (linesT_mono k ls _) fun q => LeO.refl _) (LeO.refl _)
end Go.Proofs.YtloibeefopdhpaaDoor.G
