/- cmd.Parse: the walk. -/
import Derived.Test.YtloibeefopdhpaaDoorCmdFill
import Derived.Test.YtloibeefopdhpaaDoorG16
import Derived.Test.YtloibeefopdhpaaDoorG5
import Derived.Outline
set_option linter.unusedVariables false
namespace Go.Proofs.YtloibeefopdhpaaDoor.G
open Go.RowKit Go.Proofs.YtloibeefopdhpaaDoorW.PrintWords Go.Proofs.YtloibeefopdhpaaDoorW.PrintLast Go.Proofs.YtloibeefopdhpaaDoorW.PrintMore Go.Proofs.YtloibeefopdhpaaDoor.Plain

/-- Is a shape's verb this word? -/
def verbP (q : ByteArray) (s : S93) : Bool := s.f0.toList == q.toList
set_option maxHeartbeats 4000000 in
set_option maxRecDepth 100000 in
theorem pred_word (q : ByteArray) (g n c : Nat) (ad : Addr) (hn : 0 < n) (w : World) (hk : w.heap[g]? = some (.cells #[.slice (some ad) n c] 28 (0, 0))) (hx : w.cell? ad = some (.string q)) :
    PredS 69 #[.pointer (some ⟨g, 0, none⟩)] (verbP q) w := by
  intro W x hb
  have hlt : g < w.heap.size := blk_lt hk
  have hk' := blk_below hk hb
  have hltW : g < W.heap.size := blk_lt hk'
  have hne : g ≠ W.heap.size := by omega
  have hxl := World.block_lt_of_cell? w _ hx
  have hd0 : W.cell? ⟨g, 0, none⟩ = some (.slice (some ad) n c) := (blk_cell hk' 0).trans rfl
  have hx' : W.cell? ad = some (.string q) := (hb.cell hxl).trans hx
  have hni : (0 : Int) < (n : Int) := by omega
  have hna : ad.block ≠ W.heap.size := by
    have h2 := hb.size
    omega
  have HW := Aside0.mk ((Below.refl W.heap.size W).alloc (Nat.le_refl _) (.cells #[.string x.f0, .int .i64 x.f1, .int .i64 x.f2, .int .i64 x.f3, .int .i64 x.f4, .bool x.f5] 93))
  have hy : (W.alloc (.cells #[.string x.f0, .int .i64 x.f1, .int .i64 x.f2, .int .i64 x.f3, .int .i64 x.f4, .bool x.f5] 93)).cell? ad = some (.string q) := (HW.out.cell (World.block_lt_of_cell? W _ hx')).trans hx'
  clear hk hk' hb hlt hx hx' hxl
  show Calls Tryd.prog 69 #[.agg #[.string x.f0, .int .i64 x.f1, .int .i64 x.f2, .int .i64 x.f3, .int .i64 x.f4, .bool x.f5], .pointer (some ⟨g, 0, none⟩)] W _
  obtain ⟨x0, x1, x2, x3, x4, x5⟩ := x
  dsimp only at *
  unfold verbP
  go_enter Tryd.func69, Tryd.ntmps69
  go_wp2
  go_region_law (fail)
  all_goals go_wp2
  all_goals
    go_ret
    exact ⟨rfl, by first | exact HW.out | exact pw_below_drewN HW.out _ | exact below_drew1 HW.out⟩

/-! ### Parse -/

/-- The words' texts, or the first error. -/
def parseRest (k : Nat) : List ByteArray → List ByteArray → Option (List ByteArray × Int)
  | [], acc => some (acc, 0)
  | w :: ws, acc => (cmd_Unword.f k w).bind fun t => if t.2 = 0 then (if (acc.length + 1) * 16 ≤ 140737488355328 then parseRest k ws (acc ++ [t.1]) else none) else some ([], t.2)
theorem parseRest_mono (k : Nat) : ∀ ws acc, LeO (parseRest k ws acc) (parseRest (k + 1) ws acc)
  | [], acc => LeO.refl _
  | w :: ws, acc => by
    unfold parseRest
    exact LeO.bind (cmd_Unword.mono _ _) fun t => LeO.ite (LeO.ite (parseRest_mono k ws _) (LeO.refl _)) (LeO.refl _)
def zeroStep : Int × ByteArray × ByteArray × Int × ByteArray × List ByteArray × Int × ByteArray × ByteArray × List ByteArray := (0, (⟨#[]⟩ : ByteArray), (⟨#[]⟩ : ByteArray), 0, (⟨#[]⟩ : ByteArray), ([] : List ByteArray), 0, (⟨#[]⟩ : ByteArray), (⟨#[]⟩ : ByteArray), ([] : List ByteArray))
def cmd_Parse.fin (k : Nat) (s : S93) (b : Bool) (l : List ByteArray) : Option (Int × ByteArray × ByteArray × Int × ByteArray × List ByteArray × Int × ByteArray × ByteArray × List ByteArray × Int) :=
  if b = false ∨ (l.length : Int) < s.f4 ∨ s.f4 < (l.length : Int) ∧ s.f5 = false then some (0, (⟨#[]⟩ : ByteArray), (⟨#[]⟩ : ByteArray), 0, (⟨#[]⟩ : ByteArray), ([] : List ByteArray), 0, (⟨#[]⟩ : ByteArray), (⟨#[]⟩ : ByteArray), ([] : List ByteArray), 17)
  else (cmd_fill.f s.f0 s.f1 s.f2 s.f3 s.f4 s.f5 l).bind fun r => some (r.1, r.2.1, r.2.2.1, r.2.2.2.1, r.2.2.2.2.1, r.2.2.2.2.2.1, r.2.2.2.2.2.2.1, r.2.2.2.2.2.2.2.1, r.2.2.2.2.2.2.2.2.1, r.2.2.2.2.2.2.2.2.2, 0)
def cmd_Parse.rest (k : Nat) (q : ByteArray) (ws : List ByteArray) : Option (Int × ByteArray × ByteArray × Int × ByteArray × List ByteArray × Int × ByteArray × ByteArray × List ByteArray × Int) :=
  (parseRest k ws []).bind fun t => if t.2 = 0 then cmd_Parse.fin k (findS (verbP q) shapesL).1 (findS (verbP q) shapesL).2 t.1 else some (0, (⟨#[]⟩ : ByteArray), (⟨#[]⟩ : ByteArray), 0, (⟨#[]⟩ : ByteArray), ([] : List ByteArray), 0, (⟨#[]⟩ : ByteArray), (⟨#[]⟩ : ByteArray), ([] : List ByteArray), t.2)
def cmd_Parse.f (k : Nat) (a0 : ByteArray) : Option (Int × ByteArray × ByteArray × Int × ByteArray × List ByteArray × Int × ByteArray × ByteArray × List ByteArray × Int) :=
  if (a0.size : Int) > 1048576 then some (0, (⟨#[]⟩ : ByteArray), (⟨#[]⟩ : ByteArray), 0, (⟨#[]⟩ : ByteArray), ([] : List ByteArray), 0, (⟨#[]⟩ : ByteArray), (⟨#[]⟩ : ByteArray), ([] : List ByteArray), 4) else (strings_Split.f k a0 ⟨#[32]⟩).bind fun ws => match ws with
    | [] => none
    | q :: ws => cmd_Parse.rest k q ws
theorem cmd_Parse.mono : ∀ a0 k, LeO (cmd_Parse.f k a0) (cmd_Parse.f (k + 1) a0) := by
  intro a0 k
  unfold cmd_Parse.f
  refine LeO.ite (LeO.refl _) (LeO.bind (strings_Split.mono _ _ _) fun ws => ?_)
  cases ws with
  | nil => exact LeO.refl _
  | cons q ws =>
    show LeO (cmd_Parse.rest k q ws) (cmd_Parse.rest (k + 1) q ws)
    unfold cmd_Parse.rest
    refine LeO.bind (parseRest_mono _ _ _) fun t => LeO.ite ?_ (LeO.refl _)
    unfold cmd_Parse.fin
    exact LeO.ite (LeO.refl _) (LeO.refl _)

/-- What comes of the words' texts. -/
def parseThen (k : Nat) (s : S93) (b : Bool) (o : Option (List ByteArray × Int)) : Option (Int × ByteArray × ByteArray × Int × ByteArray × List ByteArray × Int × ByteArray × ByteArray × List ByteArray × Int) :=
  o.bind fun t => if t.2 = 0 then cmd_Parse.fin k s b t.1 else some (0, (⟨#[]⟩ : ByteArray), (⟨#[]⟩ : ByteArray), 0, (⟨#[]⟩ : ByteArray), ([] : List ByteArray), 0, (⟨#[]⟩ : ByteArray), (⟨#[]⟩ : ByteArray), ([] : List ByteArray), t.2)
theorem parseThen_cons {k : Nat} {s : S93} {b : Bool} {x : ByteArray} {l acc : List ByteArray} {r : Int × ByteArray × ByteArray × Int × ByteArray × List ByteArray × Int × ByteArray × ByteArray × List ByteArray × Int} (h : parseThen k s b (parseRest k (x :: l) acc) = some r) :
    ∃ t e, cmd_Unword.f k x = some (t, e) ∧ ((e = 0 ∧ (acc.length + 1) * 16 ≤ 140737488355328 ∧ parseThen k s b (parseRest k l (acc ++ [t])) = some r) ∨ (¬ e = 0 ∧ (0, (⟨#[]⟩ : ByteArray), (⟨#[]⟩ : ByteArray), 0, (⟨#[]⟩ : ByteArray), ([] : List ByteArray), 0, (⟨#[]⟩ : ByteArray), (⟨#[]⟩ : ByteArray), ([] : List ByteArray), e) = r)) := by
  rw [parseRest, parseThen, Option.bind_assoc] at h
  obtain ⟨⟨t, e⟩, hu, h⟩ := Option.bind_eq_some_iff.mp h
  refine ⟨t, e, hu, ?_⟩
  dsimp only at h
  by_cases he : e = 0
  · rw [if_pos he] at h
    by_cases hl : (acc.length + 1) * 16 ≤ 140737488355328
    · rw [if_pos hl] at h
      exact .inl ⟨he, hl, h⟩
    · rw [if_neg hl] at h
      cases h
  · rw [if_neg he, Option.bind_some] at h
    dsimp only at h
    rw [if_neg he] at h
    exact .inr ⟨he, Option.some.inj h⟩

set_option maxHeartbeats 4000000 in
set_option maxRecDepth 100000 in
theorem cmd_Parse.calls (k : Nat) (a0 : ByteArray) (r1 : Int) (r2 : ByteArray) (r3 : ByteArray) (r4 : Int) (r5 : ByteArray) (r6 : List ByteArray) (r7 : Int) (r8 : ByteArray) (r9 : ByteArray) (r10 : List ByteArray) (r11 : Int) (w : World) (h : cmd_Parse.f k a0 = some (r1, r2, r3, r4, r5, r6, r7, r8, r9, r10, r11)) :
    Calls Tryd.prog 22 #[.string a0] w fun e w' => ∃ v5_ v9_ : Value, e = .returned (.tuple #[.agg #[.int .i64 r1, .string r2, .string r3, .int .i64 r4, .string r5, v5_, .int .i64 r7, .string r8, .string r9, v9_], .int .i64 r11]) ∧ Kd.R Kd.string 9 w' w.heap.size (fun k_ => some k_ ≠ (v9_ : Value).ownBlock) v5_ r6 ∧ Kd.R Kd.string 9 w' w.heap.size (fun k_ => some k_ ≠ (v5_ : Value).ownBlock) v9_ r10 ∧ Below w.heap.size w w' := by
  have HB : Aside0 (Below w.heap.size w (w.alloc (.cells #[.int .i64 0, .string ⟨#[]⟩, .string ⟨#[]⟩, .int .i64 0, .string ⟨#[]⟩, .slice none 0 0, .int .i64 0, .string ⟨#[]⟩, .string ⟨#[]⟩, .slice none 0 0] 34))) := ⟨(Below.refl _ w).alloc (Nat.le_refl _) _⟩
  have HK : Aside0 ((w.alloc (.cells #[.int .i64 0, .string ⟨#[]⟩, .string ⟨#[]⟩, .int .i64 0, .string ⟨#[]⟩, .slice none 0 0, .int .i64 0, .string ⟨#[]⟩, .string ⟨#[]⟩, .slice none 0 0] 34)).heap[w.heap.size]? = some (.cells #[.int .i64 0, .string ⟨#[]⟩, .string ⟨#[]⟩, .int .i64 0, .string ⟨#[]⟩, .slice none 0 0, .int .i64 0, .string ⟨#[]⟩, .string ⟨#[]⟩, .slice none 0 0] 34 (0, 0))) := ⟨by simpa using heap_alloc_new w _⟩
  by_cases hs : (a0.size : Int) > 1048576
  · rw [cmd_Parse.f, if_pos hs] at h
    injection h with h
    simp only [Prod.mk.injEq] at h
    obtain ⟨rfl, rfl, rfl, rfl, rfl, rfl, rfl, rfl, rfl, rfl, rfl⟩ := h
    have hlen : (1048576 : Int) < (a0.size : Int) := hs
    have hlen2 : 1048576 < a0.size := by omega
    clear hs
    go_enter Tryd.func22, Tryd.ntmps22
    go_wp2
    refine bodyPost_ret (results_ct rfl _ _ w.heap.size 34 #[.int .i64 0, .string ⟨#[]⟩, .string ⟨#[]⟩, .int .i64 0, .string ⟨#[]⟩, .slice none 0 0, .int .i64 0, .string ⟨#[]⟩, .string ⟨#[]⟩, .slice none 0 0] (0, 0) _ rfl HK.out Tryd.underlying34 rfl (by kernel_rfl)) rfl ?_
    exact ⟨_, _, rfl, Kd.R_nil _ _ _ _ _, Kd.R_nil _ _ _ _ _, HB.out⟩
  rw [cmd_Parse.f, if_neg hs] at h
  have hlen : ¬ (1048576 : Int) < (a0.size : Int) := hs
  have hlen2 : ¬ 1048576 < a0.size := by omega
  clear hs
  obtain ⟨words, hw, h⟩ := Option.bind_eq_some_iff.mp h
  cases words with
  | nil => cases h
  | cons q ws =>
  replace h : cmd_Parse.rest k q ws = some (r1, r2, r3, r4, r5, r6, r7, r8, r9, r10, r11) := h
  have HSp := Aside0.mk (fun W : World => strings_Split.calls k a0 ⟨#[32]⟩ (q :: ws) W hw)
  unfold cmd_Parse.rest at h
  obtain ⟨⟨s, b⟩, hs⟩ : ∃ z, z = findS (verbP q) shapesL := ⟨_, rfl⟩
  rw [← hs] at h
  have HF := Aside0.mk (fun (g : Nat) (W : World) (hp : PredS 69 #[.pointer (some ⟨g, 0, none⟩)] (verbP q) W) => find_shape 69 #[.pointer (some ⟨g, 0, none⟩)] (verbP q) (enters_of Tryd.func69 (by kernel_rfl) rfl) W hp s b hs.symm)
  have HH := Aside0.mk h
  clear hs h hw
  go_enter Tryd.func22, Tryd.ntmps22
  go_wp2_with (first | (go_at_call 67; refine (HSp.out _).mono ?_; rintro e w1 ⟨v1, rfl, hR1, hB1⟩; obtain ⟨A1, c1, rfl, hc1, hC1⟩ := Kd.R_reads hR1; have HC1 := Aside0.mk hC1; have HCC := Aside0.mk hc1; have HK1 := Aside0.mk (blk_below HK.out hB1); have HB1 := Aside0.mk (below_then HB.out HB.out.size hB1); have hg1 := HB1.out.size; clear hR1 hB1 hC1 hc1))
  obtain ⟨bk, o, rfl, hbk, hcell⟩ := row_cells HC1.out (by simp)
  have hq := hcell 0 (by simp)
  have hq' : w1.cell? ⟨bk, o, none⟩ = some (.string q) := by simpa [rdOf] using hq
  have HX := Aside0.mk (pred_word q w1.heap.size (ws.length + 1) c1 ⟨bk, o, none⟩ (by omega) (w1.alloc (.cells #[.slice (some ⟨bk, o, none⟩) (ws.length + 1) c1] 28)) (heap_alloc_new w1 _) ((((Below.refl w1.heap.size w1).alloc (Nat.le_refl _) _).cell hbk).trans hq'))
  have HK2 : Aside0 ((w1.alloc (.cells #[.slice (some ⟨bk, o, none⟩) (ws.length + 1) c1] 28)).heap[w.heap.size]? = some (.cells #[.int .i64 0, .string ⟨#[]⟩, .string ⟨#[]⟩, .int .i64 0, .string ⟨#[]⟩, .slice none 0 0, .int .i64 0, .string ⟨#[]⟩, .string ⟨#[]⟩, .slice none 0 0] 34 (0, 0))) := ⟨blk_alloc HK1.out _⟩
  have HB2 : Aside0 (Below w.heap.size w (w1.alloc (.cells #[.slice (some ⟨bk, o, none⟩) (ws.length + 1) c1] 28))) := ⟨HB1.out.alloc hg1 _⟩
  have HC2 : Aside0 (Kd.C Kd.string (w1.alloc (.cells #[.slice (some ⟨bk, o, none⟩) (ws.length + 1) c1] 28)) (some ⟨bk, o, none⟩) (q :: ws).length (q :: ws)) := ⟨Kd.C_alloc HC1.out _⟩
  have HW2 : Aside0 ((w1.alloc (.cells #[.slice (some ⟨bk, o, none⟩) (ws.length + 1) c1] 28)).heap[w1.heap.size]? = some (.cells #[.slice (some ⟨bk, o, none⟩) (ws.length + 1) c1] 28 (0, 0))) := ⟨heap_alloc_new w1 _⟩
  have hm := Kd.C_max HC1.out
  rw [List.length_cons] at hm
  have hcc : ws.length + 1 ≤ c1 := HCC.out
  clear hcell hq hq'
  obtain ⟨o2, ho2, hsub⟩ : ∃ o2, (c1 = 1 ∧ o = o2 ∨ ¬ c1 = 1 ∧ o + 1 = o2) ∧ ∀ W1 : World, Kd.C Kd.string W1 (some ⟨bk, o, none⟩) (q :: ws).length (q :: ws) → Kd.C Kd.string W1 (some ⟨bk, o2, none⟩) ws.length ws := by
    have hcl := fun (W1 : World) (hC1 : Kd.C Kd.string W1 (some ⟨bk, o, none⟩) (q :: ws).length (q :: ws)) => Kd.C_drop (m := 1) (c := c1) hC1 (by simp) HCC.out
    by_cases hcc1 : c1 = 1
    · refine ⟨o, .inl ⟨hcc1, rfl⟩, fun W1 hC1 => ?_⟩
      have := hcl W1 hC1
      rw [if_pos hcc1] at this
      exact this
    · refine ⟨o + 1, .inr ⟨hcc1, rfl⟩, fun W1 hC1 => ?_⟩
      have := hcl W1 hC1
      rw [if_neg hcc1, show ((some (⟨bk, o, none⟩ : Addr)).map (·.add (1 * Kd.string.sz))) = some ⟨bk, o + 1, none⟩ from congrArg some (add_at bk o 1)] at this
      exact this
  have HSUB := Aside0.mk hsub
  clear hsub
  have hs1 : (1 : Int) ≤ (c1 : Int) := by omega
  have hs2 : decide (1 ≤ c1) = true := decide_eq_true (by omega)
  have hs4 : 1 ≤ c1 := by omega
  have hs5 : (1 : Int) ≤ (((ws.length + 1 : Nat)) : Int) := by omega
  rcases ho2 with ⟨rfl, rfl⟩ | ⟨hcc1, rfl⟩
  all_goals
    refine (HF.out _ _ HX.out).mono ?_
    rintro e w3 ⟨rfl, hB3⟩
    have HK3 := Aside0.mk (blk_below HK2.out hB3)
    have HB3 := Aside0.mk (below_then HB2.out HB2.out.size hB3)
    have HR3 := Aside0.mk (HSUB.out _ (Kd.C_below HC2.out hB3))
    have hw4 : w3.cell? ⟨w1.heap.size, 0, none⟩ = some (.slice (some ⟨bk, o, none⟩) (ws.length + 1) _) := (blk_cell (blk_below HW2.out hB3) 0).trans rfl
    have hwn : w1.heap.size ≠ w3.heap.size := by have := blk_lt (blk_below HW2.out hB3); omega
    have hge := HB3.out.size
    have hw5 : (w3.alloc (.cells #[.string s.f0, .int .i64 s.f1, .int .i64 s.f2, .int .i64 s.f3, .int .i64 s.f4, .bool s.f5] 93)).cell? ⟨w1.heap.size, 0, none⟩ = some (.slice (some ⟨bk, o, none⟩) (ws.length + 1) _) := ((((Below.refl w3.heap.size w3).alloc (Nat.le_refl _) _).cell (p := ⟨w1.heap.size, 0, none⟩) (World.block_lt_of_cell? w3 _ hw4))).trans hw4
    clear hB3
    go_wp2
    obtain ⟨wb, hwb⟩ : ∃ wb, wb = w3.alloc (.cells #[.string s.f0, .int .i64 s.f1, .int .i64 s.f2, .int .i64 s.f3, .int .i64 s.f4, .bool s.f5] 93) := ⟨_, rfl⟩
    have kres : wb.heap[w.heap.size]? = some (.cells #[.int .i64 0, .string ⟨#[]⟩, .string ⟨#[]⟩, .int .i64 0, .string ⟨#[]⟩, .slice none 0 0, .int .i64 0, .string ⟨#[]⟩, .string ⟨#[]⟩, .slice none 0 0] 34 (0, 0)) := by rw [hwb]; exact blk_alloc HK3.out _
    have kshp : wb.heap[w3.heap.size]? = some (.cells #[.string s.f0, .int .i64 s.f1, .int .i64 s.f2, .int .i64 s.f3, .int .i64 s.f4, .bool s.f5] 93 (0, 0)) := by rw [hwb]; exact heap_alloc_new w3 _
    have kbel : Below w.heap.size w wb := by rw [hwb]; exact HB3.out.alloc hge _
    have krow := Kd.C_alloc HR3.out (.cells #[.string s.f0, .int .i64 s.f1, .int .i64 s.f2, .int .i64 s.f3, .int .i64 s.f4, .bool s.f5] 93)
    rw [← hwb] at krow
    rw [← hwb]
    clear hwb hw5 hw4 hwn HK3 HB3 HR3 HX HF HSp HSUB HK2 HB2 HC2 HW2 HCC HC1 HK1 HB1 hs1 hs2 hs4 hs5 hg1 hbk
    have KRES := Aside0.mk kres
    have KSHP := Aside0.mk kshp
    have KBEL := Aside0.mk kbel
    have KROW := Aside0.mk krow
    have hgr := blk_lt kres
    have hgs := blk_lt kshp
    clear kres kshp kbel krow
    go_loopg [7, 26] ws.length (fun gk v7 v26 w' => ∃ (i : Nat) (acc : List ByteArray), v26 = .int .i64 i ∧ Aside0 (i + gk = ws.length) ∧ Aside0 (Kd.R Kd.string 9 w' wb.heap.size (fun _ => True) v7 acc) ∧ Aside0 (Below wb.heap.size wb w') ∧ Aside0 (parseThen k s b (parseRest k (ws.drop i) acc) = some (r1, r2, r3, r4, r5, r6, r7, r8, r9, r10, r11)))
    case atStart => exact ⟨0, [], rfl, ⟨by omega⟩, ⟨Kd.R_nil _ _ _ _ _⟩, ⟨Below.refl _ _⟩, ⟨HH.out⟩⟩
    case round =>
      clear HH
      obtain ⟨i, acc, rfl, HN, HO, HBB, HH⟩ := hrel
      obtain ⟨A7, c7, rfl, hc7, hC7⟩ := Kd.R_reads HO.out
      have HC7 := Aside0.mk hC7
      have HCC7 := Aside0.mk hc7
      clear hC7 hc7
      by_cases hi : i < ws.length
      · first
        | (exfalso; omega)
        | (have hd0 : ws.drop i = ws[i] :: ws.drop (i + 1) := List.drop_eq_getElem_cons hi
           obtain ⟨ad, e0, hx⟩ := Kd.at_string KROW.out (i : Int) (by omega) (by omega)
           cases e0
           have e1 : rdOf ByteArray.empty ws (i : Int) = ws[i] := by simp [rdOf, hi]
           rw [e1, Int.toNat_natCast] at hx
           rw [add_at] at hx
           replace hx := (HBB.out.cell (World.block_lt_of_cell? wb _ hx)).trans hx
           have H := HH.out
           rw [hd0] at H
           clear hd0 e1 HH
           generalize ws[i] = x at hx H
           obtain ⟨t, e, hu, H⟩ := parseThen_cons H
           have HU := Aside0.mk (fun W : World => cmd_Unword.calls k x t e W hu)
           have hi' : (i : Int) < (ws.length : Int) := by omega
           clear hu
           rcases H with ⟨rfl, hl, H⟩ | ⟨he, H⟩
           · have HL := Aside0.mk hl
             have HH := Aside0.mk H
             clear hl H
             go_wp2_with (first | (go_at_call 14; refine (HU.out _).mono ?_; rintro e2 w5 ⟨rfl, hb5⟩; have HO5 := Aside0.mk (Kd.R_below HO.out hb5); have HB5 := Aside0.mk (below_then HBB.out HBB.out.size hb5); clear hb5) | (at_builtin; refine Kd.R_append (w0 := wb) Kd.string wb.heap.size rfl (.tmp 39) (.tmp 41) 28 9 (.string ⟨#[]⟩) 16 rfl Tryd.underlying28 info9 rfl (by decide) (by omega) _ acc t [.string t] (fun _ => True) (fun _ => False) rfl rfl ?aP (fun _ hk => hk.elim) ?aF ?aO HB5.out ?aS ?aL ?_; (case aP => exact rfl); (case aF => exact (fun _ _ => trivial)); (case aO => exact HO5.out); (case aS => exact HB5.out.size); (case aL => exact HL.out); intro v6 w6 ho6 hb6 hg6 _; obtain ⟨A6, c6, rfl, _⟩ := Kd.R_reads ho6; have HO6 := Aside0.mk ho6; have HB6 := Aside0.mk hb6; clear ho6 hb6 hg6))
             go_roundg (gk - 1)
             case measure => have := HN.out; omega
             case rel => exact ⟨i + 1, acc ++ [t], by go_num, ⟨by have := HN.out; omega⟩, ⟨by have h6 := HO6.out; rw [List.length_append] at h6; exact h6⟩, HB6, HH⟩
           · simp only [Prod.mk.injEq] at H
             obtain ⟨rfl, rfl, rfl, rfl, rfl, rfl, rfl, rfl, rfl, rfl, rfl⟩ := H
             have g1 : (e != 0) = true := by simpa using he
             have g2 : (e == 0) = false := by simpa using he
             go_wp2_with (first | (go_at_call 14; refine (HU.out _).mono ?_; rintro e2 w5 ⟨rfl, hb5⟩; have HB5 := Aside0.mk (below_then HBB.out HBB.out.size hb5); have KR5 := Aside0.mk (blk_below KRES.out HB5.out); have q0 := blk_frozen KR5.out 0; have p0 : w5.cell? ⟨w.heap.size, 0, none⟩ = some (.int .i64 0) := (blk_cell KR5.out 0).trans rfl; have q1 := blk_frozen KR5.out 1; have p1 : w5.cell? ⟨w.heap.size, 1, none⟩ = some (.string ⟨#[]⟩) := (blk_cell KR5.out 1).trans rfl; have q2 := blk_frozen KR5.out 2; have p2 : w5.cell? ⟨w.heap.size, 2, none⟩ = some (.string ⟨#[]⟩) := (blk_cell KR5.out 2).trans rfl; have q3 := blk_frozen KR5.out 3; have p3 : w5.cell? ⟨w.heap.size, 3, none⟩ = some (.int .i64 0) := (blk_cell KR5.out 3).trans rfl; have q4 := blk_frozen KR5.out 4; have p4 : w5.cell? ⟨w.heap.size, 4, none⟩ = some (.string ⟨#[]⟩) := (blk_cell KR5.out 4).trans rfl; have q5 := blk_frozen KR5.out 5; have p5 : w5.cell? ⟨w.heap.size, 5, none⟩ = some (.slice none 0 0) := (blk_cell KR5.out 5).trans rfl; have q6 := blk_frozen KR5.out 6; have p6 : w5.cell? ⟨w.heap.size, 6, none⟩ = some (.int .i64 0) := (blk_cell KR5.out 6).trans rfl; have q7 := blk_frozen KR5.out 7; have p7 : w5.cell? ⟨w.heap.size, 7, none⟩ = some (.string ⟨#[]⟩) := (blk_cell KR5.out 7).trans rfl; have q8 := blk_frozen KR5.out 8; have p8 : w5.cell? ⟨w.heap.size, 8, none⟩ = some (.string ⟨#[]⟩) := (blk_cell KR5.out 8).trans rfl; have q9 := blk_frozen KR5.out 9; have p9 : w5.cell? ⟨w.heap.size, 9, none⟩ = some (.slice none 0 0) := (blk_cell KR5.out 9).trans rfl; clear hb5))
             refine bodyPost_ret (results_ct rfl _ _ w.heap.size 34 #[.int .i64 0, .string ⟨#[]⟩, .string ⟨#[]⟩, .int .i64 0, .string ⟨#[]⟩, .slice none 0 0, .int .i64 0, .string ⟨#[]⟩, .string ⟨#[]⟩, .slice none 0 0] (0, 0) _ rfl (put10 KR5.out) Tryd.underlying34 rfl (by kernel_rfl)) rfl ?_
             exact ⟨_, _, rfl, Kd.R_nil _ _ _ _ _, Kd.R_nil _ _ _ _ _, below10 (below_then KBEL.out KBEL.out.size HB5.out) (Nat.le_refl _)⟩)
      · have hi' : ¬ (i : Int) < (ws.length : Int) := by omega
        have H := HH.out
        rw [List.drop_eq_nil_of_le (by omega)] at H
        clear HH
        replace H : cmd_Parse.fin k s b acc = some (r1, r2, r3, r4, r5, r6, r7, r8, r9, r10, r11) := by simpa [parseThen, parseRest] using H
        have ks := blk_below KSHP.out HBB.out
        have KR5 := Aside0.mk (blk_below KRES.out HBB.out)
        have hb0 : wr.cell? ⟨w3.heap.size, 0, none⟩ = some (.string s.f0) := (blk_cell ks 0).trans rfl
        have hb1 : wr.cell? ⟨w3.heap.size, 1, none⟩ = some (.int .i64 s.f1) := (blk_cell ks 1).trans rfl
        have hb2 : wr.cell? ⟨w3.heap.size, 2, none⟩ = some (.int .i64 s.f2) := (blk_cell ks 2).trans rfl
        have hb3 : wr.cell? ⟨w3.heap.size, 3, none⟩ = some (.int .i64 s.f3) := (blk_cell ks 3).trans rfl
        have hb4 : wr.cell? ⟨w3.heap.size, 4, none⟩ = some (.int .i64 s.f4) := (blk_cell ks 4).trans rfl
        have hb5 : wr.cell? ⟨w3.heap.size, 5, none⟩ = some (.bool s.f5) := (blk_cell ks 5).trans rfl
        clear ks
        unfold cmd_Parse.fin at H
        by_cases hbad : b = false ∨ (acc.length : Int) < s.f4 ∨ s.f4 < (acc.length : Int) ∧ s.f5 = false
        · rw [if_pos hbad] at H
          injection H with H
          simp only [Prod.mk.injEq] at H
          obtain ⟨rfl, rfl, rfl, rfl, rfl, rfl, rfl, rfl, rfl, rfl, rfl⟩ := H
          have q0 := blk_frozen KR5.out 0
          have p0 : wr.cell? ⟨w.heap.size, 0, none⟩ = some (.int .i64 0) := (blk_cell KR5.out 0).trans rfl
          have q1 := blk_frozen KR5.out 1
          have p1 : wr.cell? ⟨w.heap.size, 1, none⟩ = some (.string ⟨#[]⟩) := (blk_cell KR5.out 1).trans rfl
          have q2 := blk_frozen KR5.out 2
          have p2 : wr.cell? ⟨w.heap.size, 2, none⟩ = some (.string ⟨#[]⟩) := (blk_cell KR5.out 2).trans rfl
          have q3 := blk_frozen KR5.out 3
          have p3 : wr.cell? ⟨w.heap.size, 3, none⟩ = some (.int .i64 0) := (blk_cell KR5.out 3).trans rfl
          have q4 := blk_frozen KR5.out 4
          have p4 : wr.cell? ⟨w.heap.size, 4, none⟩ = some (.string ⟨#[]⟩) := (blk_cell KR5.out 4).trans rfl
          have q5 := blk_frozen KR5.out 5
          have p5 : wr.cell? ⟨w.heap.size, 5, none⟩ = some (.slice none 0 0) := (blk_cell KR5.out 5).trans rfl
          have q6 := blk_frozen KR5.out 6
          have p6 : wr.cell? ⟨w.heap.size, 6, none⟩ = some (.int .i64 0) := (blk_cell KR5.out 6).trans rfl
          have q7 := blk_frozen KR5.out 7
          have p7 : wr.cell? ⟨w.heap.size, 7, none⟩ = some (.string ⟨#[]⟩) := (blk_cell KR5.out 7).trans rfl
          have q8 := blk_frozen KR5.out 8
          have p8 : wr.cell? ⟨w.heap.size, 8, none⟩ = some (.string ⟨#[]⟩) := (blk_cell KR5.out 8).trans rfl
          have q9 := blk_frozen KR5.out 9
          have p9 : wr.cell? ⟨w.heap.size, 9, none⟩ = some (.slice none 0 0) := (blk_cell KR5.out 9).trans rfl
          cases hcb : b
          all_goals
            cases hcf : s.f5
            all_goals
              cases hc1 : decide ((acc.length : Int) < s.f4)
              all_goals
                cases hc2 : decide (s.f4 < (acc.length : Int))
                all_goals
                  first
                  | (exfalso; simp [hcb, hcf] at hbad hc1 hc2; omega)
                  | (rw [hcb] at *; rw [hcf] at hb5; go_wp2
                     refine bodyPost_ret (results_ct rfl _ _ w.heap.size 34 #[.int .i64 0, .string ⟨#[]⟩, .string ⟨#[]⟩, .int .i64 0, .string ⟨#[]⟩, .slice none 0 0, .int .i64 0, .string ⟨#[]⟩, .string ⟨#[]⟩, .slice none 0 0] (0, 0) _ rfl (put10 KR5.out) Tryd.underlying34 rfl (by kernel_rfl)) rfl ?_
                     exact ⟨_, _, rfl, Kd.R_nil _ _ _ _ _, Kd.R_nil _ _ _ _ _, below10 (below_then KBEL.out KBEL.out.size HBB.out) (Nat.le_refl _)⟩)
        · rw [if_neg hbad] at H
          obtain ⟨hb', hl1, hl2⟩ : b = true ∧ ¬ (acc.length : Int) < s.f4 ∧ (¬ s.f4 < (acc.length : Int) ∨ s.f5 = true) := by
            refine ⟨?_, ?_, ?_⟩
            · cases b
              · exact absurd (.inl rfl) hbad
              · rfl
            · exact fun h => hbad (.inr (.inl h))
            · by_cases h : s.f4 < (acc.length : Int)
              · cases hf : s.f5
                · exact absurd (.inr (.inr ⟨h, hf⟩)) hbad
                · exact .inr rfl
              · exact .inl h
          obtain ⟨⟨y1, y2, y3, y4, y5, y6, y7, y8, y9, y10⟩, hf, H⟩ := Option.bind_eq_some_iff.mp H
          injection H with H
          simp only [Prod.mk.injEq] at H
          obtain ⟨rfl, rfl, rfl, rfl, rfl, rfl, rfl, rfl, rfl, rfl, rfl⟩ := H
          have HFL := Aside0.mk (cmd_fill.calls s.f0 s.f1 s.f2 s.f3 s.f4 s.f5 A7 c7 acc _ _ _ _ _ _ _ _ _ _ wr HC7.out HCC7.out hf)
          clear hf hbad
          subst hb'
          have kd1 : decide ((acc.length : Int) < s.f4) = false := decide_eq_false hl1
          have hl3 : decide (s.f4 < (acc.length : Int)) = true → s.f5 = true := fun h => by
            rcases hl2 with h2 | h2
            · exact absurd (of_decide_eq_true h) h2
            · exact h2
          cases kd2 : decide (s.f4 < (acc.length : Int))
          all_goals
            try (have h5 := hl3 kd2; rw [h5] at hb5 HFL)
            clear hl2 hl3
            go_wp2_with (first | (go_at_call 66; refine HFL.out.mono ?_; rintro e2 w5 ⟨v5, v9, rfl, hR5, hR9, hb5⟩; have KR6 := Aside0.mk (blk_below KR5.out hb5); have HB6 := Aside0.mk (below_then HBB.out HBB.out.size hb5); have HN5 := Aside0.mk (Kd.R_newB hR5 KR5.out); have HN9 := Aside0.mk (Kd.R_newB hR9 KR5.out); obtain ⟨A5, c5, rfl, _⟩ := Kd.R_reads hR5; obtain ⟨A9, c9, rfl, _⟩ := Kd.R_reads hR9; have q0 := blk_frozen KR6.out 0; have p0 : w5.cell? ⟨w.heap.size, 0, none⟩ = some (.int .i64 0) := (blk_cell KR6.out 0).trans rfl; have q1 := blk_frozen KR6.out 1; have p1 : w5.cell? ⟨w.heap.size, 1, none⟩ = some (.string ⟨#[]⟩) := (blk_cell KR6.out 1).trans rfl; have q2 := blk_frozen KR6.out 2; have p2 : w5.cell? ⟨w.heap.size, 2, none⟩ = some (.string ⟨#[]⟩) := (blk_cell KR6.out 2).trans rfl; have q3 := blk_frozen KR6.out 3; have p3 : w5.cell? ⟨w.heap.size, 3, none⟩ = some (.int .i64 0) := (blk_cell KR6.out 3).trans rfl; have q4 := blk_frozen KR6.out 4; have p4 : w5.cell? ⟨w.heap.size, 4, none⟩ = some (.string ⟨#[]⟩) := (blk_cell KR6.out 4).trans rfl; have q5 := blk_frozen KR6.out 5; have p5 : w5.cell? ⟨w.heap.size, 5, none⟩ = some (.slice none 0 0) := (blk_cell KR6.out 5).trans rfl; have q6 := blk_frozen KR6.out 6; have p6 : w5.cell? ⟨w.heap.size, 6, none⟩ = some (.int .i64 0) := (blk_cell KR6.out 6).trans rfl; have q7 := blk_frozen KR6.out 7; have p7 : w5.cell? ⟨w.heap.size, 7, none⟩ = some (.string ⟨#[]⟩) := (blk_cell KR6.out 7).trans rfl; have q8 := blk_frozen KR6.out 8; have p8 : w5.cell? ⟨w.heap.size, 8, none⟩ = some (.string ⟨#[]⟩) := (blk_cell KR6.out 8).trans rfl; have q9 := blk_frozen KR6.out 9; have p9 : w5.cell? ⟨w.heap.size, 9, none⟩ = some (.slice none 0 0) := (blk_cell KR6.out 9).trans rfl; clear hR5 hR9 hb5))
            refine bodyPost_ret (results_ct rfl _ _ w.heap.size 34 #[.int .i64 y1, .string y2, .string y3, .int .i64 y4, .string y5, .slice A5 y6.length c5, .int .i64 y7, .string y8, .string y9, .slice A9 y10.length c9] (0, 0) _ rfl (put10 KR6.out) Tryd.underlying34 rfl (by kernel_rfl)) rfl ?_
            exact ⟨_, _, rfl, Kd.R_mono (Kd.R_lower (R10 HN5.out (fun _ hk => hk.2)) (Nat.le_trans KBEL.out.size HBB.out.size)) (fun _ hk => hk.1), Kd.R_mono (Kd.R_lower (R10 HN9.out (fun _ hk => hk.2)) (Nat.le_trans KBEL.out.size HBB.out.size)) (fun _ hk => hk.1), below10 (below_then KBEL.out KBEL.out.size HB6.out) (Nat.le_refl _)⟩

end Go.Proofs.YtloibeefopdhpaaDoor.G
