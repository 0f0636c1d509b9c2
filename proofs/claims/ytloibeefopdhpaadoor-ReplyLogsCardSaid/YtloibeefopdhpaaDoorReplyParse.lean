/- reply.Parse: the walk of its closures, and of the function. -/
import Derived.Test.YtloibeefopdhpaaDoorG13
import Derived.Test.YtloibeefopdhpaaDoorReadFile
import Derived.Test.YtloibeefopdhpaaDoorG10
import Derived.Deep.RegionLaw
import Derived.Outline
set_option linter.unusedVariables false
namespace Go.Proofs.YtloibeefopdhpaaDoor.G
open Go.RowKit Go.Proofs.YtloibeefopdhpaaDoorW.PrintWords Go.Proofs.YtloibeefopdhpaaDoorW.PrintLast Go.Proofs.YtloibeefopdhpaaDoorW.PrintMore Go.Proofs.YtloibeefopdhpaaDoor.Plain

abbrev TPair := S100
abbrev TPrim := S108
abbrev TFile := S102
theorem infoPair : (Tryd.prog.info? 100).map (fun i => (i.zero, i.size, i.bytes)) = some (some (.agg #[.string ⟨#[]⟩, .string ⟨#[]⟩]), 2, 32) := by kernel_rfl
theorem infoPrim : (Tryd.prog.info? 108).map (fun i => (i.zero, i.size, i.bytes)) = some (some (.agg #[.int .i64 0, .string ⟨#[]⟩, .string ⟨#[]⟩, .int .i64 0, .slice none 0 0, .slice none 0 0]), 6, 96) := by kernel_rfl
theorem infoFile : (Tryd.prog.info? 102).map (fun i => (i.zero, i.size, i.bytes)) = some (some (.agg #[.string ⟨#[]⟩, .bool false, .slice none 0 0]), 3, 48) := by kernel_rfl

/-- What stands in the reply that is made. -/
structure ReplyAt (B go gp g : Nat) (e : Int) (ns : List ByteArray) (v1 v2 v3 v4 : Value) (ps : List TPair) (qs : List TPrim) (fs : List TFile) (W : World) : Prop where mk ::
  blk : W.heap[go]? = some (.cells #[.int .i64 e, v1, v2, v3, v4] 54 (0, 0))
  ptr : W.heap[gp]? = some (.cells #[.pointer (some ⟨g, 0, none⟩)] 113 (0, 0))
  r1 : Kd.R Kd.string 9 W B (fun _ => True) v1 ns
  r2 : Kd.R k100 100 W B (fun _ => True) v2 ps
  r3 : Kd.S k108 108 W B (fun k_ => some k_ ≠ v1.ownBlock) v3 qs
  r4 : Kd.S k102 102 W B (fun k_ => some k_ ≠ v1.ownBlock) v4 fs
theorem R_stayB {α : Type} {d : Kd α} {e B : Nat} {W W' : World} {g : Nat} {v : Value} {xs : List α} {ok : Nat → Prop} (h : d.R e W B ok v xs) (hk : KeepBut W W' g none) (hg : g < B) : d.R e W' B ok v xs :=
  Kd.R_mono (Kd.R_keep (Kd.R_bound h) hk (fun k hk => by have := hk.2.1; omega)) (fun _ hk => hk.1)
theorem S_stayB {α : Type} {d : Kd α} {e B : Nat} {W W' : World} {g : Nat} {v : Value} {xs : List α} {ok : Nat → Prop} (h : d.S e W B ok v xs) (hk : KeepBut W W' g none) (hg : g < B) : d.S e W' B ok v xs :=
  Kd.S_mono (Kd.S_keep (Kd.S_bound h) hk (fun k hk => by have := hk.2.1; omega)) (fun _ hk => hk.1)
section
variable {B go gp g : Nat} {e : Int} {ns : List ByteArray} {v1 v2 v3 v4 u : Value} {ps ps' : List TPair} {qs qs' : List TPrim} {fs fs' : List TFile} {W W' : World}
theorem ReplyAt.stay (h : ReplyAt B go gp g e ns v1 v2 v3 v4 ps qs fs W) (hk : KeepBut W W' g none) (hg : g < B) (hgo : go ≠ g) (hgp : gp ≠ g) : ReplyAt B go gp g e ns v1 v2 v3 v4 ps qs fs W' :=
  ⟨hk.blk h.blk hgo (by simp), hk.blk h.ptr hgp (by simp), R_stayB h.r1 hk hg, R_stayB h.r2 hk hg, S_stayB h.r3 hk hg, S_stayB h.r4 hk hg⟩
theorem ReplyAt.drew (h : ReplyAt B go gp g e ns v1 v2 v3 v4 ps qs fs W) : ReplyAt B go gp g e ns v1 v2 v3 v4 ps qs fs W.drew :=
  ⟨blk_drew h.blk, blk_drew h.ptr, Kd.R_drew h.r1, Kd.R_drew h.r2, Kd.S_drew h.r3, Kd.S_drew h.r4⟩
theorem ReplyAt.size (h : ReplyAt B go gp g e ns v1 v2 v3 v4 ps qs fs W) (hgo : B ≤ go) : B ≤ W.heap.size := Nat.le_trans hgo (Nat.le_of_lt (blk_lt h.blk))
theorem ReplyAt.put2 (h : ReplyAt B go gp g e ns v1 v2 v3 v4 ps qs fs W) (ho : Kd.R k100 100 W' B (fun _ => True) u ps') (hg : W.grownBy W' v2.ownBlock) (hne : go ≠ gp) :
    ReplyAt B go gp g e ns v1 u v3 v4 ps' qs fs (W'.setCell ⟨go, 2, none⟩ u) ∧ W'.cell? ⟨go, 2, none⟩ = some v2 ∧ W'.frozen? ⟨go, 2, none⟩ = false := by
  have hb := blk_grown h.blk hg (Kd.R_ne h.r2 h.blk (by decide))
  have hp := blk_grown h.ptr hg (Kd.R_ne h.r2 h.ptr (by decide))
  exact ⟨⟨by simpa using blk_set hb 2 u, blk_far hp (Ne.symm hne) u, Kd.R_set (Kd.R_over' h.r1 (Kd.R_typed h.r2) (by decide) hg) hb (by decide) 2 u, Kd.R_set ho hb (by decide) 2 u, Kd.S_set (Kd.S_over' h.r3 (Kd.R_typed h.r2) (by decide) hg) hb (by decide) 2 u, Kd.S_set (Kd.S_over' h.r4 (Kd.R_typed h.r2) (by decide) hg) hb (by decide) 2 u⟩, (blk_cell hb 2).trans rfl, blk_frozen hb 2⟩
theorem ReplyAt.put3 (h : ReplyAt B go gp g e ns v1 v2 v3 v4 ps qs fs W) (ho : Kd.S k108 108 W' B (fun k_ => some k_ ≠ v1.ownBlock) u qs') (hg : W.grownBy W' v3.ownBlock) (hne : go ≠ gp) :
    ReplyAt B go gp g e ns v1 v2 u v4 ps qs' fs (W'.setCell ⟨go, 3, none⟩ u) ∧ W'.cell? ⟨go, 3, none⟩ = some v3 ∧ W'.frozen? ⟨go, 3, none⟩ = false := by
  have hb := blk_grown h.blk hg (Kd.S_ne h.r3 h.blk (by decide))
  have hp := blk_grown h.ptr hg (Kd.S_ne h.r3 h.ptr (by decide))
  exact ⟨⟨by simpa using blk_set hb 3 u, blk_far hp (Ne.symm hne) u, Kd.R_set (Kd.R_over' h.r1 (Kd.S_typed h.r3) (by decide) hg) hb (by decide) 3 u, Kd.R_set (Kd.R_over' h.r2 (Kd.S_typed h.r3) (by decide) hg) hb (by decide) 3 u, Kd.S_set ho hb (by decide) 3 u, Kd.S_set (Kd.S_over' h.r4 (Kd.S_typed h.r3) (by decide) hg) hb (by decide) 3 u⟩, (blk_cell hb 3).trans rfl, blk_frozen hb 3⟩
theorem ReplyAt.put4 (h : ReplyAt B go gp g e ns v1 v2 v3 v4 ps qs fs W) (ho : Kd.S k102 102 W' B (fun k_ => some k_ ≠ v1.ownBlock) u fs') (hg : W.grownBy W' v4.ownBlock) (hne : go ≠ gp) :
    ReplyAt B go gp g e ns v1 v2 v3 u ps qs fs' (W'.setCell ⟨go, 4, none⟩ u) ∧ W'.cell? ⟨go, 4, none⟩ = some v4 ∧ W'.frozen? ⟨go, 4, none⟩ = false := by
  have hb := blk_grown h.blk hg (Kd.S_ne h.r4 h.blk (by decide))
  have hp := blk_grown h.ptr hg (Kd.S_ne h.r4 h.ptr (by decide))
  exact ⟨⟨by simpa using blk_set hb 4 u, blk_far hp (Ne.symm hne) u, Kd.R_set (Kd.R_over' h.r1 (Kd.S_typed h.r4) (by decide) hg) hb (by decide) 4 u, Kd.R_set (Kd.R_over' h.r2 (Kd.S_typed h.r4) (by decide) hg) hb (by decide) 4 u, Kd.S_set (Kd.S_over' h.r3 (Kd.S_typed h.r4) (by decide) hg) hb (by decide) 4 u, Kd.S_set ho hb (by decide) 4 u⟩, (blk_cell hb 4).trans rfl, blk_frozen hb 4⟩
end
structure ReplyInv (B go gp g : Nat) (e : Int) (ns : List ByteArray) (v1 : Value) (x : List TPair × List TPrim × List TFile) (W : World) : Prop where mk ::
  out : ∃ v2 v3 v4, ReplyAt B go gp g e ns v1 v2 v3 v4 x.1 x.2.1 x.2.2 W
theorem reply_stay (B go gp g : Nat) (e : Int) (ns : List ByteArray) (v1 : Value) (hg : g < B) (hgo : go ≠ g) (hgp : gp ≠ g) : StayBut g (ReplyInv B go gp g e ns v1) := by
  rintro x W W' ⟨v2, v3, v4, h⟩ hk
  exact ⟨v2, v3, v4, h.stay hk hg hgo hgp⟩

def pairsOne (k : Nat) (x : List TPair × List TPrim × List TFile) (ws : List ByteArray) (b : Bool) : Option ((List TPair × List TPrim × List TFile) × List ByteArray × Bool) :=
  (reply_reader_text.f k ws b).bind fun q => (reply_reader_text.f k q.2.1 q.2.2).bind fun p => if (x.1.length + 1) * 32 ≤ 140737488355328 then some ((x.1 ++ [⟨q.1, p.1⟩], x.2.1, x.2.2), p.2.1, p.2.2) else none
def primsOne (k : Nat) (x : List TPair × List TPrim × List TFile) (ws : List ByteArray) (b : Bool) : Option ((List TPair × List TPrim × List TFile) × List ByteArray × Bool) :=
  (reply_reader_prim.f k ws b).bind fun q => if (x.2.1.length + 1) * 96 ≤ 140737488355328 then some ((x.1, x.2.1 ++ [⟨q.1, q.2.1, q.2.2.1, q.2.2.2.1, q.2.2.2.2.1, q.2.2.2.2.2.1⟩], x.2.2), q.2.2.2.2.2.2.1, q.2.2.2.2.2.2.2) else none
def filesOne (k : Nat) (x : List TPair × List TPrim × List TFile) (ws : List ByteArray) (b : Bool) : Option ((List TPair × List TPrim × List TFile) × List ByteArray × Bool) :=
  (reply_reader_file.f k ws b).bind fun q => if (x.2.2.length + 1) * 48 ≤ 140737488355328 then some ((x.1, x.2.1, x.2.2 ++ [⟨q.1, q.2.1, q.2.2.1⟩]), q.2.2.2.1, q.2.2.2.2) else none
theorem pairsOne_mono (k : Nat) (x) (ws : List ByteArray) (b : Bool) : LeO (pairsOne k x ws b) (pairsOne (k + 1) x ws b) := by
  unfold pairsOne
  exact LeO.bind (reply_reader_text.mono _ _ _) fun q => LeO.bind (reply_reader_text.mono _ _ _) fun p => LeO.refl _
theorem primsOne_mono (k : Nat) (x) (ws : List ByteArray) (b : Bool) : LeO (primsOne k x ws b) (primsOne (k + 1) x ws b) := by
  unfold primsOne
  exact LeO.bind (reply_reader_prim.mono _ _ _) fun q => LeO.refl _
theorem filesOne_mono (k : Nat) (x) (ws : List ByteArray) (b : Bool) : LeO (filesOne k x ws b) (filesOne (k + 1) x ws b) := by
  unfold filesOne
  exact LeO.bind (reply_reader_file.mono _ _ _) fun q => LeO.refl _

set_option maxHeartbeats 8000000 in
set_option maxRecDepth 100000 in
theorem parse_pairs (k : Nat) (w0 : World) (B go gp g : Nat) (e : Int) (ns : List ByteArray) (v1 : Value) (hg : g < B) (hgo : B ≤ go) (hgp : B ≤ gp) (hw : w0.heap.size ≤ B) :
    OneStep 80 #[.pointer (some ⟨gp, 0, none⟩), .pointer (some ⟨go, 0, none⟩)] w0 g (ReplyInv B go gp g e ns v1) (pairsOne k) := by
  rintro ⟨ps, qs, fs⟩ ws b x' ws' b' W ⟨v2, v3, v4, hI⟩ hS hB h
  dsimp only at hI
  obtain ⟨⟨a, ws1, b1⟩, ha, h⟩ := Option.bind_eq_some_iff.mp h
  obtain ⟨⟨c, ws2, b2⟩, hc, h⟩ := Option.bind_eq_some_iff.mp h
  dsimp only at ha hc h
  by_cases hl : (ps.length + 1) * 32 ≤ 140737488355328
  case neg => rw [if_neg hl] at h; cases h
  rw [if_pos hl] at h
  injection h with h
  simp only [Prod.mk.injEq] at h
  obtain ⟨rfl, rfl, rfl⟩ := h
  obtain ⟨A0, c0, rfl⟩ := Kd.R_slice hI.r2
  have hBW := hI.size hgo
  have HN := Aside0.mk (show g < B ∧ B ≤ go ∧ B ≤ gp ∧ w0.heap.size ≤ B ∧ go ≠ g ∧ gp ≠ g ∧ go ≠ gp ∧ B ≤ W.heap.size from ⟨hg, hgo, hgp, hw, by omega, by omega, blk_ne hI.blk hI.ptr (by decide), hBW⟩)
  have HL := Aside0.mk hl
  have HX1 := Aside0.mk (reply_reader_text.calls k g ws b a ws1 b1 w0 W hS hB ha)
  have HX2 := Aside0.mk (fun (W' : World) (h1 : IsS115 w0 W' g ws1 b1) (h2 : Below w0.heap.size w0 W') => reply_reader_text.calls k g ws1 b1 c ws2 b2 w0 W' h1 h2 hc)
  have hcp : W.cell? ⟨gp, 0, none⟩ = some _ := (blk_cell hI.ptr 0).trans rfl
  have HI := Aside0.mk hI
  clear ha hc hl hI hS hB hg hgo hgp hw hBW
  show Calls Tryd.prog 80 #[.pointer (some ⟨gp, 0, none⟩), .pointer (some ⟨go, 0, none⟩)] W _
  go_enter Tryd.func80, Tryd.ntmps80
  go_wp2_with (go_at_call 81; refine HX1.out.mono ?_; rintro e_ w1 ⟨rfl, hs1, hb1, hk1⟩; have HS1 := Aside0.mk hs1.drew; have HB1 := Aside0.mk (below_drew hb1); have HI1 := Aside0.mk (HI.out.stay hk1 HN.out.1 HN.out.2.2.2.2.1 HN.out.2.2.2.2.2.1).drew; have HZ1 := Aside0.mk hk1.1; have hcp1 : w1.drew.cell? ⟨gp, 0, none⟩ = some _ := (blk_cell HI1.out.ptr 0).trans rfl; have hcq1 : w1.cell? ⟨gp, 0, none⟩ = some _ := hcp1; have hg1 : w1.drew.cell? ⟨go, 2, none⟩ = some _ := (blk_cell HI1.out.blk 2).trans rfl; clear hs1 hb1 hk1)
  go_region_law (first | (refine Kd.R_append_step k100 (w0 := w2) B rfl (.tmp 6) (.tmp 11) 50 100 (.agg #[.string ⟨#[]⟩, .string ⟨#[]⟩]) 32 rfl Tryd.underlying50 infoPair rfl (by decide) (by omega) (.slice A0 ps.length c0) ps (⟨a, c⟩ : TPair) [.string a, .string c] (fun _ => True) (fun _ => False) (by simp [Act.eval]) (by simp [Act.eval]) (k100_mkM _ _ _ _) (fun _ h => h.elim) (fun _ _ => trivial) HI2.out.r2 (Below.refl B w2) (Nat.le_trans HN.out.2.2.2.2.2.2.2 HZ2.out) HL.out ?_; intro v_ w3 ho3_ _ hg3 _; have HS3 := Aside0.mk (HS2.out.grown hg3 (HS2.out.own_ne HI2.out.r2 (by decide))); have HB3 := Aside0.mk (pw_below_grown HB2.out _ HB2.out.size hg3 (fun k_ hk_ => Nat.le_trans HN.out.2.2.2.1 (Kd.R_base HI2.out.r2 k_ hk_))); have hP := HI2.out.put2 ho3_ hg3 HN.out.2.2.2.2.2.2.1; have hc3 := hP.2.1; have hf3 := hP.2.2; obtain ⟨A9, c9, rfl⟩ := Kd.R_slice ho3_; have hP1 := hP.1; simp only [List.length_append, List.length_cons, List.length_nil, Nat.zero_add] at hP1; have HP := Aside0.mk hP1; clear ho3_ hg3 hP hP1) | (go_simp; go_at_call 81; refine (HX2.out _ HS1.out HB1.out).mono ?_; rintro e_ w2 ⟨rfl, hs2, hb2, hk2⟩; have HS2 := Aside0.mk hs2; have HB2 := Aside0.mk hb2; have HI2 := Aside0.mk (HI1.out.stay hk2 HN.out.1 HN.out.2.2.2.2.1 HN.out.2.2.2.2.2.1); have HZ2 := Aside0.mk (show W.heap.size ≤ w2.heap.size from Nat.le_trans HZ1.out hk2.1); have hg2 : w2.cell? ⟨go, 2, none⟩ = some _ := (blk_cell HI2.out.blk 2).trans rfl; have hga2 : (w2.alloc (.cells #[.string a, .string c] 100)).cell? ⟨go, 2, none⟩ = some _ := (blk_cell (blk_alloc HI2.out.blk _) 2).trans rfl; have hcp2 : w2.cell? ⟨gp, 0, none⟩ = some _ := (blk_cell HI2.out.ptr 0).trans rfl; clear hs2 hb2 hk2))
  all_goals
    go_wp2
    go_end0
    exact ⟨rfl, ⟨_, _, _, HP.out⟩, HS3.out.far (p := ⟨go, 2, none⟩) (Ne.symm HN.out.2.2.2.2.1) _, below_set HB3.out (Nat.le_trans HN.out.2.2.2.1 HN.out.2.1)⟩

set_option maxHeartbeats 8000000 in
set_option maxRecDepth 100000 in
theorem parse_prims (k : Nat) (w0 : World) (B go gp g : Nat) (e : Int) (ns : List ByteArray) (v1 : Value) (hg : g < B) (hgo : B ≤ go) (hgp : B ≤ gp) (hw : w0.heap.size ≤ B) :
    OneStep 82 #[.pointer (some ⟨go, 0, none⟩), .pointer (some ⟨gp, 0, none⟩)] w0 g (ReplyInv B go gp g e ns v1) (primsOne k) := by
  rintro ⟨ps, qs, fs⟩ ws b x' ws' b' W ⟨v2, v3, v4, hI⟩ hS hB h
  dsimp only at hI
  obtain ⟨⟨q1, q2, q3, q4, q5, q6, ws1, b1⟩, ha, h⟩ := Option.bind_eq_some_iff.mp h
  dsimp only at ha h
  by_cases hl : (qs.length + 1) * 96 ≤ 140737488355328
  case neg => rw [if_neg hl] at h; cases h
  rw [if_pos hl] at h
  injection h with h
  simp only [Prod.mk.injEq] at h
  obtain ⟨rfl, rfl, rfl⟩ := h
  obtain ⟨A0, c0, rfl⟩ := Kd.S_slice hI.r3
  have hBW := hI.size hgo
  have HN := Aside0.mk (show g < B ∧ B ≤ go ∧ B ≤ gp ∧ w0.heap.size ≤ B ∧ go ≠ g ∧ gp ≠ g ∧ go ≠ gp ∧ B ≤ W.heap.size from ⟨hg, hgo, hgp, hw, by omega, by omega, blk_ne hI.blk hI.ptr (by decide), hBW⟩)
  have HL := Aside0.mk hl
  have HX := Aside0.mk (reply_reader_prim.calls k g ws b q1 q2 q3 q4 q5 q6 ws1 b1 w0 W.drew hS.drew (below_drew hB) ha)
  have hcp : W.drew.cell? ⟨gp, 0, none⟩ = some _ := (blk_cell (blk_drew hI.ptr) 0).trans rfl
  have hg1 : W.drew.cell? ⟨go, 3, none⟩ = some _ := (blk_cell (blk_drew hI.blk) 3).trans rfl
  have HI := Aside0.mk hI.drew
  have HOK := Aside0.mk (show ∀ k_, W.heap.size ≤ k_ → some k_ ≠ v1.ownBlock ∧ some k_ ≠ (Value.slice A0 qs.length c0).ownBlock from fun k_ hk_ => ⟨fun e_ => Nat.lt_irrefl _ (Nat.lt_of_lt_of_le (Kd.R_lt hI.r1 k_ e_.symm) hk_), fun e_ => Nat.lt_irrefl _ (Nat.lt_of_lt_of_le (Kd.S_lt hI.r3 k_ e_.symm) hk_)⟩)
  clear ha hl hI hS hB hg hgo hgp hw hBW
  show Calls Tryd.prog 82 #[.pointer (some ⟨go, 0, none⟩), .pointer (some ⟨gp, 0, none⟩)] W _
  go_enter Tryd.func82, Tryd.ntmps82
  go_wp2
  go_region_law (first | (refine Kd.S_append_step k108 (w0 := w1) B rfl (.tmp 3) (.tmp 6) 51 108 (.agg #[.int .i64 0, .string ⟨#[]⟩, .string ⟨#[]⟩, .int .i64 0, .slice none 0 0, .slice none 0 0]) 96 rfl Tryd.underlying51 infoPrim rfl (by decide) (by omega) (.slice A0 qs.length c0) qs (⟨q1, q2, q3, q4, q5, q6⟩ : TPrim) [.int .i64 q1, .string q2, .string q3, .int .i64 q4, .slice B5 q5.length d5, .slice B6 q6.length d6] (fun k_ => some k_ ≠ v1.ownBlock) (fun k_ => W.heap.size ≤ k_) (by simp [Act.eval]) (by simp [Act.eval]) HM.out HOK.out (fun k_ hk_ => (HOK.out k_ (Nat.le_trans HZ2.out hk_)).1) HO2.out (Below.refl B w1) (Nat.le_trans HN.out.2.2.2.2.2.2.2 HZ2.out) HL.out ?_; intro v_ w3 ho3_ _ hg3 _; have HS3 := Aside0.mk (HS2.out.grown hg3 (HS2.out.own_ne (Kd.S_R HI2.out.r3) (by decide))); have HB3 := Aside0.mk (pw_below_grown HB2.out _ HB2.out.size hg3 (fun k_ hk_ => Nat.le_trans HN.out.2.2.2.1 (Kd.S_base HI2.out.r3 k_ hk_))); have hP := HI2.out.put3 ho3_ hg3 HN.out.2.2.2.2.2.2.1; have hc3 := hP.2.1; have hf3 := hP.2.2; obtain ⟨A9, c9, rfl⟩ := Kd.S_slice ho3_; have hP1 := hP.1; simp only [List.length_append, List.length_cons, List.length_nil, Nat.zero_add] at hP1; have HP := Aside0.mk hP1; clear ho3_ hg3 hP hP1) | (go_simp; go_at_call 83; refine HX.out.mono ?_; rintro e_ w1 ⟨u5, u6, rfl, ho5, ho6, hs2, hb2, hk2⟩; obtain ⟨B5, d5, rfl⟩ := Kd.R_slice ho5; obtain ⟨B6, d6, rfl⟩ := Kd.R_slice ho6; have HM := Aside0.mk (k108_mkM w1 B (fun k_ => W.heap.size ≤ k_) (⟨q1, q2, q3, q4, q5, q6⟩ : TPrim) (Kd.R_lower (Kd.R_mono (Kd.R_bound ho5) (fun _ hk_ => hk_.2.1)) HN.out.2.2.2.2.2.2.2) (Kd.R_lower (Kd.R_mono (Kd.R_bound ho6) (fun _ hk_ => hk_.2.1)) HN.out.2.2.2.2.2.2.2)); clear ho5 ho6; have HS2 := Aside0.mk hs2; have HB2 := Aside0.mk hb2; have HI2 := Aside0.mk (HI.out.stay hk2 HN.out.1 HN.out.2.2.2.2.1 HN.out.2.2.2.2.2.1); have HZ2 := Aside0.mk (show W.heap.size ≤ w1.heap.size from hk2.1); have hg2 : w1.cell? ⟨go, 3, none⟩ = some _ := (blk_cell HI2.out.blk 3).trans rfl; have hga2 : (w1.alloc (.cells #[.int .i64 q1, .string q2, .string q3, .int .i64 q4, .slice B5 q5.length d5, .slice B6 q6.length d6] 108)).cell? ⟨go, 3, none⟩ = some _ := (blk_cell (blk_alloc HI2.out.blk _) 3).trans rfl; have hcp2 : w1.cell? ⟨gp, 0, none⟩ = some _ := (blk_cell HI2.out.ptr 0).trans rfl; have HO2 := Aside0.mk (Kd.S_mono (Kd.S_keep (Kd.S_bound HI.out.r3) hk2 (fun k_ hk_ => Nat.ne_of_gt (Nat.lt_of_lt_of_le HN.out.1 hk_.2.1))) (fun k_ hk_ => (⟨hk_.1, Nat.not_le.2 hk_.2.2.1⟩ : some k_ ≠ v1.ownBlock ∧ ¬ W.heap.size ≤ k_))); clear hs2 hb2 hk2))
  all_goals
    go_wp2
    go_end0
    exact ⟨rfl, ⟨_, _, _, HP.out⟩, HS3.out.far (p := ⟨go, 3, none⟩) (Ne.symm HN.out.2.2.2.2.1) _, below_set HB3.out (Nat.le_trans HN.out.2.2.2.1 HN.out.2.1)⟩

set_option maxHeartbeats 8000000 in
set_option maxRecDepth 100000 in
theorem parse_files (k : Nat) (w0 : World) (B go gp g : Nat) (e : Int) (ns : List ByteArray) (v1 : Value) (hg : g < B) (hgo : B ≤ go) (hgp : B ≤ gp) (hw : w0.heap.size ≤ B) :
    OneStep 84 #[.pointer (some ⟨go, 0, none⟩), .pointer (some ⟨gp, 0, none⟩)] w0 g (ReplyInv B go gp g e ns v1) (filesOne k) := by
  rintro ⟨ps, qs, fs⟩ ws b x' ws' b' W ⟨v2, v3, v4, hI⟩ hS hB h
  dsimp only at hI
  obtain ⟨⟨q1, q2, q3, ws1, b1⟩, ha, h⟩ := Option.bind_eq_some_iff.mp h
  dsimp only at ha h
  by_cases hl : (fs.length + 1) * 48 ≤ 140737488355328
  case neg => rw [if_neg hl] at h; cases h
  rw [if_pos hl] at h
  injection h with h
  simp only [Prod.mk.injEq] at h
  obtain ⟨rfl, rfl, rfl⟩ := h
  obtain ⟨A0, c0, rfl⟩ := Kd.S_slice hI.r4
  have hBW := hI.size hgo
  have HN := Aside0.mk (show g < B ∧ B ≤ go ∧ B ≤ gp ∧ w0.heap.size ≤ B ∧ go ≠ g ∧ gp ≠ g ∧ go ≠ gp ∧ B ≤ W.heap.size from ⟨hg, hgo, hgp, hw, by omega, by omega, blk_ne hI.blk hI.ptr (by decide), hBW⟩)
  have HL := Aside0.mk hl
  have HX := Aside0.mk (reply_reader_file.calls k g ws b q1 q2 q3 ws1 b1 w0 W.drew hS.drew (below_drew hB) ha)
  have hcp : W.drew.cell? ⟨gp, 0, none⟩ = some _ := (blk_cell (blk_drew hI.ptr) 0).trans rfl
  have hg1 : W.drew.cell? ⟨go, 4, none⟩ = some _ := (blk_cell (blk_drew hI.blk) 4).trans rfl
  have HI := Aside0.mk hI.drew
  have HOK := Aside0.mk (show ∀ k_, W.heap.size ≤ k_ → some k_ ≠ v1.ownBlock ∧ some k_ ≠ (Value.slice A0 fs.length c0).ownBlock from fun k_ hk_ => ⟨fun e_ => Nat.lt_irrefl _ (Nat.lt_of_lt_of_le (Kd.R_lt hI.r1 k_ e_.symm) hk_), fun e_ => Nat.lt_irrefl _ (Nat.lt_of_lt_of_le (Kd.S_lt hI.r4 k_ e_.symm) hk_)⟩)
  clear ha hl hI hS hB hg hgo hgp hw hBW
  show Calls Tryd.prog 84 #[.pointer (some ⟨go, 0, none⟩), .pointer (some ⟨gp, 0, none⟩)] W _
  go_enter Tryd.func84, Tryd.ntmps84
  go_wp2
  go_region_law (first | (refine Kd.S_append_step k102 (w0 := w1) B rfl (.tmp 3) (.tmp 6) 52 102 (.agg #[.string ⟨#[]⟩, .bool false, .slice none 0 0]) 48 rfl Tryd.underlying52 infoFile rfl (by decide) (by omega) (.slice A0 fs.length c0) fs (⟨q1, q2, q3⟩ : TFile) [.string q1, .bool q2, .slice B3 q3.length d3] (fun k_ => some k_ ≠ v1.ownBlock) (fun k_ => W.heap.size ≤ k_) (by simp [Act.eval]) (by simp [Act.eval]) HM.out HOK.out (fun k_ hk_ => (HOK.out k_ (Nat.le_trans HZ2.out hk_)).1) HO2.out (Below.refl B w1) (Nat.le_trans HN.out.2.2.2.2.2.2.2 HZ2.out) HL.out ?_; intro v_ w3 ho3_ _ hg3 _; have HS3 := Aside0.mk (HS2.out.grown hg3 (HS2.out.own_ne (Kd.S_R HI2.out.r4) (by decide))); have HB3 := Aside0.mk (pw_below_grown HB2.out _ HB2.out.size hg3 (fun k_ hk_ => Nat.le_trans HN.out.2.2.2.1 (Kd.S_base HI2.out.r4 k_ hk_))); have hP := HI2.out.put4 ho3_ hg3 HN.out.2.2.2.2.2.2.1; have hc3 := hP.2.1; have hf3 := hP.2.2; obtain ⟨A9, c9, rfl⟩ := Kd.S_slice ho3_; have hP1 := hP.1; simp only [List.length_append, List.length_cons, List.length_nil, Nat.zero_add] at hP1; have HP := Aside0.mk hP1; clear ho3_ hg3 hP hP1) | (go_simp; go_at_call 85; refine HX.out.mono ?_; rintro e_ w1 ⟨u3, rfl, ho3, hs2, hb2, hk2⟩; obtain ⟨B3, d3, rfl⟩ := Kd.R_slice ho3; have HM := Aside0.mk (k102_mkM w1 B (fun k_ => W.heap.size ≤ k_) (⟨q1, q2, q3⟩ : TFile) (Kd.R_lower (Kd.R_mono (Kd.R_bound ho3) (fun _ hk_ => hk_.2.1)) HN.out.2.2.2.2.2.2.2)); clear ho3; have HS2 := Aside0.mk hs2; have HB2 := Aside0.mk hb2; have HI2 := Aside0.mk (HI.out.stay hk2 HN.out.1 HN.out.2.2.2.2.1 HN.out.2.2.2.2.2.1); have HZ2 := Aside0.mk (show W.heap.size ≤ w1.heap.size from hk2.1); have hg2 : w1.cell? ⟨go, 4, none⟩ = some _ := (blk_cell HI2.out.blk 4).trans rfl; have hga2 : (w1.alloc (.cells #[.string q1, .bool q2, .slice B3 q3.length d3] 102)).cell? ⟨go, 4, none⟩ = some _ := (blk_cell (blk_alloc HI2.out.blk _) 4).trans rfl; have hcp2 : w1.cell? ⟨gp, 0, none⟩ = some _ := (blk_cell HI2.out.ptr 0).trans rfl; have HO2 := Aside0.mk (Kd.S_mono (Kd.S_keep (Kd.S_bound HI.out.r4) hk2 (fun k_ hk_ => Nat.ne_of_gt (Nat.lt_of_lt_of_le HN.out.1 hk_.2.1))) (fun k_ hk_ => (⟨hk_.1, Nat.not_le.2 hk_.2.2.1⟩ : some k_ ≠ v1.ownBlock ∧ ¬ W.heap.size ≤ k_))); clear hs2 hb2 hk2))
  all_goals
    go_wp2
    go_end0
    exact ⟨rfl, ⟨_, _, _, HP.out⟩, HS3.out.far (p := ⟨go, 4, none⟩) (Ne.symm HN.out.2.2.2.2.1) _, below_set HB3.out (Nat.le_trans HN.out.2.2.2.1 HN.out.2.1)⟩

/-! ### the function -/
/-- What holds between two steps of the reading: w1 is the world behind the cut into words. -/
structure ParseAt (w1 : World) (go : Nat) (e : Int) (ns : List ByteArray) (v1 : Value) (x : List TPair × List TPrim × List TFile) (ws : List ByteArray) (b : Bool) (W : World) : Prop where mk ::
  inv : ReplyInv (w1.heap.size + 1) go (w1.heap.size + 1) w1.heap.size e ns v1 x W
  st : IsS115 w1 W w1.heap.size ws b
  bel : Below w1.heap.size w1 W
  lt : w1.heap.size + 1 < go
theorem ParseAt.cells {w1 W : World} {go : Nat} {e : Int} {ns : List ByteArray} {v1 : Value} {x : List TPair × List TPrim × List TFile} {ws : List ByteArray} {b : Bool} (h : ParseAt w1 go e ns v1 x ws b W) : W.cell? ⟨w1.heap.size + 1, 0, none⟩ = some (.pointer (some ⟨w1.heap.size, 0, none⟩)) := by
  obtain ⟨v2, v3, v4, h2⟩ := h.inv.out
  exact (blk_cell h2.ptr 0).trans rfl
theorem parse_each {w1 W : World} {go : Nat} {e : Int} {ns : List ByteArray} {v1 : Value} {x x' : List TPair × List TPrim × List TFile} {ws ws' : List ByteArray} {b b' : Bool} (k f : Nat) (lb : Array Value) (eg : ∀ args w, (callFunc f args).run Tryd.prog w = .ok (.enter f args) w) (one : List TPair × List TPrim × List TFile → List ByteArray → Bool → Option ((List TPair × List TPrim × List TFile) × List ByteArray × Bool))
    (ho : OneStep f lb w1 w1.heap.size (ReplyInv (w1.heap.size + 1) go (w1.heap.size + 1) w1.heap.size e ns v1) one) (h : ParseAt w1 go e ns v1 x ws b W) (hq : eachF k one x ws b = some (x', ws', b')) :
    Calls Tryd.prog 79 #[.pointer (some ⟨w1.heap.size, 0, none⟩), .func (.func f) #[] lb] W fun e' w' => e' = .returned (.tuple #[]) ∧ ParseAt w1 go e ns v1 x' ws' b' w' := by
  refine (each_calls k f lb eg w1 w1.heap.size _ one ho (reply_stay _ _ _ _ _ _ _ (by omega) (by have := h.lt; omega) (by omega)) x ws b x' ws' b' W h.inv h.st h.bel hq).mono ?_
  rintro e' w' ⟨rfl, h1, h2, h3⟩
  exact ⟨rfl, h1, h2, h3, h.lt⟩

def reply_Parse.f (k : Nat) (a0 : ByteArray) : Option (Int × List ByteArray × List TPair × List TPrim × List TFile × Int) :=
  (strings_Split.f k a0 ⟨#[32]⟩).bind fun ws => (reply_reader_num.f k ws false).bind fun e => (reply_reader_list.f k e.2.1 e.2.2).bind fun l => (eachF k (pairsOne k) ([], [], []) l.2.1 l.2.2).bind fun p => (eachF k (primsOne k) p.1 p.2.1 p.2.2).bind fun q => (eachF k (filesOne k) q.1 q.2.1 q.2.2).bind fun r =>
  if r.2.2 = true ∨ r.2.1 ≠ [] then some (0, [], [], [], [], 17) else some (e.1, l.1, r.1.1, r.1.2.1, r.1.2.2, 0)
theorem reply_Parse.mono : ∀ a0 k, LeO (reply_Parse.f k a0) (reply_Parse.f (k + 1) a0) := by
  intro a0 k
  unfold reply_Parse.f
  exact LeO.bind (strings_Split.mono _ _ _) fun ws => LeO.bind (reply_reader_num.mono _ _ _) fun e => LeO.bind (reply_reader_list.mono _ _ _) fun l => LeO.bind (eachF_mono (fun _ _ _ => pairsOne_mono _ _ _ _) _ _ _ _) fun p => LeO.bind (eachF_mono (fun _ _ _ => primsOne_mono _ _ _ _) _ _ _ _) fun q => LeO.bind (eachF_mono (fun _ _ _ => filesOne_mono _ _ _ _) _ _ _ _) fun r => LeO.refl _
theorem put5 {W : World} {g t : Nat} {a b c d e c0 c1 c2 c3 c4 : Value} (h : W.heap[g]? = some (.cells #[c0, c1, c2, c3, c4] t (0, 0))) :
    (((((W.setCell ⟨g, 0, none⟩ a).setCell ⟨g, 1, none⟩ b).setCell ⟨g, 2, none⟩ c).setCell ⟨g, 3, none⟩ d).setCell ⟨g, 4, none⟩ e).heap[g]? = some (.cells #[a, b, c, d, e] t (0, 0)) := by
  refine blk_put (cs := #[a, b, c, d, c4]) ?_ 4 _ rfl
  refine blk_put (cs := #[a, b, c, c3, c4]) ?_ 3 _ rfl
  refine blk_put (cs := #[a, b, c2, c3, c4]) ?_ 2 _ rfl
  refine blk_put (cs := #[a, c1, c2, c3, c4]) ?_ 1 _ rfl
  exact blk_put h 0 _ rfl
theorem R_put5 {α : Type} {dk : Kd α} {et B : Nat} {W : World} {ok : Nat → Prop} {v : Value} {xs : List α} {g t : Nat} {a b c d e c0 c1 c2 c3 c4 : Value} (hR : dk.R et W B ok v xs) (h : W.heap[g]? = some (.cells #[c0, c1, c2, c3, c4] t (0, 0))) (ht : ∀ q, q ∈ et :: dk.E → q ≠ t) :
    dk.R et (((((W.setCell ⟨g, 0, none⟩ a).setCell ⟨g, 1, none⟩ b).setCell ⟨g, 2, none⟩ c).setCell ⟨g, 3, none⟩ d).setCell ⟨g, 4, none⟩ e) B ok v xs := by
  refine Kd.R_set (Kd.R_set (Kd.R_set (Kd.R_set (Kd.R_set hR h ht 0 _) (blk_set h 0 _) ht 1 _) (blk_set (blk_set h 0 _) 1 _) ht 2 _) (blk_set (blk_set (blk_set h 0 _) 1 _) 2 _) ht 3 _) (blk_set (blk_set (blk_set (blk_set h 0 _) 1 _) 2 _) 3 _) ht 4 _
theorem S_put5 {α : Type} {dk : Kd α} {et B : Nat} {W : World} {ok : Nat → Prop} {v : Value} {xs : List α} {g t : Nat} {a b c d e c0 c1 c2 c3 c4 : Value} (hR : dk.S et W B ok v xs) (h : W.heap[g]? = some (.cells #[c0, c1, c2, c3, c4] t (0, 0))) (ht : ∀ q, q ∈ et :: dk.E → q ≠ t) :
    dk.S et (((((W.setCell ⟨g, 0, none⟩ a).setCell ⟨g, 1, none⟩ b).setCell ⟨g, 2, none⟩ c).setCell ⟨g, 3, none⟩ d).setCell ⟨g, 4, none⟩ e) B ok v xs := by
  refine Kd.S_set (Kd.S_set (Kd.S_set (Kd.S_set (Kd.S_set hR h ht 0 _) (blk_set h 0 _) ht 1 _) (blk_set (blk_set h 0 _) 1 _) ht 2 _) (blk_set (blk_set (blk_set h 0 _) 1 _) 2 _) ht 3 _) (blk_set (blk_set (blk_set (blk_set h 0 _) 1 _) 2 _) 3 _) ht 4 _
theorem below_put5 {W0 W : World} {g : Nat} {a b c d e : Value} (h : Below W0.heap.size W0 W) (hg : W0.heap.size ≤ g) : Below W0.heap.size W0 (((((W.setCell ⟨g, 0, none⟩ a).setCell ⟨g, 1, none⟩ b).setCell ⟨g, 2, none⟩ c).setCell ⟨g, 3, none⟩ d).setCell ⟨g, 4, none⟩ e) :=
  below_set (below_set (below_set (below_set (below_set h hg) hg) hg) hg) hg
theorem two_blk (w : World) (o : Obj) (v : Value) : ((w.alloc o).alloc (.cells #[v] 113)).heap[w.heap.size + 1]? = some (.cells #[v] 113 (0, 0)) := by
  have h_ := heap_alloc_new (w.alloc o) (.cells #[v] 113)
  simpa using h_
theorem parse_first {w1 W0 W : World} {go : Nat} {e : Int} {ns : List ByteArray} {v1 : Value} {ws : List ByteArray} {b : Bool} (hR : Kd.R Kd.string 9 W W0.heap.size (fun _ => True) v1 ns) (hs : IsS115 w1 W w1.heap.size ws b) (hb : Below w1.heap.size w1 W)
    (hg : W.heap[go]? = some (.cells #[.int .i64 e, .slice none 0 0, .slice none 0 0, .slice none 0 0, .slice none 0 0] 54 (0, 0))) (hp : W.heap[w1.heap.size + 1]? = some (.cells #[.pointer (some ⟨w1.heap.size, 0, none⟩)] 113 (0, 0))) (hlt : w1.heap.size + 1 < go) (h0 : w1.heap.size + 1 ≤ W0.heap.size) :
    ParseAt w1 go e ns v1 ([], [], []) ws b (W.setCell ⟨go, 1, none⟩ v1) ∧ W.cell? ⟨go, 1, none⟩ = some (.slice none 0 0) ∧ W.frozen? ⟨go, 1, none⟩ = false := by
  refine ⟨⟨⟨_, _, _, ⟨by simpa using blk_set hg 1 v1, blk_far hp (by simp only; omega) v1, Kd.R_set (Kd.R_lower hR h0) hg (by decide) 1 v1, Kd.R_nil _ _ _ _ _, Kd.S_nil _ _ _ _ _, Kd.S_nil _ _ _ _ _⟩⟩, hs.far (p := ⟨go, 1, none⟩) (by simp only; omega) v1, below_set hb (by omega), hlt⟩, (blk_cell hg 1).trans rfl, blk_frozen hg 1⟩

set_option maxHeartbeats 1000000 in
set_option maxRecDepth 100000 in
theorem reply_Parse.calls (k : Nat) (a0 : ByteArray) (r1 : Int) (r2 : List ByteArray) (r3 : List TPair) (r4 : List TPrim) (r5 : List TFile) (r6 : Int) (w : World) (h : reply_Parse.f k a0 = some (r1, r2, r3, r4, r5, r6)) :
    Calls Tryd.prog 31 #[.string a0] w fun e w' => ∃ v1_ v2_ v3_ v4_ : Value, e = .returned (.tuple #[.agg #[.int .i64 r1, v1_, v2_, v3_, v4_], .int .i64 r6]) ∧ Kd.R Kd.string 9 w' w.heap.size (fun _ => True) v1_ r2 ∧ Kd.R k100 100 w' w.heap.size (fun _ => True) v2_ r3 ∧ Kd.S k108 108 w' w.heap.size (fun k_ => some k_ ≠ (v1_ : Value).ownBlock) v3_ r4 ∧ Kd.S k102 102 w' w.heap.size (fun k_ => some k_ ≠ (v1_ : Value).ownBlock) v4_ r5 ∧ Below w.heap.size w w' := by
  obtain ⟨ws, h1, h⟩ := Option.bind_eq_some_iff.mp h
  obtain ⟨⟨e, ws2, b2⟩, h2, h⟩ := Option.bind_eq_some_iff.mp h
  obtain ⟨⟨ns, ws3, b3⟩, h3, h⟩ := Option.bind_eq_some_iff.mp h
  obtain ⟨⟨x4, ws4, b4⟩, h4, h⟩ := Option.bind_eq_some_iff.mp h
  obtain ⟨⟨x5, ws5, b5⟩, h5, h⟩ := Option.bind_eq_some_iff.mp h
  obtain ⟨⟨x6, ws6, b6⟩, h6, h⟩ := Option.bind_eq_some_iff.mp h
  dsimp only at h2 h3 h4 h5 h6 h
  have H1 := Aside0.mk (strings_Split.calls k a0 ⟨#[32]⟩ ws (w.alloc (.cells #[.int .i64 0, .slice none 0 0, .slice none 0 0, .slice none 0 0, .slice none 0 0] 54)) h1)
  have H2 := Aside0.mk (fun (g : Nat) (w0 W : World) (hI : IsS115 w0 W g ws false) (hB : Below w0.heap.size w0 W) => reply_reader_num.calls k g ws false e ws2 b2 w0 W hI hB h2)
  have H3 := Aside0.mk (fun (g : Nat) (w0 W : World) (hI : IsS115 w0 W g ws2 b2) (hB : Below w0.heap.size w0 W) => reply_reader_list.calls k g ws2 b2 ns ws3 b3 w0 W hI hB h3)
  have H4 := Aside0.mk h4
  have H5 := Aside0.mk h5
  have H6 := Aside0.mk h6
  have HF := Aside0.mk h
  have HZ := Aside0.mk (show (w.alloc (.cells #[.int .i64 0, .slice none 0 0, .slice none 0 0, .slice none 0 0, .slice none 0 0] 54)).heap[w.heap.size]? = some (.cells #[.int .i64 0, .slice none 0 0, .slice none 0 0, .slice none 0 0, .slice none 0 0] 54 (0, 0)) from by simpa using heap_alloc_new w (.cells #[.int .i64 0, .slice none 0 0, .slice none 0 0, .slice none 0 0, .slice none 0 0] 54))
  have HW := Aside0.mk ((Below.refl w.heap.size w).alloc (Nat.le_refl _) (.cells #[.int .i64 0, .slice none 0 0, .slice none 0 0, .slice none 0 0, .slice none 0 0] 54))
  clear h1 h2 h3 h4 h5 h6 h
  go_enter Tryd.func31, Tryd.ntmps31
  go_wp2_with (first | (go_at_call 67; refine H1.out.mono ?_; rintro e_ w1 ⟨v, rfl, hR, hb⟩; have HZ1 := Aside0.mk (blk_below HZ.out hb); have HB1 := Aside0.mk (below_then HW.out HW.out.size hb); obtain ⟨A1, c1, rfl, hl1, hC1⟩ := Kd.R_reads hR; have HC1 := Aside0.mk hC1; have HL1 := Aside0.mk hl1; clear hR hb hC1 hl1) | (go_at_call 77; refine (H2.out w1.heap.size w1 _ ⟨A1, c1, blk_alloc (by simpa using heap_alloc_new w1 (.cells #[.slice A1 ws.length c1, .bool false] 115)) _, Nat.le_refl _, HL1.out, HC1.out⟩ (below_alloc (below_alloc (Below.refl _ _) _) _)).mono ?_; rintro e_ w2 ⟨rfl, hs2, hb2, hk2⟩; have HS2 := Aside0.mk hs2; have HB2 := Aside0.mk hb2; have HP2 := Aside0.mk (hk2.blk (two_blk w1 _ _) (by omega) (by simp)); have hp2 : w2.cell? ⟨w1.heap.size + 1, 0, none⟩ = some _ := (blk_cell HP2.out 0).trans rfl; have hp2a : (w2.alloc (.cells #[.int .i64 e, .slice none 0 0, .slice none 0 0, .slice none 0 0, .slice none 0 0] 54)).cell? ⟨w1.heap.size + 1, 0, none⟩ = some _ := (blk_cell (blk_alloc HP2.out _) 0).trans rfl; clear hs2 hb2 hk2) | (go_at_call 78; refine (H3.out w1.heap.size w1 _ (HS2.out.alloc _) (below_alloc HB2.out _)).mono ?_; rintro e_ w3 ⟨v1, rfl, hR1, hs3, hb3, hk3⟩; obtain ⟨A3, c3, rfl⟩ := Kd.R_slice hR1; have hgo := blk_lt HP2.out; have HA3 := Aside0.mk (parse_first hR1 hs3 hb3 (hk3.blk (by simpa using heap_alloc_new w2 (.cells #[.int .i64 e, .slice none 0 0, .slice none 0 0, .slice none 0 0, .slice none 0 0] 54)) (by omega) (by simp)) (hk3.blk (blk_alloc HP2.out _) (by omega) (by simp)) hgo (by simp; omega)); have hg3 : w3.cell? ⟨w2.heap.size, 1, none⟩ = some (.slice none 0 0) := HA3.out.2.1; have hf3 : w3.frozen? ⟨w2.heap.size, 1, none⟩ = false := HA3.out.2.2; have hp3 := HA3.out.1.cells; clear hR1 hs3 hb3 hk3 hgo))
  refine (parse_each k 80 #[.pointer (some ⟨w1.heap.size + 1, 0, none⟩), .pointer (some ⟨w2.heap.size, 0, none⟩)] (enters_of Tryd.func80 (by kernel_rfl) rfl) (pairsOne k) (parse_pairs k w1 (w1.heap.size + 1) w2.heap.size (w1.heap.size + 1) w1.heap.size e ns _ (by omega) (Nat.le_of_lt HA3.out.1.lt) (Nat.le_refl _) (by omega)) HA3.out.1 H4.out).mono ?_
  rintro e_ w4 ⟨rfl, ha_⟩
  have HA4 := Aside0.mk ha_
  clear ha_
  have hp4 := HA4.out.cells
  go_wp2_with (fail)
  refine (parse_each k 82 #[.pointer (some ⟨w2.heap.size, 0, none⟩), .pointer (some ⟨w1.heap.size + 1, 0, none⟩)] (enters_of Tryd.func82 (by kernel_rfl) rfl) (primsOne k) (parse_prims k w1 (w1.heap.size + 1) w2.heap.size (w1.heap.size + 1) w1.heap.size e ns _ (by omega) (Nat.le_of_lt HA4.out.lt) (Nat.le_refl _) (by omega)) HA4.out H5.out).mono ?_
  rintro e_ w5 ⟨rfl, ha_⟩
  have HA5 := Aside0.mk ha_
  clear ha_
  have hp5 := HA5.out.cells
  go_wp2_with (fail)
  refine (parse_each k 84 #[.pointer (some ⟨w2.heap.size, 0, none⟩), .pointer (some ⟨w1.heap.size + 1, 0, none⟩)] (enters_of Tryd.func84 (by kernel_rfl) rfl) (filesOne k) (parse_files k w1 (w1.heap.size + 1) w2.heap.size (w1.heap.size + 1) w1.heap.size e ns _ (by omega) (Nat.le_of_lt HA5.out.lt) (Nat.le_refl _) (by omega)) HA5.out H6.out).mono ?_
  rintro e_ w6 ⟨rfl, ha_⟩
  have HA6 := Aside0.mk ha_
  clear ha_
  have hp6 := HA6.out.cells
  obtain ⟨v2, v3, v4, hAt⟩ := HA6.out.inv.out
  obtain ⟨A6, c6, hg6, _, _, _⟩ := HA6.out.st
  have hd0 : w6.cell? ⟨w1.heap.size, 0, none⟩ = some (.slice A6 ws6.length c6) := (blk_cell hg6 0).trans rfl
  have hd1 : w6.cell? ⟨w1.heap.size, 1, none⟩ = some (.bool b6) := (blk_cell hg6 1).trans rfl
  have hz6 := blk_below HZ1.out HA6.out.bel
  have HZ6 := Aside0.mk hz6
  have HB6 := Aside0.mk (below_then HB1.out HB1.out.size HA6.out.bel)
  have HT := Aside0.mk hAt
  obtain ⟨B2, d2, rfl⟩ := Kd.R_slice hAt.r2
  obtain ⟨B3, d3, rfl⟩ := Kd.S_slice hAt.r3
  obtain ⟨B4, d4, rfl⟩ := Kd.S_slice hAt.r4
  obtain ⟨hx0, hx1, hx2, hx3, hx4, _⟩ := cells5 hAt.blk
  obtain ⟨hy0, hy1, hy2, hy3, hy4, hu0, hu1, hu2, hu3, hu4⟩ := cells5 hz6
  have hlt := HA6.out.lt
  have hle := HB1.out.size
  have hlz := blk_lt HZ.out
  have hlw : w.heap.size < w1.heap.size := blk_lt HZ1.out
  have hne1 : w.heap.size ≠ w2.heap.size := by omega
  have hne2 : w2.heap.size ≠ w.heap.size := Ne.symm hne1
  have HLW := Aside0.mk (show w.heap.size ≤ w1.heap.size + 1 by omega)
  clear hAt hz6 hg6 hlt hle hlz hlw HA3 HA4 HA5 HA6 H4 H5 H6 HZ HW HZ1 HB1 HS2 HB2 HP2 hp2 hp2a hp3 hp4 hp5 hg3 hf3 H1 H2 H3 HC1 HL1
  by_cases hq : b6 = true ∨ ws6 ≠ []
  · have hr : some ((0 : Int), ([] : List ByteArray), ([] : List TPair), ([] : List TPrim), ([] : List TFile), (17 : Int)) = some (r1, r2, r3, r4, r5, r6) := by
      have h := HF.out
      rw [if_pos hq] at h
      exact h
    injection hr with hr
    simp only [Prod.mk.injEq] at hr
    obtain ⟨rfl, rfl, rfl, rfl, rfl, rfl⟩ := hr
    clear HF
    cases b6 with
    | true =>
      go_wp2_with (fail)
      refine bodyPost_ret (results_ct rfl _ _ w.heap.size 54 #[.int .i64 0, .slice none 0 0, .slice none 0 0, .slice none 0 0, .slice none 0 0] (0, 0) _ rfl (put5 HZ6.out) Tryd.underlying54 rfl (by kernel_rfl)) rfl ?_
      exact ⟨_, _, _, _, rfl, Kd.R_nil _ _ _ _ _, Kd.R_nil _ _ _ _ _, Kd.S_nil _ _ _ _ _, Kd.S_nil _ _ _ _ _, below_put5 HB6.out (Nat.le_refl _)⟩
    | false =>
      cases ws6 with
      | nil => rcases hq with h_ | h_; cases h_; exact absurd rfl h_
      | cons x l =>
        clear hq
        have hpos : (0 : Int) < (l.length : Int) + 1 := by omega
        rw [List.length_cons] at hd0
        go_wp2_with (fail)
        refine bodyPost_ret (results_ct rfl _ _ w.heap.size 54 #[.int .i64 0, .slice none 0 0, .slice none 0 0, .slice none 0 0, .slice none 0 0] (0, 0) _ rfl (put5 HZ6.out) Tryd.underlying54 rfl (by kernel_rfl)) rfl ?_
        exact ⟨_, _, _, _, rfl, Kd.R_nil _ _ _ _ _, Kd.R_nil _ _ _ _ _, Kd.S_nil _ _ _ _ _, Kd.S_nil _ _ _ _ _, below_put5 HB6.out (Nat.le_refl _)⟩
  · have hr : some (e, ns, x6.1, x6.2.1, x6.2.2, (0 : Int)) = some (r1, r2, r3, r4, r5, r6) := by
      have h := HF.out
      rw [if_neg hq] at h
      exact h
    injection hr with hr
    simp only [Prod.mk.injEq] at hr
    obtain ⟨rfl, rfl, rfl, rfl, rfl, rfl⟩ := hr
    clear HF
    obtain rfl : b6 = false := by cases b6; rfl; exact absurd (.inl rfl) hq
    obtain rfl : ws6 = [] := Classical.byContradiction fun h_ => hq (.inr h_)
    clear hq
    rw [List.length_nil] at hd0
    go_wp2_with (fail)
    refine bodyPost_ret (results_ct rfl _ _ w.heap.size 54 #[.int .i64 e, .slice A3 ns.length c3, .slice B2 x6.1.length d2, .slice B3 x6.2.1.length d3, .slice B4 x6.2.2.length d4] (0, 0) _ rfl (put5 HZ6.out) Tryd.underlying54 rfl (by kernel_rfl)) rfl ?_
    exact ⟨_, _, _, _, rfl, R_put5 (Kd.R_lower HT.out.r1 HLW.out) HZ6.out (by decide), R_put5 (Kd.R_lower HT.out.r2 HLW.out) HZ6.out (by decide), S_put5 (Kd.S_lower HT.out.r3 HLW.out) HZ6.out (by decide), S_put5 (Kd.S_lower HT.out.r4 HLW.out) HZ6.out (by decide), below_put5 HB6.out (Nat.le_refl _)⟩

end Go.Proofs.YtloibeefopdhpaaDoor.G
