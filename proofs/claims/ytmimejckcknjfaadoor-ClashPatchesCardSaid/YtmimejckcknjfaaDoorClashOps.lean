/- clash.moves, shared, in, Ops: the walks. -/
import Derived.Test.YtmimejckcknjfaaDoorClashPlaces
import Derived.Test.YtmimejckcknjfaaDoorClashMeet
import Derived.Shelf.Abstract
set_option linter.unusedVariables false
set_option linter.unusedSimpArgs false
namespace Go.Proofs.YtmimejckcknjfaaDoor.G
open Go.RowKit Go.Proofs.YtmimejckcknjfaaDoorW.PrintWords Go.Proofs.YtmimejckcknjfaaDoorW.PrintLast Go.Proofs.YtmimejckcknjfaaDoorW.PrintMore Go.Proofs.YtmimejckcknjfaaDoor.Plain

def movesC (x : S27) : Bool := x.f0 == 3 || x.f0 == 4
set_option maxHeartbeats 4000000 in
set_option maxRecDepth 100000 in
theorem clash_moves_x (x : S27) (A : Option Addr) (c : Nat) (B : Option Addr) (d : Nat) (w : World) :
    Calls Tryd.prog 23 #[opV x A c B d] w fun e w' => e = .returned (.bool (movesC x)) ∧ Below w.heap.size w w' := by
  have HB := Aside0.mk (below_alloc (Below.refl w.heap.size w) (.cells (opCs x A c B d) 27))
  unfold movesC
  cases h1 : x.f0 == 3
  all_goals
    cases h2 : x.f0 == 4
    all_goals
      go_enter Tryd.func23, Tryd.ntmps23
      go_wp2
      go_ret
      exact ⟨rfl, HB.out⟩

/-! ### shared -/
def sharedC (l m : List S35) : Bool := l.any fun p => m.any (sameP p)
set_option maxHeartbeats 2000000 in
theorem pred_shared (A : Option Addr) (c : Nat) (l : List S35) (g : Nat) (w : World) (hk : w.heap[g]? = some (.cells #[.slice A l.length c] 31 (0, 0))) (hr : Kd.C k35 w A l.length l) :
    PredP 37 #[.pointer (some ⟨g, 0, none⟩)] (fun x => l.any (sameP x)) w := by
  intro W x hb
  have hk' := blk_below hk hb
  have hltW : g < W.heap.size := blk_lt hk'
  have hne : g ≠ W.heap.size := by omega
  have hd0 : W.cell? ⟨g, 0, none⟩ = some (.slice A l.length c) := (blk_cell hk' 0).trans rfl
  have HB0 := Aside0.mk ((Below.refl W.heap.size W).alloc (Nat.le_refl _) (.cells #[.string x.f0, .string x.f1] 35))
  have H := Aside0.mk (fun W hW => contains_P A c l x W hW)
  have HR := Aside0.mk (Kd.C_below hr hb)
  clear hk hr hb hk'
  show Calls Tryd.prog 37 #[.agg #[.string x.f0, .string x.f1], .pointer (some ⟨g, 0, none⟩)] W fun e w' => e = .returned (.bool (l.any (sameP x))) ∧ Below W.heap.size W w'
  generalize l.any (sameP x) = r at *
  go_enter Tryd.func37, Tryd.ntmps37
  go_wp2_with (fail)
  refine (H.out _ (Kd.C_alloc HR.out _)).mono ?_
  rintro e w' ⟨rfl, hb⟩
  have HB := Aside0.mk (below_then HB0.out HB0.out.size hb)
  clear hb H HB0
  go_wp2
  go_ret
  exact ⟨rfl, HB.out⟩
set_option maxHeartbeats 4000000 in
set_option maxRecDepth 100000 in
theorem clash_shared.calls (k : Nat) (x : S27) (A : Option Addr) (c : Nat) (B : Option Addr) (d : Nat) (y : S27) (A2 : Option Addr) (c2 : Nat) (B2 : Option Addr) (d2 : Nat) (l m : List S35) (w : World) (hl : clash_Places.f k x = some l) (hm : clash_Places.f k y = some m) :
    Calls Tryd.prog 22 #[opV x A c B d, opV y A2 c2 B2 d2] w fun e w' => e = .returned (.bool (sharedC l m)) ∧ Below w.heap.size w w' := by
  have HL := Aside0.mk (fun W => clash_Places.calls k x A c B d l W hl)
  have HM := Aside0.mk (fun W => clash_Places.calls k y A2 c2 B2 d2 m W hm)
  clear hl hm
  go_enter Tryd.func22, Tryd.ntmps22
  go_upto_region 1 with (fail)
  obtain ⟨W, hW⟩ : ∃ W, W = (w.alloc (.cells (opCs x A c B d) 27)).alloc (.cells (opCs y A2 c2 B2 d2) 27) := ⟨_, rfl⟩
  have HX : Aside0 (W.heap[w.heap.size]? = some (.cells (opCs x A c B d) 27 (0, 0))) := ⟨by rw [hW]; exact blk_alloc (heap_alloc_new w _) _⟩
  have HY : Aside0 (W.heap[w.heap.size + 1]? = some (.cells (opCs y A2 c2 B2 d2) 27 (0, 0))) := ⟨by rw [hW]; simpa using heap_alloc_new (w.alloc (.cells (opCs x A c B d) 27)) (.cells (opCs y A2 c2 B2 d2) 27)⟩
  have HB : Aside0 (Below w.heap.size w W) := ⟨by rw [hW]; exact below_alloc (below_alloc (Below.refl _ _) _) _⟩
  rw [← hW]
  clear hW
  obtain ⟨x0, x1, x2, x3, x4, x5, x6, x7, x8, x9, x10, x11, x12, x13, x14, x15⟩ := op_cells HX.out
  obtain ⟨y0, y1, y2, y3, y4, y5, y6, y7, y8, y9, y10, y11, y12, y13, y14, y15⟩ := op_cells HY.out
  go_wp2_with (fail)
  refine (HM.out W).mono ?_
  rintro e_ w1 ⟨v, rfl, hR, hb⟩
  obtain ⟨Al, cl, rfl⟩ := Kd.R_slice hR
  have HX1 := Aside0.mk (blk_below HX.out hb)
  have HB1 := Aside0.mk (below_then HB.out HB.out.size hb)
  have HC1 := Aside0.mk (Kd.R_reads' hR).2.2
  clear hb hR HX HY HB HM x0 x1 x2 x3 x4 x5 x6 x7 x8 x9 x10 x11 x12 x13 x14 x15 y0 y1 y2 y3 y4 y5 y6 y7 y8 y9 y10 y11 y12 y13 y14 y15
  have HK1 : Aside0 ((w1.alloc (.cells #[.slice Al m.length cl] 31)).heap[w1.heap.size]? = some (.cells #[.slice Al m.length cl] 31 (0, 0))) := ⟨by simpa using heap_alloc_new w1 _⟩
  have HC2 := Aside0.mk (Kd.C_alloc HC1.out (.cells #[.slice Al m.length cl] 31))
  have HB4 := Aside0.mk (below_alloc HB1.out (.cells #[.slice Al m.length cl] 31))
  obtain ⟨x0, x1, x2, x3, x4, x5, x6, x7, x8, x9, x10, x11, x12, x13, x14, x15⟩ := op_cells (blk_alloc HX1.out (.cells #[.slice Al m.length cl] 31))
  go_wp2_with (fail)
  refine (HL.out _).mono ?_
  rintro e_ w2 ⟨v, rfl, hR, hb⟩
  obtain ⟨Ax, cx, rfl⟩ := Kd.R_slice hR
  have HB2 := Aside0.mk (below_then HB4.out HB4.out.size hb)
  have HP := Aside0.mk (pred_shared Al cl m w1.heap.size w2 (blk_below HK1.out hb) (Kd.C_below HC2.out hb))
  have HC3 := Aside0.mk (Kd.R_reads' hR).2.2
  clear hb hR HX1 HK1 HC1 HC2 HB1 HB4 HL x0 x1 x2 x3 x4 x5 x6 x7 x8 x9 x10 x11 x12 x13 x14 x15
  go_wp2_with (fail)
  refine (containsFunc_P 37 #[.pointer (some ⟨w1.heap.size, 0, none⟩)] (fun x => m.any (sameP x)) (by intro args w; go_simp) Ax cx l w2 HC3.out HP.out).mono ?_
  rintro e_ w3 ⟨rfl, hb⟩
  have HB3 := Aside0.mk (below_then HB2.out HB2.out.size hb)
  clear hb HP HC3
  go_wp2
  go_ret
  exact ⟨rfl, HB3.out⟩

/-! ### in -/
def inC (t : ByteArray) (l : List S35) : Bool := l.any fun p => p.f0.toList == t.toList
set_option maxHeartbeats 2000000 in
theorem pred_in (t : ByteArray) (g : Nat) (w : World) (hk : w.heap[g]? = some (.cells #[.string t] 9 (0, 0))) :
    PredP 39 #[.pointer (some ⟨g, 0, none⟩)] (fun x => x.f0.toList == t.toList) w := by
  intro W x hb
  have hk' := blk_below hk hb
  have hltW : g < W.heap.size := blk_lt hk'
  have hne : g ≠ W.heap.size := by omega
  have hd0 : W.cell? ⟨g, 0, none⟩ = some (.string t) := (blk_cell hk' 0).trans rfl
  have HB0 := Aside0.mk ((Below.refl W.heap.size W).alloc (Nat.le_refl _) (.cells #[.string x.f0, .string x.f1] 35))
  clear hk hb hk'
  show Calls Tryd.prog 39 #[.agg #[.string x.f0, .string x.f1], .pointer (some ⟨g, 0, none⟩)] W fun e w' => e = .returned (.bool (x.f0.toList == t.toList)) ∧ Below W.heap.size W w'
  go_enter Tryd.func39, Tryd.ntmps39
  go_wp2_with (fail)
  repeat (go_quiet (fail); try go_wp2)
  go_ret
  exact ⟨rfl, HB0.out⟩
set_option maxHeartbeats 4000000 in
set_option maxRecDepth 100000 in
theorem clash_in.calls (k : Nat) (x : S27) (A : Option Addr) (c : Nat) (B : Option Addr) (d : Nat) (y : S27) (A2 : Option Addr) (c2 : Nat) (B2 : Option Addr) (d2 : Nat) (t : ByteArray) (m : List S35) (w : World) (ht : ident_Text.f k x.f1.f0 x.f1.f1 = some t) (hm : clash_Places.f k y = some m) :
    Calls Tryd.prog 24 #[opV x A c B d, opV y A2 c2 B2 d2] w fun e w' => e = .returned (.bool (x.f0 == 3 && inC t m)) ∧ Below w.heap.size w w' := by
  have HT := Aside0.mk (fun W => ident_Text.calls k x.f1.f0 x.f1.f1 t W ht)
  have HM := Aside0.mk (fun W => clash_Places.calls k y A2 c2 B2 d2 m W hm)
  clear ht hm
  go_enter Tryd.func24, Tryd.ntmps24
  go_upto_region 1 with (fail)
  obtain ⟨W, hW⟩ : ∃ W, W = (w.alloc (.cells (opCs x A c B d) 27)).alloc (.cells (opCs y A2 c2 B2 d2) 27) := ⟨_, rfl⟩
  have HX : Aside0 (W.heap[w.heap.size]? = some (.cells (opCs x A c B d) 27 (0, 0))) := ⟨by rw [hW]; exact blk_alloc (heap_alloc_new w _) _⟩
  have HY : Aside0 (W.heap[w.heap.size + 1]? = some (.cells (opCs y A2 c2 B2 d2) 27 (0, 0))) := ⟨by rw [hW]; simpa using heap_alloc_new (w.alloc (.cells (opCs x A c B d) 27)) (.cells (opCs y A2 c2 B2 d2) 27)⟩
  have HB : Aside0 (Below w.heap.size w W) := ⟨by rw [hW]; exact below_alloc (below_alloc (Below.refl _ _) _) _⟩
  rw [← hW]
  clear hW
  obtain ⟨x0, x1, x2, x3, x4, x5, x6, x7, x8, x9, x10, x11, x12, x13, x14, x15⟩ := op_cells HX.out
  go_wp2_with (fail)
  refine (HT.out W).mono ?_
  rintro e_ w1 ⟨rfl, hb⟩
  have HB1 := Aside0.mk (below_then HB.out HB.out.size hb)
  have HX1 := Aside0.mk (blk_alloc (blk_below HX.out hb) (.cells #[.string t] 9))
  have HY1 := Aside0.mk (blk_alloc (blk_below HY.out hb) (.cells #[.string t] 9))
  have HK1 : Aside0 ((w1.alloc (.cells #[.string t] 9)).heap[w1.heap.size]? = some (.cells #[.string t] 9 (0, 0))) := ⟨by simpa using heap_alloc_new w1 _⟩
  have HB4 := Aside0.mk (below_alloc HB1.out (.cells #[.string t] 9))
  clear hb HX HY HB HT HB1 x0 x1 x2 x3 x4 x5 x6 x7 x8 x9 x10 x11 x12 x13 x14 x15
  obtain ⟨x0, x1, x2, x3, x4, x5, x6, x7, x8, x9, x10, x11, x12, x13, x14, x15⟩ := op_cells HX1.out
  obtain ⟨y0, y1, y2, y3, y4, y5, y6, y7, y8, y9, y10, y11, y12, y13, y14, y15⟩ := op_cells HY1.out
  cases b1 : x.f0 == 3
  case false =>
    go_wp2_with (fail)
    go_ret
    exact ⟨by rw [b1]; rfl, HB4.out⟩
  go_wp2_with (fail)
  refine (HM.out _).mono ?_
  rintro e_ w2 ⟨v, rfl, hR, hb⟩
  obtain ⟨Ax, cx, rfl⟩ := Kd.R_slice hR
  have HB2 := Aside0.mk (below_then HB4.out HB4.out.size hb)
  have HP := Aside0.mk (pred_in t w1.heap.size w2 (blk_below HK1.out hb))
  have HC3 := Aside0.mk (Kd.R_reads' hR).2.2
  clear hb hR HX1 HY1 HK1 HB4 HM x0 x1 x2 x3 x4 x5 x6 x7 x8 x9 x10 x11 x12 x13 x14 x15 y0 y1 y2 y3 y4 y5 y6 y7 y8 y9 y10 y11 y12 y13 y14 y15
  go_wp2_with (fail)
  refine (containsFunc_P 39 #[.pointer (some ⟨w1.heap.size, 0, none⟩)] (fun p => p.f0.toList == t.toList) (by intro args w; go_simp) Ax cx m w2 HC3.out HP.out).mono ?_
  rintro e_ w3 ⟨rfl, hb⟩
  have HB3 := Aside0.mk (below_then HB2.out HB2.out.size hb)
  clear hb HP HC3
  go_wp2
  go_ret
  exact ⟨by rw [b1]; rfl, HB3.out⟩
end Go.Proofs.YtmimejckcknjfaaDoor.G
