/- reply's reader: what is done for each, over any closure that reads on; a list of texts. -/
import Derived.Test.YtloibeefopdhpaaDoorG12
import Derived.Deep.RegionLaw
import Derived.Outline
import Derived.Shelf.Abstract
set_option linter.unusedVariables false
namespace Go.Proofs.YtloibeefopdhpaaDoor.G
open Go.RowKit Go.Proofs.YtloibeefopdhpaaDoorW.PrintWords Go.Proofs.YtloibeefopdhpaaDoorW.PrintLast Go.Proofs.YtloibeefopdhpaaDoorW.PrintMore Go.Proofs.YtloibeefopdhpaaDoor.Plain

/-- What is asked of a closure that reads on: from what was made and the reader's state to the next ones. -/
def OneStep {α : Type} (f : Nat) (lb : Array Value) (w0 : World) (g : Nat) (Inv : α → World → Prop) (one : α → List ByteArray → Bool → Option (α × List ByteArray × Bool)) : Prop :=
  ∀ (x : α) (ws : List ByteArray) (b : Bool) (x' : α) (ws' : List ByteArray) (b' : Bool) (W : World), Inv x W → IsS115 w0 W g ws b → Below w0.heap.size w0 W → one x ws b = some (x', ws', b') →
    Calls Tryd.prog f lb W fun e w' => e = .returned (.tuple #[]) ∧ Inv x' w' ∧ IsS115 w0 w' g ws' b' ∧ Below w0.heap.size w0 w'
/-- What was made stays, whatever is done to the reader's block alone. -/
def StayBut {α : Type} (g : Nat) (Inv : α → World → Prop) : Prop := ∀ (x : α) (W W' : World), Inv x W → KeepBut W W' g none → Inv x W'
def eachL {α : Type} (one : α → List ByteArray → Bool → Option (α × List ByteArray × Bool)) : Nat → α → List ByteArray → Bool → Option (α × List ByteArray × Bool)
  | 0, x, ws, b => some (x, ws, b)
  | n + 1, x, ws, b => if b = true then some (x, ws, b) else (one x ws b).bind fun q => eachL one n q.1 q.2.1 q.2.2
def eachF {α : Type} (k : Nat) (one : α → List ByteArray → Bool → Option (α × List ByteArray × Bool)) (x : α) (ws : List ByteArray) (b : Bool) : Option (α × List ByteArray × Bool) :=
  (reply_reader_num.f k ws b).bind fun q => eachL one q.1.toNat x q.2.1 (q.2.2 || decide (q.1 < 0) || decide ((q.2.1.length : Int) < q.1))
theorem eachL_mono {α : Type} {one one' : α → List ByteArray → Bool → Option (α × List ByteArray × Bool)} (h : ∀ x ws b, LeO (one x ws b) (one' x ws b)) : ∀ n x ws b, LeO (eachL one n x ws b) (eachL one' n x ws b)
  | 0, _, _, _ => LeO.refl _
  | n + 1, x, ws, b => by
    unfold eachL
    exact LeO.ite (LeO.refl _) (LeO.bind (h x ws b) fun q => eachL_mono h n _ _ _)
theorem eachF_mono {α : Type} {one one' : α → List ByteArray → Bool → Option (α × List ByteArray × Bool)} (h : ∀ x ws b, LeO (one x ws b) (one' x ws b)) (k : Nat) (x : α) (ws : List ByteArray) (b : Bool) : LeO (eachF k one x ws b) (eachF (k + 1) one' x ws b) := by
  unfold eachF
  exact LeO.bind (reply_reader_num.mono _ _ _) fun q => eachL_mono h _ _ _ _

/-- The loop's state. -/
structure EachAt {α : Type} (w0 : World) (g : Nat) (Inv : α → World → Prop) (x : α) (ws : List ByteArray) (b : Bool) (W : World) : Prop where mk ::
  inv : Inv x W
  st : IsS115 w0 W g ws b
  bel : Below w0.heap.size w0 W
theorem EachAt.put {α : Type} {w0 : World} {g : Nat} {Inv : α → World → Prop} {x : α} {ws : List ByteArray} {b : Bool} {W : World} (h : EachAt w0 g Inv x ws b W) (hs : StayBut g Inv) (b2 : Bool) : EachAt w0 g Inv x ws b2 (W.setCell ⟨g, 1, none⟩ (.bool b2)) :=
  ⟨hs x _ _ h.inv ((KeepBut.refl _ g none).set_ 1 _), h.st.set_1 b2, below_set h.bel h.st.ge⟩

set_option maxHeartbeats 4000000 in
set_option maxRecDepth 100000 in
theorem each_calls {α : Type} (k f : Nat) (lb : Array Value) (eg : ∀ args w, (callFunc f args).run Tryd.prog w = .ok (.enter f args) w) (w0 : World) (g : Nat) (Inv : α → World → Prop) (one : α → List ByteArray → Bool → Option (α × List ByteArray × Bool))
    (ho : OneStep f lb w0 g Inv one) (hs : StayBut g Inv) (x : α) (ws : List ByteArray) (b : Bool) (x' : α) (ws' : List ByteArray) (b' : Bool) (w : World) (hI : Inv x w) (hS : IsS115 w0 w g ws b) (hB : Below w0.heap.size w0 w) (h : eachF k one x ws b = some (x', ws', b')) :
    Calls Tryd.prog 79 #[.pointer (some ⟨g, 0, none⟩), .func (.func f) #[] lb] w fun e w' => e = .returned (.tuple #[]) ∧ Inv x' w' ∧ IsS115 w0 w' g ws' b' ∧ Below w0.heap.size w0 w' := by
  have HO := Aside0.mk ho
  have HS := Aside0.mk hs
  obtain ⟨⟨n, ws1, b1⟩, hn, h⟩ := Option.bind_eq_some_iff.mp h
  dsimp only at h
  obtain ⟨b2, hb2⟩ : ∃ b2, b2 = (b1 || decide (n < 0) || decide ((ws1.length : Int) < n)) := ⟨_, rfl⟩
  rw [← hb2] at h
  have HE := Aside0.mk h
  have HN := Aside0.mk (fun W => reply_reader_num.calls k g ws b n ws1 b1 w0 W)
  have HN1 := Aside0.mk hn
  have HA := Aside0.mk (EachAt.mk hI hS hB)
  clear ho hs h hn hI hS hB
  have hcase : (b1 = true ∧ b2 = true) ∨ (b1 = false ∧ decide (n < 0) = true ∧ b2 = true) ∨ (b1 = false ∧ decide (n < 0) = false ∧ decide ((ws1.length : Int) < n) = true ∧ b2 = true) ∨ (b1 = false ∧ decide (n < 0) = false ∧ decide ((ws1.length : Int) < n) = false ∧ b2 = false) := by
    rw [hb2]
    cases b1
    · cases c1 : decide (n < 0)
      · cases c2 : decide ((ws1.length : Int) < n)
        · exact .inr (.inr (.inr ⟨rfl, rfl, rfl, rfl⟩))
        · exact .inr (.inr (.inl ⟨rfl, rfl, rfl, rfl⟩))
      · exact .inr (.inl ⟨rfl, rfl, rfl⟩)
    · exact .inl ⟨rfl, rfl⟩
  clear hb2
  rcases hcase with ⟨rfl, rfl⟩ | ⟨rfl, c1, rfl⟩ | ⟨rfl, c1, c2, rfl⟩ | ⟨rfl, c1, c2, rfl⟩
  all_goals
    go_enter Tryd.func79, Tryd.ntmps79
    go_wp2_with (go_at_call 77; refine (HN.out _ HA.out.st HA.out.bel HN1.out).mono ?_; rintro e w1 ⟨rfl, hs1, hb1, hk1⟩; have HA1 := Aside0.mk (EachAt.mk (HS.out _ _ _ HA.out.inv hk1) hs1 hb1); obtain ⟨A1, c1_, hg1, _, hr1⟩ := hs1; have HM := Aside0.mk (Kd.C_max hr1.2); clear hr1; have hd0 := (blk_cell hg1 0).trans rfl; have hd1 := (blk_cell hg1 1).trans rfl; have hf1 := blk_frozen hg1 1; clear hb1 hk1 hg1)
    have HA2 := HA1.out.put HS.out
    have HN3 : Aside0 ((true = true) ∨ n ≤ 9223372036854775807) := ⟨.inl rfl⟩
    try (have h2 := of_decide_eq_false c2; replace HN3 : Aside0 ((false = true) ∨ n ≤ 9223372036854775807) := ⟨.inr (by have := HM.out; omega)⟩; clear h2)
    try clear c1
    try clear c2
    clear HN HN1 HA HA1 hd0 hd1 hf1
    go_loopg [5] n.toNat (fun gk v5 w' => ∃ (i : Nat) (y : α) (vs : List ByteArray) (c : Bool), v5 = .int .i64 i ∧ Aside0 (i + gk = n.toNat) ∧ Aside0 (EachAt w0 g Inv y vs c w') ∧ Aside0 (c = true ∨ n ≤ 9223372036854775807) ∧ Aside0 (eachL one (n.toNat - i) y vs c = some (x', ws', b')))
    case atStart => exact ⟨0, x, ws1, _, rfl, ⟨by omega⟩, ⟨HA2 _⟩, HN3, HE⟩
    case round =>
      clear HA2 HE HN3 HM
      obtain ⟨i, y, vs, c, rfl, HI, HA, HN3, HE⟩ := hrel
      obtain ⟨A1, c1_, hg1, hge1, _⟩ := HA.out.st
      have hd1 := (blk_cell hg1 1).trans rfl
      clear hg1
      by_cases hi : (i : Int) < n
      · cases c with
        | true =>
          obtain ⟨rfl, rfl, rfl⟩ : y = x' ∧ vs = ws' ∧ true = b' := by
            have h := HE.out
            obtain ⟨m, hm⟩ : ∃ m, n.toNat - i = m + 1 := ⟨n.toNat - i - 1, by omega⟩
            rw [hm, eachL, if_pos rfl] at h
            simpa using h
          go_wp2
          go_end0
          exact ⟨rfl, HA.out.inv, HA.out.st, HA.out.bel⟩
        | false =>
          obtain ⟨m, hm⟩ : ∃ m, n.toNat - i = m + 1 := ⟨n.toNat - i - 1, by omega⟩
          obtain ⟨⟨y2, vs2, c2⟩, hq, h2⟩ : ∃ q, one y vs false = some q ∧ eachL one m q.1 q.2.1 q.2.2 = some (x', ws', b') := by
            have h := HE.out
            rw [hm, eachL, if_neg (by decide)] at h
            exact Option.bind_eq_some_iff.mp h
          have hm2 : n.toNat - (i + 1) = m := by omega
          rw [← hm2] at h2
          have HE2 := Aside0.mk h2
          have HQ := Aside0.mk (HO.out y vs false y2 vs2 c2 wr HA.out.inv HA.out.st HA.out.bel hq)
          have hi1 : (i : Int) + 1 ≤ 9223372036854775807 := by
            rcases HN3.out with h_ | h_
            · cases h_
            · omega
          clear hq h2 hm hm2 HE
          go_wp2
          refine HQ.out.mono ?_
          rintro e w2 ⟨rfl, hi2, hs2, hb2⟩
          have HA3 := Aside0.mk (EachAt.mk hi2 hs2 hb2)
          clear hi2 hs2 hb2
          go_wp2
          go_roundg (gk - 1)
          case measure => have := HI.out; omega
          case rel => exact ⟨i + 1, y2, vs2, c2, by go_num, ⟨by have := HI.out; omega⟩, HA3, ⟨.inr (by rcases HN3.out with h_ | h_; cases h_; exact h_)⟩, HE2⟩
      · obtain ⟨rfl, rfl, rfl⟩ : y = x' ∧ vs = ws' ∧ c = b' := by
          have h := HE.out
          rw [show n.toNat - i = 0 by omega, eachL] at h
          simpa using h
        go_wp2
        go_end0
        exact ⟨rfl, HA.out.inv, HA.out.st, HA.out.bel⟩

/-! ### a list of texts -/
theorem keep_new {w W : World} {g go j : Nat} {v : Value} (h : KeepBut w W g none) (hg : w.heap.size ≤ go) : KeepBut w (W.setCell ⟨go, j, none⟩ v) g none :=
  ⟨by simpa [World.setCell] using h.1, fun i hi hne hr => (Below.heap_setCell W ⟨go, j, none⟩ v i (by simp only; omega)).trans (h.2 i hi hne hr)⟩
structure ListInv (w : World) (go gp g : Nat) (xs : List ByteArray) (W : World) : Prop where mk ::
  out : ∃ v, W.heap[go]? = some (.cells #[v] 28 (0, 0)) ∧ Kd.R Kd.string 9 W w.heap.size (fun _ => True) v xs
  ptr : W.heap[gp]? = some (.cells #[.pointer (some ⟨g, 0, none⟩)] 113 (0, 0))
  keep : KeepBut w W g none
theorem R_stay {α : Type} {d : Kd α} {e : Nat} {w W W' : World} {g : Nat} {v : Value} {xs : List α} (h : d.R e W w.heap.size (fun _ => True) v xs) (hk : KeepBut W W' g none) (hg : g < w.heap.size) : d.R e W' w.heap.size (fun _ => True) v xs :=
  Kd.R_mono (Kd.R_keep (Kd.R_bound h) hk (fun k hk => by have := hk.2.1; omega)) (fun _ _ => trivial)
theorem list_stay (w : World) (go gp g : Nat) (hg : g < w.heap.size) (hgo : w.heap.size ≤ go) (hgp : w.heap.size ≤ gp) : StayBut g (ListInv w go gp g) := by
  rintro x W W' ⟨⟨v, hb, hR⟩, hp, hk⟩ h
  exact ⟨⟨v, h.blk hb (by omega) (by simp), R_stay hR h hg⟩, h.blk hp (by omega) (by simp), hk.trans h (.inl rfl)⟩
def listOne (k : Nat) (xs : List ByteArray) (ws : List ByteArray) (b : Bool) : Option (List ByteArray × List ByteArray × Bool) :=
  (reply_reader_text.f k ws b).bind fun q => if (xs.length + 1) * 16 ≤ 140737488355328 then some (xs ++ [q.1], q.2.1, q.2.2) else none
theorem listOne_mono (k : Nat) (xs ws : List ByteArray) (b : Bool) : LeO (listOne k xs ws b) (listOne (k + 1) xs ws b) := by
  unfold listOne
  exact LeO.bind (reply_reader_text.mono _ _ _) fun q => LeO.refl _

set_option maxHeartbeats 4000000 in
set_option maxRecDepth 100000 in
theorem list_add (k : Nat) (w w0 : World) (go gp g : Nat) (hg : g < w.heap.size) (hgo : w.heap.size ≤ go) (hgp : w.heap.size ≤ gp) (hw : w0.heap.size ≤ w.heap.size) :
    OneStep 119 #[.pointer (some ⟨go, 0, none⟩), .pointer (some ⟨gp, 0, none⟩)] w0 g (ListInv w go gp g) (listOne k) := by
  intro xs ws b x' ws' b' W hI hS hB h
  obtain ⟨⟨s, ws1, b1⟩, hs, h⟩ := Option.bind_eq_some_iff.mp h
  dsimp only at h
  by_cases hl : (xs.length + 1) * 16 ≤ 140737488355328
  case neg => rw [if_neg hl] at h; cases h
  rw [if_pos hl] at h
  injection h with h
  simp only [Prod.mk.injEq] at h
  obtain ⟨rfl, rfl, rfl⟩ := h
  obtain ⟨⟨v, hb, hR⟩, hp, hk⟩ := hI
  obtain ⟨A6, c6, rfl⟩ := Kd.R_slice hR
  have hc : W.cell? ⟨go, 0, none⟩ = some _ := (blk_cell hb 0).trans rfl
  have hf := blk_frozen hb 0
  have hcp : W.cell? ⟨gp, 0, none⟩ = some _ := (blk_cell hp 0).trans rfl
  have HC := Aside0.mk (reply_reader_text.calls k g ws b s ws1 b1 w0 W.drew hS.drew (below_drew hB) hs)
  have HK := Aside0.mk (show KeepBut w W.drew g none from hk)
  have HL := Aside0.mk hl
  have HR := Aside0.mk (Kd.R_drew hR)
  have HG := Aside0.mk (blk_drew hb)
  have HP := Aside0.mk (blk_drew hp)
  have hne1 : go ≠ g := by omega
  have hne2 : gp ≠ g := by omega
  have hne3 : go ≠ gp := blk_ne hb hp (by decide)
  have HN := Aside0.mk (show g < w.heap.size ∧ w.heap.size ≤ go ∧ w.heap.size ≤ gp ∧ w0.heap.size ≤ w.heap.size ∧ go ≠ g ∧ gp ≠ g ∧ go ≠ gp from ⟨hg, hgo, hgp, hw, hne1, hne2, hne3⟩)
  clear hs hl hb hR hp hk hS hB hg hgo hgp hw hne1 hne2 hne3
  show Calls Tryd.prog 119 #[.pointer (some ⟨go, 0, none⟩), .pointer (some ⟨gp, 0, none⟩)] W _
  go_enter Tryd.func119, Tryd.ntmps119
  go_wp2
  go_region_law (first | (refine Kd.R_append_step Kd.string (w0 := w1) w.heap.size rfl (.tmp 2) (.tmp 5) 28 9 (.string ⟨#[]⟩) 16 rfl Tryd.underlying28 info9 rfl (by decide) (by omega) (.slice A6 xs.length c6) xs s [.string s] (fun _ => True) (fun _ => False) (by simp [Act.eval]) (by simp [Act.eval]) rfl (fun _ h => h.elim) (fun _ _ => trivial) HR1.out (Below.refl w.heap.size w1) HK1.out.1 HL.out ?_; intro v2 w2 ho _ hg2 _; have HR2 := Aside0.mk ho; have HS2 := Aside0.mk (HS1.out.grown hg2 (HS1.out.own_ne HR1.out (by decide))); have HG2 := Aside0.mk (blk_grown HG1.out hg2 (Kd.R_ne HR1.out HG1.out (by decide))); have HP2 := Aside0.mk (blk_grown HP1.out hg2 (Kd.R_ne HR1.out HP1.out (by decide))); have HK2 := Aside0.mk (HK1.out.trans (KeepBut.of_grown hg2 g) (Kd.R_base2 HR1.out)); have HB2 := Aside0.mk (pw_below_grown HB1.out _ HB1.out.size hg2 (fun k_ hk_ => Nat.le_trans HN.out.2.2.2.1 (Kd.R_base HR1.out k_ hk_))); obtain ⟨A7, c7, rfl⟩ := Kd.R_slice ho; have hc2 : w2.cell? ⟨go, 0, none⟩ = some _ := (blk_cell HG2.out 0).trans rfl; have hf2 := blk_frozen HG2.out 0; clear ho hg2) | (go_simp; go_at_call 81; refine HC.out.mono ?_; rintro e w1 ⟨rfl, hs1, hb1, hk1⟩; have HS1 := Aside0.mk hs1; have HB1 := Aside0.mk hb1; have HK1 := Aside0.mk (HK.out.trans hk1 (.inl rfl)); have HR1 := Aside0.mk (R_stay HR.out hk1 HN.out.1); have HG1 := Aside0.mk (hk1.blk HG.out HN.out.2.2.2.2.1 (by simp)); have HP1 := Aside0.mk (hk1.blk HP.out HN.out.2.2.2.2.2.1 (by simp)); have hc1 : w1.cell? ⟨go, 0, none⟩ = some _ := (blk_cell HG1.out 0).trans rfl; have hf1 := blk_frozen HG1.out 0; have hca1 : (w1.alloc (.cells #[.string s] 9)).cell? ⟨go, 0, none⟩ = some _ := (blk_cell (blk_alloc HG1.out _) 0).trans rfl; have hcp1 : w1.cell? ⟨gp, 0, none⟩ = some _ := (blk_cell HP1.out 0).trans rfl; clear hs1 hb1 hk1))
  all_goals
    go_wp2
    go_end0
    exact ⟨rfl, ⟨⟨_, by simpa using blk_set HG2.out 0 _, Kd.R_set HR2.out HG2.out (by decide) 0 _⟩, blk_far HP2.out (Ne.symm HN.out.2.2.2.2.2.2) _, keep_new HK2.out HN.out.2.1⟩, HS2.out.far (p := ⟨go, 0, none⟩) (Ne.symm HN.out.2.2.2.2.1) _, below_set HB2.out (Nat.le_trans HN.out.2.2.2.1 HN.out.2.1)⟩

def reply_reader_list.f (k : Nat) (ws : List ByteArray) (b : Bool) : Option (List ByteArray × List ByteArray × Bool) := eachF k (listOne k) [] ws b
theorem reply_reader_list.mono : ∀ a0 a1 k, LeO (reply_reader_list.f k a0 a1) (reply_reader_list.f (k + 1) a0 a1) := fun a0 a1 k => eachF_mono (fun _ _ _ => listOne_mono _ _ _ _) _ _ _ _
set_option maxHeartbeats 4000000 in
set_option maxRecDepth 100000 in
theorem reply_reader_list.calls (k : Nat) (g : Nat) (s0_0 : List ByteArray) (s0_1 : Bool) (r1 : List ByteArray) (r2 : List ByteArray) (r3 : Bool) (w0 w : World) (hI : IsS115 w0 w g s0_0 s0_1) (hB : Below w0.heap.size w0 w) (h : reply_reader_list.f k s0_0 s0_1 = some (r1, r2, r3)) :
    Calls Tryd.prog 78 #[.pointer (some ⟨g, 0, none⟩)] w fun e w' => ∃ v1_ : Value, e = .returned v1_ ∧ Kd.R Kd.string 9 w' w.heap.size (fun _ => True) v1_ r1 ∧ IsS115 w0 w' g r2 r3 ∧ Below w0.heap.size w0 w' ∧ KeepBut w w' g none := by
  have hg := hI.lt
  have hw := hB.size
  obtain ⟨W2, hW2⟩ : ∃ W2 : World, W2 = (w.alloc (.cells #[.pointer (some ⟨g, 0, none⟩)] 113)).alloc (.cells #[.slice none 0 0] 28) := ⟨_, rfl⟩
  have hb1 : W2.heap[w.heap.size]? = some (.cells #[.pointer (some ⟨g, 0, none⟩)] 113 (0, 0)) := by
    rw [hW2]
    exact blk_alloc (by simpa using heap_alloc_new w (.cells #[.pointer (some ⟨g, 0, none⟩)] 113)) _
  have hb2 : W2.heap[w.heap.size + 1]? = some (.cells #[.slice none 0 0] 28 (0, 0)) := by
    rw [hW2]
    have h_ := heap_alloc_new (w.alloc (.cells #[.pointer (some ⟨g, 0, none⟩)] 113)) (.cells #[.slice none 0 0] 28)
    simpa using h_
  have hLI : ListInv w (w.heap.size + 1) w.heap.size g [] W2 := ⟨⟨_, hb2, Kd.R_nil _ _ _ _ _⟩, hb1, by rw [hW2]; exact keep_alloc (keep_alloc (KeepBut.refl w g none) _) _⟩
  have hcall := each_calls k 119 #[.pointer (some ⟨w.heap.size + 1, 0, none⟩), .pointer (some ⟨w.heap.size, 0, none⟩)] (enters_of Tryd.func119 (by kernel_rfl) rfl) w0 g (ListInv w (w.heap.size + 1) w.heap.size g) (listOne k)
    (list_add k w w0 (w.heap.size + 1) w.heap.size g hg (by omega) (by omega) hw) (list_stay w (w.heap.size + 1) w.heap.size g hg (by omega) (by omega)) [] s0_0 s0_1 r1 r2 r3 W2 hLI (by rw [hW2]; exact (hI.alloc _).alloc _) (by rw [hW2]; exact below_alloc (below_alloc hB _) _) h
  rw [hW2] at hcall
  have HC := Aside0.mk hcall
  clear hcall hLI hb1 hb2 hW2 hI hB h hg hw
  go_enter Tryd.func78, Tryd.ntmps78
  go_wp2_with (go_at_call 79; refine HC.out.mono ?_; rintro e w1 ⟨rfl, hi1, hs1, hb1⟩; obtain ⟨v, hv, hR⟩ := hi1.out; obtain ⟨A1, c1, rfl⟩ := Kd.R_slice hR; have hc1 : w1.cell? ⟨w.heap.size + 1, 0, none⟩ = some _ := (blk_cell hv 0).trans rfl; have HR := Aside0.mk hR; have HS := Aside0.mk hs1; have HB := Aside0.mk hb1; have HK := Aside0.mk hi1.keep; clear hi1 hs1 hb1 hv hR)
  go_ret
  exact ⟨_, rfl, HR.out, HS.out, HB.out, HK.out⟩

end Go.Proofs.YtloibeefopdhpaaDoor.G
