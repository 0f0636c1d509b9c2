/- Chapter 15: arrays of two told as structs; an operation's value; slices.Index, Contains, IndexFunc, ContainsFunc over ids and pairs of texts: the walks. -/
import Derived.Test.YtmimejckcknjfaaDoorG7
import Derived.Test.YtmimejckcknjfaaDoorTabs
import Derived.Test.YtmimejckcknjfaaDoorG29
import Derived.Outline
set_option linter.unusedVariables false
set_option linter.unusedSimpArgs false
namespace Go.Proofs.YtmimejckcknjfaaDoor.G
open Go.RowKit Go.Proofs.YtmimejckcknjfaaDoorW.PrintWords Go.Proofs.YtmimejckcknjfaaDoorW.PrintLast Go.Proofs.YtmimejckcknjfaaDoorW.PrintMore Go.Proofs.YtmimejckcknjfaaDoor.Plain

theorem info9 : (Tryd.prog.info? 9).map (fun i => (i.zero, i.size, i.bytes)) = some (some (.string ⟨#[]⟩), 1, 16) := by kernel_rfl
theorem info3 : (Tryd.prog.info? 3).map (fun i => (i.zero, i.size, i.bytes)) = some (some (.int .i64 0), 1, 8) := by kernel_rfl

/-! #### [2]string -/
structure S35 where
  f0 : ByteArray
  f1 : ByteArray
def z35 : S35 := ⟨(⟨#[]⟩ : ByteArray), (⟨#[]⟩ : ByteArray)⟩
def k35 : Kd S35 := Kd.iso (Kd.pair Kd.string Kd.string) (fun x : S35 => (x.f0, x.f1))
theorem k35_open {w : World} {x : S35} {cs : List Value} (h : k35.K w x cs) : cs = [.string x.f0, .string x.f1] := by
  obtain ⟨_, _, rfl, rfl, rfl⟩ := h
  exact rfl
theorem k35_mk (w : World) (x : S35) : k35.K w x [.string x.f0, .string x.f1] := ⟨[.string x.f0], [.string x.f1], rfl, rfl, rfl⟩
theorem k35_mkM (w : World) (base : Nat) (ok : Nat → Prop) (x : S35) : k35.M w base ok x [.string x.f0, .string x.f1] := ⟨[.string x.f0], [.string x.f1], rfl, rfl, rfl⟩
def rd_T35 (xs : List S35) (i : Int) : S35 := xs.getD i.toNat z35
theorem at_T35 {w : World} {A : Option Addr} {n : Nat} {xs : List S35} (h : Kd.C k35 w A n xs) (i : Int) (h0 : 0 ≤ i) (h1 : i < n) : ∃ ad, A = some ad ∧ w.cell? (ad.add (i.toNat * 2)) = some (.string (rd_T35 xs i).f0) ∧ w.cell? ⟨(ad.add (i.toNat * 2)).block, (ad.add (i.toNat * 2)).off + 1, none⟩ = some (.string (rd_T35 xs i).f1) := by
  obtain ⟨ad, c, e, _, hK, hc0⟩ := Kd.C_get h z35 i h0 h1
  have hc : ∀ j u, c[j]? = some u → w.cell? (ad.add (i.toNat * 2 + j)) = some u := hc0
  obtain rfl := k35_open hK
  exact ⟨ad, e, hc 0 _ rfl, by rw [← add_field _ _ 1 (by omega)]; exact hc 1 _ rfl⟩
theorem info35 : (Tryd.prog.info? 35).map (fun i => (i.zero, i.size, i.bytes)) = some (some (.agg #[.string (⟨#[]⟩ : ByteArray), .string (⟨#[]⟩ : ByteArray)]), 2, 32) := by kernel_rfl
theorem eqA35 (d : Nat) (w : World) (a b c e : ByteArray) : (Op.equalIn (d + 2) 35 (.agg #[.string a, .string b]) (.agg #[.string c, .string e])).run Tryd.prog w = .ok (a.toList == c.toList && b.toList == e.toList) w := by
  have sz : ∀ w : World, (Go.sizeOf 9).run Tryd.prog w = .ok 1 w := by
    intro w
    obtain ⟨i0, hi0, hz0, hs0, hb0⟩ := info_parts info9
    simp [Go.sizeOf, typeInfo, hi0, hs0]
  have p0 : ∀ x y : ByteArray, (part 9 #[.string x, .string y] 0).run Tryd.prog w = .ok (.string x) w := by
    intro x y
    unfold part
    simp [sz]
  have p1 : ∀ x y : ByteArray, (part 9 #[.string x, .string y] 1).run Tryd.prog w = .ok (.string y) w := by
    intro x y
    unfold part
    simp [sz]
  have q : ∀ x y : ByteArray, (Op.equalIn (d + 1) 9 (.string x) (.string y)).run Tryd.prog w = .ok (x.toList == y.toList) w := by
    intro x y
    go_simp
  rw [Op.equalIn]
  simp only [Sem.run_bind, run_underlying Tryd.underlying35, Result.andThen_ok, sz]
  simp [Std.Legacy.Range.forIn_eq_forIn_range', Std.Legacy.Range.size, List.range', p0, p1, q]
  cases h1 : a.toList == c.toList <;> cases h2 : b.toList == e.toList <;> simp_all

/-! #### [2]int -/
structure S45 where
  f0 : Int
  f1 : Int
def z45 : S45 := ⟨(0 : Int), (0 : Int)⟩
def k45 : Kd S45 := Kd.iso (Kd.pair (Kd.int .i64) (Kd.int .i64)) (fun x : S45 => (x.f0, x.f1))
theorem k45_open {w : World} {x : S45} {cs : List Value} (h : k45.K w x cs) : cs = [.int .i64 x.f0, .int .i64 x.f1] := by
  obtain ⟨_, _, rfl, rfl, rfl⟩ := h
  exact rfl
theorem k45_mk (w : World) (x : S45) : k45.K w x [.int .i64 x.f0, .int .i64 x.f1] := ⟨[.int .i64 x.f0], [.int .i64 x.f1], rfl, rfl, rfl⟩
theorem k45_mkM (w : World) (base : Nat) (ok : Nat → Prop) (x : S45) : k45.M w base ok x [.int .i64 x.f0, .int .i64 x.f1] := ⟨[.int .i64 x.f0], [.int .i64 x.f1], rfl, rfl, rfl⟩
def rd_T45 (xs : List S45) (i : Int) : S45 := xs.getD i.toNat z45
theorem at_T45 {w : World} {A : Option Addr} {n : Nat} {xs : List S45} (h : Kd.C k45 w A n xs) (i : Int) (h0 : 0 ≤ i) (h1 : i < n) : ∃ ad, A = some ad ∧ w.cell? (ad.add (i.toNat * 2)) = some (.int .i64 (rd_T45 xs i).f0) ∧ w.cell? ⟨(ad.add (i.toNat * 2)).block, (ad.add (i.toNat * 2)).off + 1, none⟩ = some (.int .i64 (rd_T45 xs i).f1) := by
  obtain ⟨ad, c, e, _, hK, hc0⟩ := Kd.C_get h z45 i h0 h1
  have hc : ∀ j u, c[j]? = some u → w.cell? (ad.add (i.toNat * 2 + j)) = some u := hc0
  obtain rfl := k45_open hK
  exact ⟨ad, e, hc 0 _ rfl, by rw [← add_field _ _ 1 (by omega)]; exact hc 1 _ rfl⟩
theorem info45 : (Tryd.prog.info? 45).map (fun i => (i.zero, i.size, i.bytes)) = some (some (.agg #[.int .i64 (0 : Int), .int .i64 (0 : Int)]), 2, 16) := by kernel_rfl
theorem eqA45 (d : Nat) (w : World) (a b c e : Int) : (Op.equalIn (d + 2) 45 (.agg #[.int .i64 a, .int .i64 b]) (.agg #[.int .i64 c, .int .i64 e])).run Tryd.prog w = .ok (a == c && b == e) w := by
  have sz : ∀ w : World, (Go.sizeOf 3).run Tryd.prog w = .ok 1 w := by
    intro w
    obtain ⟨i0, hi0, hz0, hs0, hb0⟩ := info_parts info3
    simp [Go.sizeOf, typeInfo, hi0, hs0]
  have p0 : ∀ x y : Int, (part 3 #[.int .i64 x, .int .i64 y] 0).run Tryd.prog w = .ok (.int .i64 x) w := by
    intro x y
    unfold part
    simp [sz]
  have p1 : ∀ x y : Int, (part 3 #[.int .i64 x, .int .i64 y] 1).run Tryd.prog w = .ok (.int .i64 y) w := by
    intro x y
    unfold part
    simp [sz]
  have q : ∀ x y : Int, (Op.equalIn (d + 1) 3 (.int .i64 x) (.int .i64 y)).run Tryd.prog w = .ok (x == y) w := by
    intro x y
    go_simp
  rw [Op.equalIn]
  simp only [Sem.run_bind, run_underlying Tryd.underlying45, Result.andThen_ok, sz]
  simp [Std.Legacy.Range.forIn_eq_forIn_range', Std.Legacy.Range.size, List.range', p0, p1, q]
  cases h1 : a == c <;> cases h2 : b == e <;> simp_all

/-! #### operations -/
abbrev opV (x : S27) (A : Option Addr) (c : Nat) (B : Option Addr) (d : Nat) : Value := .agg #[.int .i64 x.f0, .string x.f1.f0, .int .i64 x.f1.f1, .string x.f2.f0, .int .i64 x.f2.f1, .string x.f3.f0, .int .i64 x.f3.f1, .string x.f4, .string x.f5, .string x.f6.f0, .int .i64 x.f6.f1, .string x.f7.f0, .int .i64 x.f7.f1, .slice A x.f8.length c, .int .i64 x.f9, .slice B x.f10.length d]
structure OpAt (w : World) (x : S27) (A : Option Addr) (c : Nat) (B : Option Addr) (d : Nat) : Prop where
  r8 : Kd.C k23 w A x.f8.length x.f8
  l8 : x.f8.length ≤ c
  r10 : Kd.C Kd.string w B x.f10.length x.f10
  l10 : x.f10.length ≤ d
theorem OpAt.below {w w' : World} {x : S27} {A : Option Addr} {c : Nat} {B : Option Addr} {d : Nat} (h : OpAt w x A c B d) (hb : Below w.heap.size w w') : OpAt w' x A c B d := ⟨Kd.C_below h.r8 hb, h.l8, Kd.C_below h.r10 hb, h.l10⟩
abbrev opCs (x : S27) (A : Option Addr) (c : Nat) (B : Option Addr) (d : Nat) : Array Value := #[.int .i64 x.f0, .string x.f1.f0, .int .i64 x.f1.f1, .string x.f2.f0, .int .i64 x.f2.f1, .string x.f3.f0, .int .i64 x.f3.f1, .string x.f4, .string x.f5, .string x.f6.f0, .int .i64 x.f6.f1, .string x.f7.f0, .int .i64 x.f7.f1, .slice A x.f8.length c, .int .i64 x.f9, .slice B x.f10.length d]
theorem op_cells {x : S27} {A : Option Addr} {c : Nat} {B : Option Addr} {d g : Nat} {W : World} (h : W.heap[g]? = some (.cells (opCs x A c B d) 27 (0, 0))) :
    W.cell? ⟨g, 0, none⟩ = some (.int .i64 x.f0) ∧ W.cell? ⟨g, 1, none⟩ = some (.string x.f1.f0) ∧ W.cell? ⟨g, 2, none⟩ = some (.int .i64 x.f1.f1) ∧ W.cell? ⟨g, 3, none⟩ = some (.string x.f2.f0) ∧ W.cell? ⟨g, 4, none⟩ = some (.int .i64 x.f2.f1) ∧ W.cell? ⟨g, 5, none⟩ = some (.string x.f3.f0) ∧ W.cell? ⟨g, 6, none⟩ = some (.int .i64 x.f3.f1) ∧ W.cell? ⟨g, 7, none⟩ = some (.string x.f4) ∧ W.cell? ⟨g, 8, none⟩ = some (.string x.f5) ∧ W.cell? ⟨g, 9, none⟩ = some (.string x.f6.f0) ∧ W.cell? ⟨g, 10, none⟩ = some (.int .i64 x.f6.f1) ∧ W.cell? ⟨g, 11, none⟩ = some (.string x.f7.f0) ∧ W.cell? ⟨g, 12, none⟩ = some (.int .i64 x.f7.f1) ∧ W.cell? ⟨g, 13, none⟩ = some (.slice A x.f8.length c) ∧ W.cell? ⟨g, 14, none⟩ = some (.int .i64 x.f9) ∧ W.cell? ⟨g, 15, none⟩ = some (.slice B x.f10.length d) :=
  ⟨(blk_cell h 0).trans rfl, (blk_cell h 1).trans rfl, (blk_cell h 2).trans rfl, (blk_cell h 3).trans rfl, (blk_cell h 4).trans rfl, (blk_cell h 5).trans rfl, (blk_cell h 6).trans rfl, (blk_cell h 7).trans rfl, (blk_cell h 8).trans rfl, (blk_cell h 9).trans rfl, (blk_cell h 10).trans rfl, (blk_cell h 11).trans rfl, (blk_cell h 12).trans rfl, (blk_cell h 13).trans rfl, (blk_cell h 14).trans rfl, (blk_cell h 15).trans rfl⟩
/-- Two ids just made. -/
theorem R_ids2 {W : World} {base : Nat} (hb : base ≤ W.heap.size) (a b : S23) : Kd.R k23 23 (W.alloc (.cells #[.string a.f0, .int .i64 a.f1, .string b.f0, .int .i64 b.f1] 23)) base (fun _ => True) (.slice (some ⟨W.heap.size, 0, none⟩) 2 2) [a, b] :=
  have h2 : (W.alloc (.cells #[.string a.f0, .int .i64 a.f1, .string b.f0, .int .i64 b.f1] 23)).ownsRow base 23 2 (.slice (some ⟨W.heap.size, 0, none⟩) 2 2) 2 [.string a.f0, .int .i64 a.f1, .string b.f0, .int .i64 b.f1] := by simpa using World.ownsRow_lit (base := base) (e := 23) (size := 2) W #[.string a.f0, .int .i64 a.f1, .string b.f0, .int .i64 b.f1] 2 hb (by simp [maxLen]) (by simp)
  ⟨fun _ _ => trivial, _, h2, Reps.c2 (k23_mkM _ _ _ a) (Reps.c2 (k23_mkM _ _ _ b) (Reps.none _ _))⟩
/-- One pair just made. -/
theorem R_pair1 {W : World} {base : Nat} (hb : base ≤ W.heap.size) (a b : ByteArray) : Kd.R k35 35 (W.alloc (.cells #[.string a, .string b] 35)) base (fun _ => True) (.slice (some ⟨W.heap.size, 0, none⟩) 1 1) [⟨a, b⟩] :=
  have h2 : (W.alloc (.cells #[.string a, .string b] 35)).ownsRow base 35 2 (.slice (some ⟨W.heap.size, 0, none⟩) 1 1) 1 [.string a, .string b] := by simpa using World.ownsRow_lit (base := base) (e := 35) (size := 2) W #[.string a, .string b] 1 hb (by simp [maxLen]) (by simp)
  ⟨fun _ _ => trivial, _, h2, Reps.c2 (k35_mkM _ _ _ ⟨a, b⟩) (Reps.none _ _)⟩
theorem R_int1 {W : World} {base : Nat} (hb : base ≤ W.heap.size) (a b : Int) : Kd.R k45 45 (W.alloc (.cells #[.int .i64 a, .int .i64 b] 45)) base (fun _ => True) (.slice (some ⟨W.heap.size, 0, none⟩) 1 1) [⟨a, b⟩] :=
  have h2 : (W.alloc (.cells #[.int .i64 a, .int .i64 b] 45)).ownsRow base 45 2 (.slice (some ⟨W.heap.size, 0, none⟩) 1 1) 1 [.int .i64 a, .int .i64 b] := by simpa using World.ownsRow_lit (base := base) (e := 45) (size := 2) W #[.int .i64 a, .int .i64 b] 1 hb (by simp [maxLen]) (by simp)
  ⟨fun _ _ => trivial, _, h2, Reps.c2 (k45_mkM _ _ _ ⟨a, b⟩) (Reps.none _ _)⟩
/-- Two texts are the same, two ids are. -/
def sameT (x y : ByteArray) : Bool := x.toList == y.toList
def sameI (x y : S23) : Bool := x.f0.toList == y.f0.toList && x.f1 == y.f1
def sameP (x y : S35) : Bool := x.f0.toList == y.f0.toList && x.f1.toList == y.f1.toList
/-- The place of the first one at which p holds, or -1. -/
def idxP {α : Type} (p : α → Bool) : List α → Nat → Int
  | [], _ => -1
  | x :: l, i => if p x = true then (i : Int) else idxP p l (i + 1)
theorem idxP_any {α : Type} (p : α → Bool) : ∀ (l : List α) (i : Nat), decide (0 ≤ idxP p l i) = l.any p
  | [], i => by simp [idxP]
  | x :: l, i => by
    rw [idxP, List.any_cons]
    by_cases h : p x = true
    · rw [if_pos h, h]; simp
    · rw [if_neg h, idxP_any p l (i + 1)]
      simp [h]

/-! ### rafter/api.Id -/
def PredId (g : Nat) (lb : Array Value) (p : S23 → Bool) (w : World) : Prop :=
  ∀ (W : World) (x : S23), Below w.heap.size w W → Calls Tryd.prog g (#[.agg #[.string x.f0, .int .i64 x.f1]] ++ lb) W fun e w' => e = .returned (.bool (p x)) ∧ Below W.heap.size W w'
theorem PredId.later {g : Nat} {lb : Array Value} {p : S23 → Bool} {w w1 : World} (h : PredId g lb p w) (hb : Below w.heap.size w w1) : PredId g lb p w1 := fun W x hW => h W x (below_then hb hb.size hW)
set_option maxHeartbeats 2000000 in
set_option maxRecDepth 100000 in
theorem indexFunc_Id (g : Nat) (lb : Array Value) (p : S23 → Bool) (eg : ∀ args w, (callFunc g args).run Tryd.prog w = .ok (.enter g args) w) (A : Option Addr) (c : Nat) (l : List S23) (w : World)
    (hr : Kd.C k23 w A l.length l) (hp : PredId g lb p w) :
    Calls Tryd.prog 56 #[.slice A l.length c, .func (.func g) #[] lb] w fun e w' => e = .returned (.int .i64 (idxP p l 0)) ∧ Below w.heap.size w w' := by
  have hm := Kd.C_max hr
  have HR := Aside0.mk hr
  have HP := Aside0.mk hp
  clear hr hp
  obtain ⟨r, hres⟩ : ∃ r, r = idxP p l 0 := ⟨_, rfl⟩
  rw [← hres]
  have HF := Aside0.mk hres
  clear hres
  go_enter Tryd.func56, Tryd.ntmps56
  go_wp2
  go_loopg [5, 8] l.length (fun gg _ s8 wr => ∃ i : Nat, s8 = .int .i64 i ∧ Aside0 (i + gg = l.length) ∧ Aside0 (Below w.heap.size w wr) ∧ Aside0 (r = idxP p (l.drop i) i))
  case atStart => exact ⟨0, rfl, ⟨by omega⟩, ⟨Below.refl _ w⟩, by simpa using HF⟩
  case round =>
    clear HF
    obtain ⟨i, rfl, HN, HB, HF⟩ := hrel
    by_cases hi : i < l.length
    · have hd0 : l.drop i = l[i] :: l.drop (i + 1) := List.drop_eq_getElem_cons hi
      have H := HF.out
      clear HF
      rw [hd0, idxP] at H
      have hx := at_T23 HR.out (i : Int) (by omega) (by omega)
      have e1 : rd_T23 l (i : Int) = l[i] := by simp [rd_T23, hi]
      rw [e1, Int.toNat_natCast] at hx
      have hcall := HP.out wr l[i] HB.out
      clear hd0 e1
      generalize l[i] = x at hx H hcall
      obtain ⟨ad, e0, x0, x1⟩ := hx
      cases e0
      replace x0 := (HB.out.cell (World.block_lt_of_cell? w _ x0)).trans x0
      replace x1 := (HB.out.cell (World.block_lt_of_cell? w _ x1)).trans x1
      have hi' : (i : Int) < (l.length : Int) := by omega
      have HC := Aside0.mk hcall
      clear hcall
      cases hq : p x with
      | true =>
        rw [hq, if_pos rfl] at H
        rw [hq] at HC
        have HH := Aside0.mk H
        clear H hq
        go_wp2
        refine HC.out.mono ?_
        rintro e w' ⟨rfl, hb1'⟩
        have hb' := below_then HB.out HB.out.size hb1'
        go_wp2
        go_ret
        exact ⟨by rw [HH.out]; rfl, hb'⟩
      | false =>
        rw [hq, if_neg (by decide)] at H
        rw [hq] at HC
        have HH := Aside0.mk H
        clear H hq
        go_wp2
        refine HC.out.mono ?_
        rintro e w' ⟨rfl, hb1'⟩
        have hb' := below_then HB.out HB.out.size hb1'
        go_wp2
        go_roundg (gk - 1)
        case measure => have := HN.out; omega
        case rel => exact ⟨i + 1, by go_num, ⟨by have := HN.out; omega⟩, ⟨hb'⟩, HH⟩
    · have hge : l.length ≤ i := by omega
      have H := HF.out
      rw [List.drop_eq_nil_of_le hge, idxP] at H
      have HH := Aside0.mk H
      have hi' : ¬ (i : Int) < (l.length : Int) := by omega
      clear H HF
      go_wp2
      go_ret
      exact ⟨by rw [HH.out]; rfl, HB.out⟩
set_option maxHeartbeats 2000000 in
theorem containsFunc_Id (g : Nat) (lb : Array Value) (p : S23 → Bool) (eg : ∀ args w, (callFunc g args).run Tryd.prog w = .ok (.enter g args) w) (A : Option Addr) (c : Nat) (l : List S23) (w : World)
    (hr : Kd.C k23 w A l.length l) (hp : PredId g lb p w) :
    Calls Tryd.prog 48 #[.slice A l.length c, .func (.func g) #[] lb] w fun e w' => e = .returned (.bool (l.any p)) ∧ Below w.heap.size w w' := by
  have H := Aside0.mk (indexFunc_Id g lb p eg A c l w hr hp)
  rw [← idxP_any p l 0]
  clear hr hp
  generalize idxP p l 0 = r at *
  go_enter Tryd.func48, Tryd.ntmps48
  go_wp2_with (fail)
  refine H.out.mono ?_
  rintro e w' ⟨rfl, hb⟩
  have HB := Aside0.mk hb
  clear hb H
  go_wp2
  go_ret
  exact ⟨rfl, HB.out⟩
set_option maxHeartbeats 2000000 in
set_option maxRecDepth 100000 in
attribute [local go_sem high] eqA23 in
theorem index_Id (A : Option Addr) (c : Nat) (l : List S23) (x : S23) (w : World) (hr : Kd.C k23 w A l.length l) :
    Calls Tryd.prog 60 #[.slice A l.length c, .agg #[.string x.f0, .int .i64 x.f1]] w fun e w' => e = .returned (.int .i64 (idxP (sameI x) l 0)) ∧ Below w.heap.size w w' := by
  have hm := Kd.C_max hr
  have HR := Aside0.mk hr
  have hu := Tryd.underlying23
  clear hr
  obtain ⟨r, hres⟩ : ∃ r, r = idxP (sameI x) l 0 := ⟨_, rfl⟩
  rw [← hres]
  have HF := Aside0.mk hres
  clear hres
  have HB0 := Aside0.mk ((Below.refl w.heap.size w).alloc (Nat.le_refl _) (.cells #[.string x.f0, .int .i64 x.f1] 23))
  have HK0 := Aside0.mk (show (w.alloc (.cells #[.string x.f0, .int .i64 x.f1] 23)).heap[w.heap.size]? = some (.cells #[.string x.f0, .int .i64 x.f1] 23 (0, 0)) by simpa using heap_alloc_new w _)
  go_enter Tryd.func60, Tryd.ntmps60
  go_wp2
  go_loopg [5, 8] l.length (fun gg _ s8 wr => ∃ i : Nat, s8 = .int .i64 i ∧ Aside0 (i + gg = l.length) ∧ Aside0 (Below w.heap.size w wr) ∧ Aside0 (wr.heap[w.heap.size]? = some (.cells #[.string x.f0, .int .i64 x.f1] 23 (0, 0))) ∧ Aside0 (r = idxP (sameI x) (l.drop i) i))
  case atStart => exact ⟨0, rfl, ⟨by omega⟩, HB0, HK0, by simpa using HF⟩
  case round =>
    clear HF HB0 HK0
    obtain ⟨i, rfl, HN, HB, HK, HF⟩ := hrel
    by_cases hi : i < l.length
    · have hd0 : l.drop i = l[i] :: l.drop (i + 1) := List.drop_eq_getElem_cons hi
      have H := HF.out
      clear HF
      rw [hd0, idxP] at H
      have hx := at_T23 HR.out (i : Int) (by omega) (by omega)
      have e1 : rd_T23 l (i : Int) = l[i] := by simp [rd_T23, hi]
      rw [e1, Int.toNat_natCast] at hx
      clear hd0 e1
      generalize l[i] = y at hx H
      obtain ⟨ad, e0, y0, y1⟩ := hx
      cases e0
      replace y0 := (HB.out.cell (World.block_lt_of_cell? w _ y0)).trans y0
      replace y1 := (HB.out.cell (World.block_lt_of_cell? w _ y1)).trans y1
      have x0 := (blk_cell HK.out 0).trans rfl
      have x1 := (blk_cell HK.out 1).trans rfl
      have p1 : (0 ≤ (i : Int)) = True := eq_true (by omega)
      have p2 : ((i : Int) < (l.length : Int)) = True := eq_true (by omega)
      rw [show sameI x y = (x.f0.toList == y.f0.toList && x.f1 == y.f1) from rfl] at H
      cases hq : (x.f0.toList == y.f0.toList && x.f1 == y.f1)
      all_goals
        rw [hq] at H
        have HH := Aside0.mk H
        clear H
        go_wp2
        repeat (go_quiet (fail); try go_wp2)
      · go_roundg (gk - 1)
        case measure => have := HN.out; omega
        case rel => exact ⟨i + 1, by go_num, ⟨by have := HN.out; omega⟩, ⟨by repeat (first | (with_reducible first | exact HB.out | apply below_alloc | apply pw_below_drewN | apply below_drew1) | exact HB.out)⟩, ⟨by (with_reducible repeat (first | refine blk_drewN ?_ _ | refine blk_drew ?_ | refine blk_alloc ?_ _)); exact HK.out⟩, ⟨by have := HH.out; rwa [if_neg (by decide)] at this⟩⟩
      · go_ret
        exact ⟨by rw [HH.out]; simp, by repeat (first | (with_reducible first | exact HB.out | apply below_alloc | apply pw_below_drewN | apply below_drew1) | exact HB.out)⟩
    · have hge : l.length ≤ i := by omega
      have H := HF.out
      rw [List.drop_eq_nil_of_le hge, idxP] at H
      have HH := Aside0.mk H
      have hi' : ¬ (i : Int) < (l.length : Int) := by omega
      clear H HF
      go_wp2
      go_ret
      exact ⟨by rw [HH.out]; rfl, HB.out⟩
set_option maxHeartbeats 2000000 in
theorem contains_Id (A : Option Addr) (c : Nat) (l : List S23) (x : S23) (w : World) (hr : Kd.C k23 w A l.length l) :
    Calls Tryd.prog 57 #[.slice A l.length c, .agg #[.string x.f0, .int .i64 x.f1]] w fun e w' => e = .returned (.bool (l.any (sameI x))) ∧ Below w.heap.size w w' := by
  have H := Aside0.mk (fun W hW => index_Id A c l x W hW)
  have HR := Aside0.mk hr
  have HB0 := Aside0.mk ((Below.refl w.heap.size w).alloc (Nat.le_refl _) (.cells #[.string x.f0, .int .i64 x.f1] 23))
  rw [← idxP_any (sameI x) l 0]
  clear hr
  generalize idxP (sameI x) l 0 = r at *
  go_enter Tryd.func57, Tryd.ntmps57
  go_wp2_with (fail)
  refine (H.out _ (Kd.C_alloc HR.out _)).mono ?_
  rintro e w' ⟨rfl, hb⟩
  have HB := Aside0.mk (below_then HB0.out HB0.out.size hb)
  clear hb H HB0
  go_wp2
  go_ret
  exact ⟨rfl, HB.out⟩
set_option maxHeartbeats 2000000 in
theorem ident_Has.calls (A : Option Addr) (c : Nat) (l : List S23) (x : S23) (w : World) (hr : Kd.C k23 w A l.length l) :
    Calls Tryd.prog 50 #[.slice A l.length c, .agg #[.string x.f0, .int .i64 x.f1]] w fun e w' => e = .returned (.bool (l.any (sameI x))) ∧ Below w.heap.size w w' := by
  have H := Aside0.mk (fun W hW => contains_Id A c l x W hW)
  have HR := Aside0.mk hr
  have HB0 := Aside0.mk ((Below.refl w.heap.size w).alloc (Nat.le_refl _) (.cells #[.string x.f0, .int .i64 x.f1] 23))
  clear hr
  generalize l.any (sameI x) = r at *
  go_enter Tryd.func50, Tryd.ntmps50
  go_wp2_with (fail)
  refine (H.out _ (Kd.C_alloc HR.out _)).mono ?_
  rintro e w' ⟨rfl, hb⟩
  have HB := Aside0.mk (below_then HB0.out HB0.out.size hb)
  clear hb H HB0
  go_wp2
  go_ret
  exact ⟨rfl, HB.out⟩

/-! ### [2]string -/
def PredP (g : Nat) (lb : Array Value) (p : S35 → Bool) (w : World) : Prop :=
  ∀ (W : World) (x : S35), Below w.heap.size w W → Calls Tryd.prog g (#[.agg #[.string x.f0, .string x.f1]] ++ lb) W fun e w' => e = .returned (.bool (p x)) ∧ Below W.heap.size W w'
theorem PredP.later {g : Nat} {lb : Array Value} {p : S35 → Bool} {w w1 : World} (h : PredP g lb p w) (hb : Below w.heap.size w w1) : PredP g lb p w1 := fun W x hW => h W x (below_then hb hb.size hW)
set_option maxHeartbeats 2000000 in
set_option maxRecDepth 100000 in
theorem indexFunc_P (g : Nat) (lb : Array Value) (p : S35 → Bool) (eg : ∀ args w, (callFunc g args).run Tryd.prog w = .ok (.enter g args) w) (A : Option Addr) (c : Nat) (l : List S35) (w : World)
    (hr : Kd.C k35 w A l.length l) (hp : PredP g lb p w) :
    Calls Tryd.prog 51 #[.slice A l.length c, .func (.func g) #[] lb] w fun e w' => e = .returned (.int .i64 (idxP p l 0)) ∧ Below w.heap.size w w' := by
  have hm := Kd.C_max hr
  have HR := Aside0.mk hr
  have HP := Aside0.mk hp
  clear hr hp
  obtain ⟨r, hres⟩ : ∃ r, r = idxP p l 0 := ⟨_, rfl⟩
  rw [← hres]
  have HF := Aside0.mk hres
  clear hres
  go_enter Tryd.func51, Tryd.ntmps51
  go_wp2
  go_loopg [5, 8] l.length (fun gg _ s8 wr => ∃ i : Nat, s8 = .int .i64 i ∧ Aside0 (i + gg = l.length) ∧ Aside0 (Below w.heap.size w wr) ∧ Aside0 (r = idxP p (l.drop i) i))
  case atStart => exact ⟨0, rfl, ⟨by omega⟩, ⟨Below.refl _ w⟩, by simpa using HF⟩
  case round =>
    clear HF
    obtain ⟨i, rfl, HN, HB, HF⟩ := hrel
    by_cases hi : i < l.length
    · have hd0 : l.drop i = l[i] :: l.drop (i + 1) := List.drop_eq_getElem_cons hi
      have H := HF.out
      clear HF
      rw [hd0, idxP] at H
      have hx := at_T35 HR.out (i : Int) (by omega) (by omega)
      have e1 : rd_T35 l (i : Int) = l[i] := by simp [rd_T35, hi]
      rw [e1, Int.toNat_natCast] at hx
      have hcall := HP.out wr l[i] HB.out
      clear hd0 e1
      generalize l[i] = x at hx H hcall
      obtain ⟨ad, e0, x0, x1⟩ := hx
      cases e0
      replace x0 := (HB.out.cell (World.block_lt_of_cell? w _ x0)).trans x0
      replace x1 := (HB.out.cell (World.block_lt_of_cell? w _ x1)).trans x1
      have hi' : (i : Int) < (l.length : Int) := by omega
      have HC := Aside0.mk hcall
      clear hcall
      cases hq : p x with
      | true =>
        rw [hq, if_pos rfl] at H
        rw [hq] at HC
        have HH := Aside0.mk H
        clear H hq
        go_wp2
        refine HC.out.mono ?_
        rintro e w' ⟨rfl, hb1'⟩
        have hb' := below_then HB.out HB.out.size hb1'
        go_wp2
        go_ret
        exact ⟨by rw [HH.out]; rfl, hb'⟩
      | false =>
        rw [hq, if_neg (by decide)] at H
        rw [hq] at HC
        have HH := Aside0.mk H
        clear H hq
        go_wp2
        refine HC.out.mono ?_
        rintro e w' ⟨rfl, hb1'⟩
        have hb' := below_then HB.out HB.out.size hb1'
        go_wp2
        go_roundg (gk - 1)
        case measure => have := HN.out; omega
        case rel => exact ⟨i + 1, by go_num, ⟨by have := HN.out; omega⟩, ⟨hb'⟩, HH⟩
    · have hge : l.length ≤ i := by omega
      have H := HF.out
      rw [List.drop_eq_nil_of_le hge, idxP] at H
      have HH := Aside0.mk H
      have hi' : ¬ (i : Int) < (l.length : Int) := by omega
      clear H HF
      go_wp2
      go_ret
      exact ⟨by rw [HH.out]; rfl, HB.out⟩
set_option maxHeartbeats 2000000 in
theorem containsFunc_P (g : Nat) (lb : Array Value) (p : S35 → Bool) (eg : ∀ args w, (callFunc g args).run Tryd.prog w = .ok (.enter g args) w) (A : Option Addr) (c : Nat) (l : List S35) (w : World)
    (hr : Kd.C k35 w A l.length l) (hp : PredP g lb p w) :
    Calls Tryd.prog 36 #[.slice A l.length c, .func (.func g) #[] lb] w fun e w' => e = .returned (.bool (l.any p)) ∧ Below w.heap.size w w' := by
  have H := Aside0.mk (indexFunc_P g lb p eg A c l w hr hp)
  rw [← idxP_any p l 0]
  clear hr hp
  generalize idxP p l 0 = r at *
  go_enter Tryd.func36, Tryd.ntmps36
  go_wp2_with (fail)
  refine H.out.mono ?_
  rintro e w' ⟨rfl, hb⟩
  have HB := Aside0.mk hb
  clear hb H
  go_wp2
  go_ret
  exact ⟨rfl, HB.out⟩
set_option maxHeartbeats 2000000 in
set_option maxRecDepth 100000 in
attribute [local go_sem high] eqA35 in
theorem index_P (A : Option Addr) (c : Nat) (l : List S35) (x : S35) (w : World) (hr : Kd.C k35 w A l.length l) :
    Calls Tryd.prog 52 #[.slice A l.length c, .agg #[.string x.f0, .string x.f1]] w fun e w' => e = .returned (.int .i64 (idxP (sameP x) l 0)) ∧ Below w.heap.size w w' := by
  have hm := Kd.C_max hr
  have HR := Aside0.mk hr
  have hu := Tryd.underlying35
  clear hr
  obtain ⟨r, hres⟩ : ∃ r, r = idxP (sameP x) l 0 := ⟨_, rfl⟩
  rw [← hres]
  have HF := Aside0.mk hres
  clear hres
  have HB0 := Aside0.mk ((Below.refl w.heap.size w).alloc (Nat.le_refl _) (.cells #[.string x.f0, .string x.f1] 35))
  have HK0 := Aside0.mk (show (w.alloc (.cells #[.string x.f0, .string x.f1] 35)).heap[w.heap.size]? = some (.cells #[.string x.f0, .string x.f1] 35 (0, 0)) by simpa using heap_alloc_new w _)
  go_enter Tryd.func52, Tryd.ntmps52
  go_wp2
  go_loopg [5, 8] l.length (fun gg _ s8 wr => ∃ i : Nat, s8 = .int .i64 i ∧ Aside0 (i + gg = l.length) ∧ Aside0 (Below w.heap.size w wr) ∧ Aside0 (wr.heap[w.heap.size]? = some (.cells #[.string x.f0, .string x.f1] 35 (0, 0))) ∧ Aside0 (r = idxP (sameP x) (l.drop i) i))
  case atStart => exact ⟨0, rfl, ⟨by omega⟩, HB0, HK0, by simpa using HF⟩
  case round =>
    clear HF HB0 HK0
    obtain ⟨i, rfl, HN, HB, HK, HF⟩ := hrel
    by_cases hi : i < l.length
    · have hd0 : l.drop i = l[i] :: l.drop (i + 1) := List.drop_eq_getElem_cons hi
      have H := HF.out
      clear HF
      rw [hd0, idxP] at H
      have hx := at_T35 HR.out (i : Int) (by omega) (by omega)
      have e1 : rd_T35 l (i : Int) = l[i] := by simp [rd_T35, hi]
      rw [e1, Int.toNat_natCast] at hx
      clear hd0 e1
      generalize l[i] = y at hx H
      obtain ⟨ad, e0, y0, y1⟩ := hx
      cases e0
      replace y0 := (HB.out.cell (World.block_lt_of_cell? w _ y0)).trans y0
      replace y1 := (HB.out.cell (World.block_lt_of_cell? w _ y1)).trans y1
      have x0 := (blk_cell HK.out 0).trans rfl
      have x1 := (blk_cell HK.out 1).trans rfl
      have p1 : (0 ≤ (i : Int)) = True := eq_true (by omega)
      have p2 : ((i : Int) < (l.length : Int)) = True := eq_true (by omega)
      rw [show sameP x y = (x.f0.toList == y.f0.toList && x.f1.toList == y.f1.toList) from rfl] at H
      cases hq : (x.f0.toList == y.f0.toList && x.f1.toList == y.f1.toList)
      all_goals
        rw [hq] at H
        have HH := Aside0.mk H
        clear H
        go_wp2
        repeat (go_quiet (fail); try go_wp2)
      · go_roundg (gk - 1)
        case measure => have := HN.out; omega
        case rel => exact ⟨i + 1, by go_num, ⟨by have := HN.out; omega⟩, ⟨by repeat (first | (with_reducible first | exact HB.out | apply below_alloc | apply pw_below_drewN | apply below_drew1) | exact HB.out)⟩, ⟨by (with_reducible repeat (first | refine blk_drewN ?_ _ | refine blk_drew ?_ | refine blk_alloc ?_ _)); exact HK.out⟩, ⟨by have := HH.out; rwa [if_neg (by decide)] at this⟩⟩
      · go_ret
        exact ⟨by rw [HH.out]; simp, by repeat (first | (with_reducible first | exact HB.out | apply below_alloc | apply pw_below_drewN | apply below_drew1) | exact HB.out)⟩
    · have hge : l.length ≤ i := by omega
      have H := HF.out
      rw [List.drop_eq_nil_of_le hge, idxP] at H
      have HH := Aside0.mk H
      have hi' : ¬ (i : Int) < (l.length : Int) := by omega
      clear H HF
      go_wp2
      go_ret
      exact ⟨by rw [HH.out]; rfl, HB.out⟩
set_option maxHeartbeats 2000000 in
theorem contains_P (A : Option Addr) (c : Nat) (l : List S35) (x : S35) (w : World) (hr : Kd.C k35 w A l.length l) :
    Calls Tryd.prog 38 #[.slice A l.length c, .agg #[.string x.f0, .string x.f1]] w fun e w' => e = .returned (.bool (l.any (sameP x))) ∧ Below w.heap.size w w' := by
  have H := Aside0.mk (fun W hW => index_P A c l x W hW)
  have HR := Aside0.mk hr
  have HB0 := Aside0.mk ((Below.refl w.heap.size w).alloc (Nat.le_refl _) (.cells #[.string x.f0, .string x.f1] 35))
  rw [← idxP_any (sameP x) l 0]
  clear hr
  generalize idxP (sameP x) l 0 = r at *
  go_enter Tryd.func38, Tryd.ntmps38
  go_wp2_with (fail)
  refine (H.out _ (Kd.C_alloc HR.out _)).mono ?_
  rintro e w' ⟨rfl, hb⟩
  have HB := Aside0.mk (below_then HB0.out HB0.out.size hb)
  clear hb H HB0
  go_wp2
  go_ret
  exact ⟨rfl, HB.out⟩
end Go.Proofs.YtmimejckcknjfaaDoor.G
