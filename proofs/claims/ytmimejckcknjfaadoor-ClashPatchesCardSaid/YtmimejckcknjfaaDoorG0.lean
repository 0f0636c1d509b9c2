-- Printed by a program of this session (wip/tools/own_print.sh), on the model of the kit's print; Lean checks it.
import Derived.Test.YtmimejckcknjfaaDoorProg
import Derived.Below
import Derived.Deep.Draws
import Derived.Deep.AppendLies
import Derived.Maps.AppendAt
import Derived.OwnWalk
import Derived.Laws.BytesArg
import Derived.Laws.MakeOwn
import Derived.Laws.OwnMore
import Derived.Deep.OwnRows
import Derived.Tactics
import Derived.Lib.ConvBytes
import Derived.Laws.Slices
import Derived.WalkKit
import Derived.KernelRfl
import Derived.RowKit3
import Derived.Deep.LoopGhost
import Derived.Deep.QuietTactic
import Derived.BigQuiet
import Derived.WideLaws
import Derived.Deep.DeepCutAuto
import Derived.Deep.CutBlock
import Derived.Deep.RegionHeld3
import Derived.Laws.Rows
import Derived.Lib.AppendStr
import Derived.ArgAppend
import Derived.Laws.IdiomCopy
import Derived.OrdersHeld
import Derived.Laws.BitsLemmas
import Derived.RowKit
import Derived.Test.YtmimejckcknjfaaDoorWMore
import Derived.Test.YtmimejckcknjfaaDoorWRepsOne
namespace Go.Proofs.YtmimejckcknjfaaDoor.G
open Go.RowKit Go.Proofs.YtmimejckcknjfaaDoorW.PrintWords Go.Proofs.YtmimejckcknjfaaDoorW.PrintLast Go.Proofs.YtmimejckcknjfaaDoorW.PrintMore
attribute [local go_sem] max2_int min2_int max_two min_two max_three min_three max_four min_four   -- for this text's walks alone
set_option linter.unusedVariables false
set_option linter.unusedSimpArgs false



def errW : Option Int → Value
  | none => .nilIface
  | some c => .iface 0 (.int .i64 c)
theorem errW_none : errW none = .nilIface := rfl
theorem errW_some (c : Int) : errW (some c) = .iface 0 (.int .i64 c) := rfl

theorem info23 : (Tryd.prog.info? 23).map (fun i => (i.zero, i.size, i.bytes)) = some (some (.agg #[(.string ⟨#[]⟩), (.int .i64 0)]), 2, 24) := by kernel_rfl
theorem info38 : (Tryd.prog.info? 38).map (fun i => (i.zero, i.size, i.bytes)) = some (some (.agg #[(.string ⟨#[]⟩), (.int .i64 0), (.string ⟨#[]⟩)]), 3, 40) := by kernel_rfl
-- the values' own types
/-! #### struct type 23 -/
structure S23 where
  f0 : ByteArray
  f1 : Int
def z23 : S23 := ⟨(⟨#[]⟩ : ByteArray), (0 : Int)⟩
def k23 : Kd S23 := Kd.iso (Kd.pair Kd.string (Kd.int .i64)) (fun x : S23 => (x.f0, x.f1))
theorem k23_open {w : World} {x : S23} {cs : List Value} (h : k23.K w x cs) : cs = [.string x.f0, .int .i64 x.f1] := by
  obtain ⟨_, _, rfl, rfl, rfl⟩ := h
  exact rfl
theorem k23_openM {w : World} {base : Nat} {ok : Nat → Prop} {x : S23} {cs : List Value} (h : k23.M w base ok x cs) : cs = [.string x.f0, .int .i64 x.f1] := by
  obtain ⟨_, _, rfl, rfl, rfl⟩ := h
  exact rfl
theorem k23_mk (w : World) (x : S23)  : k23.K w x [.string x.f0, .int .i64 x.f1] := ⟨[.string x.f0], [.int .i64 x.f1], rfl, rfl, rfl⟩
theorem k23_mkM (w : World) (base : Nat) (ok : Nat → Prop) (x : S23)  : k23.M w base ok x [.string x.f0, .int .i64 x.f1] := ⟨[.string x.f0], [.int .i64 x.f1], rfl, rfl, rfl⟩
theorem k23_mkF (W : World) (ok : Nat → Prop) (x : S23) : Kd.FK k23 W ok x [.string x.f0, .int .i64 x.f1] := fun W2 _ => k23_mk W2 x
def rd_T23 (xs : List S23) (i : Int) : S23 := xs.getD i.toNat z23
theorem at_T23 {w : World} {A : Option Addr} {n : Nat} {xs : List S23} (h : Kd.C k23 w A n xs) (i : Int) (h0 : 0 ≤ i) (h1 : i < n) : ∃ ad , A = some ad ∧ w.cell? (ad.add (i.toNat * 2)) = some (.string (rd_T23 xs i).f0) ∧ w.cell? ⟨(ad.add (i.toNat * 2)).block, (ad.add (i.toNat * 2)).off + 1, none⟩ = some (.int .i64 (rd_T23 xs i).f1) := by
  obtain ⟨ad, c, e, _, hK, hc0⟩ := Kd.C_get h z23 i h0 h1
  have hc : ∀ j u, c[j]? = some u → w.cell? (ad.add (i.toNat * 2 + j)) = some u := hc0
  obtain rfl := k23_open hK
  exact ⟨ad, e, hc 0 _ rfl, by rw [← add_field _ _ 1 (by omega)]; exact hc 1 _ rfl⟩

def rd_L3 (xs : List (List S23)) (i : Int) : (List S23) := xs.getD i.toNat ([] : List S23)
theorem at_L3 {w : World} {A : Option Addr} {n : Nat} {xs : List (List S23)} (h : Kd.C (Kd.slice 23 k23) w A n xs) (i : Int) (h0 : 0 ≤ i) (h1 : i < n) : ∃ ad A0 c0, A = some ad ∧ w.cell? (ad.add i.toNat) = some (.slice A0 (rd_L3 xs i).length c0) ∧ (rd_L3 xs i).length ≤ c0 ∧ k23.C w A0 (rd_L3 xs i).length (rd_L3 xs i) := by
  obtain ⟨ad, c, e, _, hK, hc0⟩ := Kd.C_get h ([] : List S23) i h0 h1
  have hc : ∀ j u, c[j]? = some u → w.cell? (ad.add (i.toNat * 1 + j)) = some u := hc0
  obtain ⟨A0, c0, rfl, l0, g0⟩ := hK
  exact ⟨ad, A0, c0, e, by have hq := hc 0 _ rfl; rwa [Nat.mul_one, Nat.add_zero] at hq, l0, g0⟩

def rd_L4 (xs : List (List ByteArray)) (i : Int) : (List ByteArray) := xs.getD i.toNat ([] : List ByteArray)
theorem at_L4 {w : World} {A : Option Addr} {n : Nat} {xs : List (List ByteArray)} (h : Kd.C (Kd.slice 9 Kd.string) w A n xs) (i : Int) (h0 : 0 ≤ i) (h1 : i < n) : ∃ ad A0 c0, A = some ad ∧ w.cell? (ad.add i.toNat) = some (.slice A0 (rd_L4 xs i).length c0) ∧ (rd_L4 xs i).length ≤ c0 ∧ Kd.string.C w A0 (rd_L4 xs i).length (rd_L4 xs i) := by
  obtain ⟨ad, c, e, _, hK, hc0⟩ := Kd.C_get h ([] : List ByteArray) i h0 h1
  have hc : ∀ j u, c[j]? = some u → w.cell? (ad.add (i.toNat * 1 + j)) = some u := hc0
  obtain ⟨A0, c0, rfl, l0, g0⟩ := hK
  exact ⟨ad, A0, c0, e, by have hq := hc 0 _ rfl; rwa [Nat.mul_one, Nat.add_zero] at hq, l0, g0⟩

/-! #### struct type 27 -/
structure S27 where
  f0 : Int
  f1 : S23
  f2 : S23
  f3 : S23
  f4 : ByteArray
  f5 : ByteArray
  f6 : S23
  f7 : S23
  f8 : (List S23)
  f9 : Int
  f10 : (List ByteArray)
def z27 : S27 := ⟨(0 : Int), z23, z23, z23, (⟨#[]⟩ : ByteArray), (⟨#[]⟩ : ByteArray), z23, z23, ([] : List S23), (0 : Int), ([] : List ByteArray)⟩
def k27 : Kd S27 := Kd.iso (Kd.pair (Kd.int .i64) (Kd.pair k23 (Kd.pair k23 (Kd.pair k23 (Kd.pair Kd.string (Kd.pair Kd.string (Kd.pair k23 (Kd.pair k23 (Kd.pair (Kd.slice 23 k23) (Kd.pair (Kd.int .i64) (Kd.slice 9 Kd.string))))))))))) (fun x : S27 => (x.f0, x.f1, x.f2, x.f3, x.f4, x.f5, x.f6, x.f7, x.f8, x.f9, x.f10))
theorem k27_open {w : World} {x : S27} {cs : List Value} (h : k27.K w x cs) : ∃ A13 c13 A15 c15, cs = [.int .i64 x.f0, .string x.f1.f0, .int .i64 x.f1.f1, .string x.f2.f0, .int .i64 x.f2.f1, .string x.f3.f0, .int .i64 x.f3.f1, .string x.f4, .string x.f5, .string x.f6.f0, .int .i64 x.f6.f1, .string x.f7.f0, .int .i64 x.f7.f1, .slice A13 x.f8.length c13, .int .i64 x.f9, .slice A15 x.f10.length c15] ∧ x.f8.length ≤ c13 ∧ k23.C w A13 x.f8.length x.f8 ∧ x.f10.length ≤ c15 ∧ Kd.string.C w A15 x.f10.length x.f10 := by
  obtain ⟨_, _, rfl, rfl, ⟨_, _, rfl, s1, ⟨_, _, rfl, s3, ⟨_, _, rfl, s5, ⟨_, _, rfl, rfl, ⟨_, _, rfl, rfl, ⟨_, _, rfl, s9, ⟨_, _, rfl, s11, ⟨_, _, rfl, ⟨A13, c13, rfl, l13, g13⟩, ⟨_, _, rfl, rfl, ⟨A15, c15, rfl, l15, g15⟩⟩⟩⟩⟩⟩⟩⟩⟩⟩⟩ := h
  obtain rfl := k23_open s1
  obtain rfl := k23_open s3
  obtain rfl := k23_open s5
  obtain rfl := k23_open s9
  obtain rfl := k23_open s11
  exact ⟨A13, c13, A15, c15, rfl, l13, g13, l15, g15⟩
theorem k27_openM {w : World} {base : Nat} {ok : Nat → Prop} {x : S27} {cs : List Value} (h : k27.M w base ok x cs) : ∃ v13 v15, cs = [.int .i64 x.f0, .string x.f1.f0, .int .i64 x.f1.f1, .string x.f2.f0, .int .i64 x.f2.f1, .string x.f3.f0, .int .i64 x.f3.f1, .string x.f4, .string x.f5, .string x.f6.f0, .int .i64 x.f6.f1, .string x.f7.f0, .int .i64 x.f7.f1, v13, .int .i64 x.f9, v15] ∧ k23.R 23 w base ok v13 x.f8 ∧ Kd.string.R 9 w base ok v15 x.f10 := by
  obtain ⟨_, _, rfl, rfl, ⟨_, _, rfl, s1, ⟨_, _, rfl, s3, ⟨_, _, rfl, s5, ⟨_, _, rfl, rfl, ⟨_, _, rfl, rfl, ⟨_, _, rfl, s9, ⟨_, _, rfl, s11, ⟨_, _, rfl, ⟨v13, rfl, g13⟩, ⟨_, _, rfl, rfl, ⟨v15, rfl, g15⟩⟩⟩⟩⟩⟩⟩⟩⟩⟩⟩ := h
  obtain rfl := k23_openM s1
  obtain rfl := k23_openM s3
  obtain rfl := k23_openM s5
  obtain rfl := k23_openM s9
  obtain rfl := k23_openM s11
  exact ⟨v13, v15, rfl, g13, g15⟩
theorem k27_mk (w : World) (x : S27) {A13 : Option Addr} {c13 : Nat} (l13 : x.f8.length ≤ c13) (g13 : k23.C w A13 x.f8.length x.f8) {A15 : Option Addr} {c15 : Nat} (l15 : x.f10.length ≤ c15) (g15 : Kd.string.C w A15 x.f10.length x.f10) : k27.K w x [.int .i64 x.f0, .string x.f1.f0, .int .i64 x.f1.f1, .string x.f2.f0, .int .i64 x.f2.f1, .string x.f3.f0, .int .i64 x.f3.f1, .string x.f4, .string x.f5, .string x.f6.f0, .int .i64 x.f6.f1, .string x.f7.f0, .int .i64 x.f7.f1, .slice A13 x.f8.length c13, .int .i64 x.f9, .slice A15 x.f10.length c15] := ⟨[.int .i64 x.f0], [.string x.f1.f0, .int .i64 x.f1.f1, .string x.f2.f0, .int .i64 x.f2.f1, .string x.f3.f0, .int .i64 x.f3.f1, .string x.f4, .string x.f5, .string x.f6.f0, .int .i64 x.f6.f1, .string x.f7.f0, .int .i64 x.f7.f1, .slice A13 x.f8.length c13, .int .i64 x.f9, .slice A15 x.f10.length c15], rfl, rfl, ⟨[.string x.f1.f0, .int .i64 x.f1.f1], [.string x.f2.f0, .int .i64 x.f2.f1, .string x.f3.f0, .int .i64 x.f3.f1, .string x.f4, .string x.f5, .string x.f6.f0, .int .i64 x.f6.f1, .string x.f7.f0, .int .i64 x.f7.f1, .slice A13 x.f8.length c13, .int .i64 x.f9, .slice A15 x.f10.length c15], rfl, (k23_mk w x.f1 ), ⟨[.string x.f2.f0, .int .i64 x.f2.f1], [.string x.f3.f0, .int .i64 x.f3.f1, .string x.f4, .string x.f5, .string x.f6.f0, .int .i64 x.f6.f1, .string x.f7.f0, .int .i64 x.f7.f1, .slice A13 x.f8.length c13, .int .i64 x.f9, .slice A15 x.f10.length c15], rfl, (k23_mk w x.f2 ), ⟨[.string x.f3.f0, .int .i64 x.f3.f1], [.string x.f4, .string x.f5, .string x.f6.f0, .int .i64 x.f6.f1, .string x.f7.f0, .int .i64 x.f7.f1, .slice A13 x.f8.length c13, .int .i64 x.f9, .slice A15 x.f10.length c15], rfl, (k23_mk w x.f3 ), ⟨[.string x.f4], [.string x.f5, .string x.f6.f0, .int .i64 x.f6.f1, .string x.f7.f0, .int .i64 x.f7.f1, .slice A13 x.f8.length c13, .int .i64 x.f9, .slice A15 x.f10.length c15], rfl, rfl, ⟨[.string x.f5], [.string x.f6.f0, .int .i64 x.f6.f1, .string x.f7.f0, .int .i64 x.f7.f1, .slice A13 x.f8.length c13, .int .i64 x.f9, .slice A15 x.f10.length c15], rfl, rfl, ⟨[.string x.f6.f0, .int .i64 x.f6.f1], [.string x.f7.f0, .int .i64 x.f7.f1, .slice A13 x.f8.length c13, .int .i64 x.f9, .slice A15 x.f10.length c15], rfl, (k23_mk w x.f6 ), ⟨[.string x.f7.f0, .int .i64 x.f7.f1], [.slice A13 x.f8.length c13, .int .i64 x.f9, .slice A15 x.f10.length c15], rfl, (k23_mk w x.f7 ), ⟨[.slice A13 x.f8.length c13], [.int .i64 x.f9, .slice A15 x.f10.length c15], rfl, ⟨A13, c13, rfl, l13, g13⟩, ⟨[.int .i64 x.f9], [.slice A15 x.f10.length c15], rfl, rfl, ⟨A15, c15, rfl, l15, g15⟩⟩⟩⟩⟩⟩⟩⟩⟩⟩⟩
theorem k27_mkM (w : World) (base : Nat) (ok : Nat → Prop) (x : S27) {v13 : Value} (g13 : k23.R 23 w base ok v13 x.f8) {v15 : Value} (g15 : Kd.string.R 9 w base ok v15 x.f10) : k27.M w base ok x [.int .i64 x.f0, .string x.f1.f0, .int .i64 x.f1.f1, .string x.f2.f0, .int .i64 x.f2.f1, .string x.f3.f0, .int .i64 x.f3.f1, .string x.f4, .string x.f5, .string x.f6.f0, .int .i64 x.f6.f1, .string x.f7.f0, .int .i64 x.f7.f1, v13, .int .i64 x.f9, v15] := ⟨[.int .i64 x.f0], [.string x.f1.f0, .int .i64 x.f1.f1, .string x.f2.f0, .int .i64 x.f2.f1, .string x.f3.f0, .int .i64 x.f3.f1, .string x.f4, .string x.f5, .string x.f6.f0, .int .i64 x.f6.f1, .string x.f7.f0, .int .i64 x.f7.f1, v13, .int .i64 x.f9, v15], rfl, rfl, ⟨[.string x.f1.f0, .int .i64 x.f1.f1], [.string x.f2.f0, .int .i64 x.f2.f1, .string x.f3.f0, .int .i64 x.f3.f1, .string x.f4, .string x.f5, .string x.f6.f0, .int .i64 x.f6.f1, .string x.f7.f0, .int .i64 x.f7.f1, v13, .int .i64 x.f9, v15], rfl, (k23_mkM w base ok x.f1 ), ⟨[.string x.f2.f0, .int .i64 x.f2.f1], [.string x.f3.f0, .int .i64 x.f3.f1, .string x.f4, .string x.f5, .string x.f6.f0, .int .i64 x.f6.f1, .string x.f7.f0, .int .i64 x.f7.f1, v13, .int .i64 x.f9, v15], rfl, (k23_mkM w base ok x.f2 ), ⟨[.string x.f3.f0, .int .i64 x.f3.f1], [.string x.f4, .string x.f5, .string x.f6.f0, .int .i64 x.f6.f1, .string x.f7.f0, .int .i64 x.f7.f1, v13, .int .i64 x.f9, v15], rfl, (k23_mkM w base ok x.f3 ), ⟨[.string x.f4], [.string x.f5, .string x.f6.f0, .int .i64 x.f6.f1, .string x.f7.f0, .int .i64 x.f7.f1, v13, .int .i64 x.f9, v15], rfl, rfl, ⟨[.string x.f5], [.string x.f6.f0, .int .i64 x.f6.f1, .string x.f7.f0, .int .i64 x.f7.f1, v13, .int .i64 x.f9, v15], rfl, rfl, ⟨[.string x.f6.f0, .int .i64 x.f6.f1], [.string x.f7.f0, .int .i64 x.f7.f1, v13, .int .i64 x.f9, v15], rfl, (k23_mkM w base ok x.f6 ), ⟨[.string x.f7.f0, .int .i64 x.f7.f1], [v13, .int .i64 x.f9, v15], rfl, (k23_mkM w base ok x.f7 ), ⟨[v13], [.int .i64 x.f9, v15], rfl, ⟨v13, rfl, g13⟩, ⟨[.int .i64 x.f9], [v15], rfl, rfl, ⟨v15, rfl, g15⟩⟩⟩⟩⟩⟩⟩⟩⟩⟩⟩
theorem k27_openF {W : World} {ok : Nat → Prop} {x : S27} {cs : List Value} (h : Kd.FK k27 W ok x cs) : ∃ A13 c13 A15 c15, cs = [.int .i64 x.f0, .string x.f1.f0, .int .i64 x.f1.f1, .string x.f2.f0, .int .i64 x.f2.f1, .string x.f3.f0, .int .i64 x.f3.f1, .string x.f4, .string x.f5, .string x.f6.f0, .int .i64 x.f6.f1, .string x.f7.f0, .int .i64 x.f7.f1, .slice A13 x.f8.length c13, .int .i64 x.f9, .slice A15 x.f10.length c15] ∧ x.f8.length ≤ c13 ∧ Kd.F k23 W ok A13 x.f8.length x.f8 ∧ x.f10.length ≤ c15 ∧ Kd.F Kd.string W ok A15 x.f10.length x.f10 := by
  obtain ⟨A13, c13, A15, c15, rfl, l13, _, l15, _⟩ := k27_open (Kd.FK_now h)
  exact ⟨A13, c13, A15, c15, rfl, l13, (fun W' hW => by obtain ⟨A13_, c13_, A15_, c15_, he, l13_, g13_, l15_, g15_⟩ := k27_open (h W' hW); injection (Option.some.inj (show some (Value.slice A13 x.f8.length c13) = some (Value.slice A13_ x.f8.length c13_) from congrArg (fun l => l[13]?) he)) with ha_ _ _; rw [ha_]; exact g13_), l15, (fun W' hW => by obtain ⟨A13_, c13_, A15_, c15_, he, l13_, g13_, l15_, g15_⟩ := k27_open (h W' hW); injection (Option.some.inj (show some (Value.slice A15 x.f10.length c15) = some (Value.slice A15_ x.f10.length c15_) from congrArg (fun l => l[15]?) he)) with ha_ _ _; rw [ha_]; exact g15_)⟩
theorem k27_mkF (W : World) (ok : Nat → Prop) (x : S27) {A13 : Option Addr} {c13 : Nat} (l13 : x.f8.length ≤ c13) (g13 : Kd.F k23 W ok A13 x.f8.length x.f8) {A15 : Option Addr} {c15 : Nat} (l15 : x.f10.length ≤ c15) (g15 : Kd.F Kd.string W ok A15 x.f10.length x.f10) : Kd.FK k27 W ok x [.int .i64 x.f0, .string x.f1.f0, .int .i64 x.f1.f1, .string x.f2.f0, .int .i64 x.f2.f1, .string x.f3.f0, .int .i64 x.f3.f1, .string x.f4, .string x.f5, .string x.f6.f0, .int .i64 x.f6.f1, .string x.f7.f0, .int .i64 x.f7.f1, .slice A13 x.f8.length c13, .int .i64 x.f9, .slice A15 x.f10.length c15] := fun W2 hW => k27_mk W2 x l13 (g13 W2 hW) l15 (g15 W2 hW)
def rd_T27 (xs : List S27) (i : Int) : S27 := xs.getD i.toNat z27
theorem at_T27 {w : World} {A : Option Addr} {n : Nat} {xs : List S27} (h : Kd.C k27 w A n xs) (i : Int) (h0 : 0 ≤ i) (h1 : i < n) : ∃ ad A13 c13 A15 c15, A = some ad ∧ w.cell? (ad.add (i.toNat * 16)) = some (.int .i64 (rd_T27 xs i).f0) ∧ w.cell? ⟨(ad.add (i.toNat * 16)).block, (ad.add (i.toNat * 16)).off + 1, none⟩ = some (.string (rd_T27 xs i).f1.f0) ∧ w.cell? ⟨(ad.add (i.toNat * 16)).block, (ad.add (i.toNat * 16)).off + 2, none⟩ = some (.int .i64 (rd_T27 xs i).f1.f1) ∧ w.cell? ⟨(ad.add (i.toNat * 16)).block, (ad.add (i.toNat * 16)).off + 3, none⟩ = some (.string (rd_T27 xs i).f2.f0) ∧ w.cell? ⟨(ad.add (i.toNat * 16)).block, (ad.add (i.toNat * 16)).off + 4, none⟩ = some (.int .i64 (rd_T27 xs i).f2.f1) ∧ w.cell? ⟨(ad.add (i.toNat * 16)).block, (ad.add (i.toNat * 16)).off + 5, none⟩ = some (.string (rd_T27 xs i).f3.f0) ∧ w.cell? ⟨(ad.add (i.toNat * 16)).block, (ad.add (i.toNat * 16)).off + 6, none⟩ = some (.int .i64 (rd_T27 xs i).f3.f1) ∧ w.cell? ⟨(ad.add (i.toNat * 16)).block, (ad.add (i.toNat * 16)).off + 7, none⟩ = some (.string (rd_T27 xs i).f4) ∧ w.cell? ⟨(ad.add (i.toNat * 16)).block, (ad.add (i.toNat * 16)).off + 8, none⟩ = some (.string (rd_T27 xs i).f5) ∧ w.cell? ⟨(ad.add (i.toNat * 16)).block, (ad.add (i.toNat * 16)).off + 9, none⟩ = some (.string (rd_T27 xs i).f6.f0) ∧ w.cell? ⟨(ad.add (i.toNat * 16)).block, (ad.add (i.toNat * 16)).off + 10, none⟩ = some (.int .i64 (rd_T27 xs i).f6.f1) ∧ w.cell? ⟨(ad.add (i.toNat * 16)).block, (ad.add (i.toNat * 16)).off + 11, none⟩ = some (.string (rd_T27 xs i).f7.f0) ∧ w.cell? ⟨(ad.add (i.toNat * 16)).block, (ad.add (i.toNat * 16)).off + 12, none⟩ = some (.int .i64 (rd_T27 xs i).f7.f1) ∧ w.cell? ⟨(ad.add (i.toNat * 16)).block, (ad.add (i.toNat * 16)).off + 13, none⟩ = some (.slice A13 (rd_T27 xs i).f8.length c13) ∧ w.cell? ⟨(ad.add (i.toNat * 16)).block, (ad.add (i.toNat * 16)).off + 14, none⟩ = some (.int .i64 (rd_T27 xs i).f9) ∧ w.cell? ⟨(ad.add (i.toNat * 16)).block, (ad.add (i.toNat * 16)).off + 15, none⟩ = some (.slice A15 (rd_T27 xs i).f10.length c15) ∧ (rd_T27 xs i).f8.length ≤ c13 ∧ k23.C w A13 (rd_T27 xs i).f8.length (rd_T27 xs i).f8 ∧ (rd_T27 xs i).f10.length ≤ c15 ∧ Kd.string.C w A15 (rd_T27 xs i).f10.length (rd_T27 xs i).f10 := by
  obtain ⟨ad, c, e, _, hK, hc0⟩ := Kd.C_get h z27 i h0 h1
  have hc : ∀ j u, c[j]? = some u → w.cell? (ad.add (i.toNat * 16 + j)) = some u := hc0
  obtain ⟨A13, c13, A15, c15, rfl, l13, g13, l15, g15⟩ := k27_open hK
  exact ⟨ad, A13, c13, A15, c15, e, hc 0 _ rfl, by rw [← add_field _ _ 1 (by omega)]; exact hc 1 _ rfl, by rw [← add_field _ _ 2 (by omega)]; exact hc 2 _ rfl, by rw [← add_field _ _ 3 (by omega)]; exact hc 3 _ rfl, by rw [← add_field _ _ 4 (by omega)]; exact hc 4 _ rfl, by rw [← add_field _ _ 5 (by omega)]; exact hc 5 _ rfl, by rw [← add_field _ _ 6 (by omega)]; exact hc 6 _ rfl, by rw [← add_field _ _ 7 (by omega)]; exact hc 7 _ rfl, by rw [← add_field _ _ 8 (by omega)]; exact hc 8 _ rfl, by rw [← add_field _ _ 9 (by omega)]; exact hc 9 _ rfl, by rw [← add_field _ _ 10 (by omega)]; exact hc 10 _ rfl, by rw [← add_field _ _ 11 (by omega)]; exact hc 11 _ rfl, by rw [← add_field _ _ 12 (by omega)]; exact hc 12 _ rfl, by rw [← add_field _ _ 13 (by omega)]; exact hc 13 _ rfl, by rw [← add_field _ _ 14 (by omega)]; exact hc 14 _ rfl, by rw [← add_field _ _ 15 (by omega)]; exact hc 15 _ rfl, l13, g13, l15, g15⟩

/-! #### struct type 38 -/
structure S38 where
  f0 : S23
  f1 : ByteArray
def z38 : S38 := ⟨z23, (⟨#[]⟩ : ByteArray)⟩
def k38 : Kd S38 := Kd.iso (Kd.pair k23 Kd.string) (fun x : S38 => (x.f0, x.f1))
theorem k38_open {w : World} {x : S38} {cs : List Value} (h : k38.K w x cs) : cs = [.string x.f0.f0, .int .i64 x.f0.f1, .string x.f1] := by
  obtain ⟨_, _, rfl, s0, rfl⟩ := h
  obtain rfl := k23_open s0
  exact rfl
theorem k38_openM {w : World} {base : Nat} {ok : Nat → Prop} {x : S38} {cs : List Value} (h : k38.M w base ok x cs) : cs = [.string x.f0.f0, .int .i64 x.f0.f1, .string x.f1] := by
  obtain ⟨_, _, rfl, s0, rfl⟩ := h
  obtain rfl := k23_openM s0
  exact rfl
theorem k38_mk (w : World) (x : S38)  : k38.K w x [.string x.f0.f0, .int .i64 x.f0.f1, .string x.f1] := ⟨[.string x.f0.f0, .int .i64 x.f0.f1], [.string x.f1], rfl, (k23_mk w x.f0 ), rfl⟩
theorem k38_mkM (w : World) (base : Nat) (ok : Nat → Prop) (x : S38)  : k38.M w base ok x [.string x.f0.f0, .int .i64 x.f0.f1, .string x.f1] := ⟨[.string x.f0.f0, .int .i64 x.f0.f1], [.string x.f1], rfl, (k23_mkM w base ok x.f0 ), rfl⟩
theorem k38_mkF (W : World) (ok : Nat → Prop) (x : S38) : Kd.FK k38 W ok x [.string x.f0.f0, .int .i64 x.f0.f1, .string x.f1] := fun W2 _ => k38_mk W2 x
def rd_T38 (xs : List S38) (i : Int) : S38 := xs.getD i.toNat z38
theorem at_T38 {w : World} {A : Option Addr} {n : Nat} {xs : List S38} (h : Kd.C k38 w A n xs) (i : Int) (h0 : 0 ≤ i) (h1 : i < n) : ∃ ad , A = some ad ∧ w.cell? (ad.add (i.toNat * 3)) = some (.string (rd_T38 xs i).f0.f0) ∧ w.cell? ⟨(ad.add (i.toNat * 3)).block, (ad.add (i.toNat * 3)).off + 1, none⟩ = some (.int .i64 (rd_T38 xs i).f0.f1) ∧ w.cell? ⟨(ad.add (i.toNat * 3)).block, (ad.add (i.toNat * 3)).off + 2, none⟩ = some (.string (rd_T38 xs i).f1) := by
  obtain ⟨ad, c, e, _, hK, hc0⟩ := Kd.C_get h z38 i h0 h1
  have hc : ∀ j u, c[j]? = some u → w.cell? (ad.add (i.toNat * 3 + j)) = some u := hc0
  obtain rfl := k38_open hK
  exact ⟨ad, e, hc 0 _ rfl, by rw [← add_field _ _ 1 (by omega)]; exact hc 1 _ rfl, by rw [← add_field _ _ 2 (by omega)]; exact hc 2 _ rfl⟩

end Go.Proofs.YtmimejckcknjfaaDoor.G
