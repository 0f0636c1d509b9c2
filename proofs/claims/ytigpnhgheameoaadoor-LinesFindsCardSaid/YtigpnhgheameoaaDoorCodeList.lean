/- code.List: the walk of the closure that appends, and of the loop over it. -/
import Derived.Test.YtigpnhgheameoaaDoorG2
import Derived.Test.YtigpnhgheameoaaDoorBase
import Derived.Deep.RegionLaw
import Derived.Outline
set_option linter.unusedVariables false
namespace Go.Proofs.YtigpnhgheameoaaDoor.G
open Go.RowKit Go.Proofs.YtigpnhgheameoaaDoorW.PrintWords Go.Proofs.YtigpnhgheameoaaDoorW.PrintLast Go.Proofs.YtigpnhgheameoaaDoor.Base

def AddPost (w0 : World) (g : Nat) (xs : List Int) (w' : World) : Prop :=
  ∃ v, w'.heap[g]? = some (.cells #[v] 83 (0, 0)) ∧ OwnB w' w0.heap.size 5 v xs ∧ Below w0.heap.size w0 w'

set_option maxRecDepth 100000 in
theorem code_List_add.calls (k : Nat) (s t : ByteArray) (g : Nat) (v : Value) (xs : List Int) (w0 w : World)
    (hg : w.heap[g]? = some (.cells #[v] 83 (0, 0))) (ho : OwnB w w0.heap.size 5 v xs) (hB : Below w0.heap.size w0 w) (hgb : w0.heap.size ≤ g)
    (h : code_Text.f k s = some t) (hl : xs.length + t.size ≤ 140737488355328) :
    Calls Tryd.prog 114 #[.string s, .pointer (some ⟨g, 0, none⟩)] w fun e w' => e = .returned (.tuple #[]) ∧ AddPost w0 g (xs ++ bytesOf t) w' := by
  have hc : w.cell? ⟨g, 0, none⟩ = some v := (blk_cell hg 0).trans rfl
  have hf := blk_frozen hg 0
  have HA := Aside0.mk h
  have HO := Aside0.mk ho
  have HG := Aside0.mk hg
  have HB := Aside0.mk hB
  clear h ho hg hB
  go_enter Tryd.func114, Tryd.ntmps114
  go_wp2
  go_region_law (first | (refine step_append_B w0.heap.size rfl (.tmp 3) (.tmp 5) 83 9 5 rfl Tryd.underlying83 Tryd.underlying9 info5 v xs t (by simp [Act.eval]) (by simp [Act.eval]) HO1.out HS1.out hl ?_; intro v1 w2 ho2 hg2; obtain ⟨A1, c1, rfl⟩ := ho2.slice; have HO2 := Aside0.mk ho2; have HG2 := Aside0.mk (blk_grown HG1.out hg2 (fun e => (HO1.out.typed HG1.out (by decide)) e.symm)); have HB2 := Aside0.mk (HB1.out.grown hg2 HS1.out HO1.out.base_le); have hc2 : w2.cell? ⟨g, 0, none⟩ = some v := (blk_cell HG2.out 0).trans rfl; have hf2 := blk_frozen HG2.out 0; clear ho2 hg2) | (go_simp; go_at_call 115; refine (code_Text.calls k s t _ HA.out).mono ?_; rintro e w1 ⟨rfl, hb1⟩; have HO1 := Aside0.mk (HO.out.drew.below hb1); have HG1 := Aside0.mk (blk_grown (blk_drew HG.out) (grown_of_below hb1 none) (by simp)); have HB1 := Aside0.mk (below_then (below_drew HB.out) (by simpa using HB.out.size) hb1); have HS1 := Aside0.mk HB1.out.size; have hc1 : w1.cell? ⟨g, 0, none⟩ = some v := (blk_cell HG1.out 0).trans rfl; have hf1 := blk_frozen HG1.out 0; clear hb1))
  all_goals
    go_wp2
    go_end0
    exact ⟨rfl, _, by simpa using blk_set HG2.out 0 _, HO2.out.setCell HG2.out (by decide) 0 _, below_set HB2.out hgb⟩

def code_List.go (k : Nat) : List ByteArray → List Int → Option ByteArray
  | [], out => some (strOfNums out)
  | s :: l, out => (code_Text.f k s).bind fun t => if out.length + t.size ≤ 140737488355328 then code_List.go k l (out ++ bytesOf t) else none
def code_List.f (k : Nat) (l0 : List ByteArray) : Option ByteArray := (code_Num.f k (IntKind.u64.wrap (l0.length : Int))).bind fun h => if h.size ≤ 9223372036854775807 then code_List.go k l0 (bytesOf h) else none
set_option maxRecDepth 100000 in
theorem code_List.go_mono (k : Nat) : ∀ (l : List ByteArray) (out : List Int), LeO (code_List.go k l out) (code_List.go (k + 1) l out)
  | [], out => LeO.refl _
  | s :: l, out => by
    unfold code_List.go
    refine LeO.bind (code_Text.mono _ _) fun t => ?_
    exact LeO.ite (code_List.go_mono k l _) (LeO.refl _)
set_option maxRecDepth 100000 in
theorem code_List.mono : ∀ a0 k, LeO (code_List.f k a0) (code_List.f (k + 1) a0) := by
  intro a0 k
  unfold code_List.f
  exact LeO.bind (code_Num.mono _ _) fun t => LeO.ite (code_List.go_mono k _ _) (LeO.refl _)

set_option maxRecDepth 100000 in
theorem code_List.calls (k : Nat) (A0 : Option Addr) (c0 : Nat) (l0 : List ByteArray) (r : ByteArray) (w : World) (hr0 : Kd.C Kd.string w A0 l0.length l0) (hc0 : l0.length ≤ c0) (h : code_List.f k l0 = some r) :
    Calls Tryd.prog 76 #[.slice A0 l0.length c0] w fun e w' => e = .returned (.string r) ∧ Below w.heap.size w w' := by
  have HR0 := Aside0.mk hr0
  have HC0 := Aside0.mk hc0
  clear hr0 hc0
  obtain ⟨hd, hn, hgo0⟩ := Option.bind_eq_some_iff.mp h
  clear h
  obtain ⟨hsz, hgo⟩ : hd.size ≤ 9223372036854775807 ∧ code_List.go k l0 (bytesOf hd) = some r := by
    by_cases c : hd.size ≤ 9223372036854775807
    · exact ⟨c, by simpa [c] using hgo0⟩
    · simp [c] at hgo0
  clear hgo0
  have HN := Aside0.mk hn
  have HG := Aside0.mk hgo
  clear hn hgo
  have hcv := fun (s : ByteArray) (W : World) => print_bytes (P := Tryd.prog) 9 83 5 Tryd.underlying9 Tryd.underlying83 Tryd.underlying5 s W
  go_enter Tryd.func76, Tryd.ntmps76
  go_wp2_with (first | (go_at_call 113; refine (code_Num.calls k _ hd _ HN.out).mono ?_; rintro e w1 ⟨rfl, hb1⟩; have HB1 := Aside0.mk hb1; clear hb1))
  have HP : Aside0 (AddPost w (Lib.bytesWorld w1 5 hd).heap.size (bytesOf hd) ((Lib.bytesWorld w1 5 hd).alloc (.cells #[.slice (some ⟨w1.heap.size, 0, none⟩) hd.size (grownCap w1 hd.size 0 5)] 83))) :=
    ⟨_, by simpa using heap_alloc_new (Lib.bytesWorld w1 5 hd) _, (OwnB.bytes w1 w.heap.size 5 hd HB1.out.size hsz).alloc _, (bytes_below HB1.out HB1.out.size 5 hd).alloc (by rw [Lib.bytesWorld_size]; have := HB1.out.size; omega) _⟩
  have HGE : Aside0 (w.heap.size ≤ (Lib.bytesWorld w1 5 hd).heap.size) := ⟨by rw [Lib.bytesWorld_size]; have := HB1.out.size; omega⟩
  clear hcv
  go_loopg [15] l0.length (fun gk v15 w' => ∃ (i : Nat) (xs : List Int), v15 = .int .i64 i ∧ Aside0 (i + gk = l0.length) ∧ Aside0 (AddPost w (Lib.bytesWorld w1 5 hd).heap.size xs w') ∧ Aside0 (code_List.go k (l0.drop i) xs = some r))
  case atStart => exact ⟨0, bytesOf hd, rfl, ⟨by omega⟩, HP, by simpa using HG⟩
  case round =>
    clear HG HP HN
    obtain ⟨i, xs, rfl, HI, HP, HG⟩ := hrel
    obtain ⟨v, hb, ho, hB⟩ := HP.out
    clear HP
    have HO := Aside0.mk ho
    have HB := Aside0.mk hB
    have HK := Aside0.mk hb
    clear ho hB hb
    by_cases hi : i < l0.length
    · have hd0 : l0.drop i = l0[i] :: l0.drop (i + 1) := List.drop_eq_getElem_cons hi
      have H := HG.out
      clear HG
      rw [hd0] at H
      obtain ⟨t, ht, H⟩ := Option.bind_eq_some_iff.mp H
      have hl : xs.length + t.size ≤ 140737488355328 := by
        by_cases hl : xs.length + t.size ≤ 140737488355328
        · exact hl
        · simp [hl] at H
      replace H : code_List.go k (l0.drop (i + 1)) (xs ++ bytesOf t) = some r := by simpa [hl] using H
      have HG := Aside0.mk H
      have HT := Aside0.mk ht
      have HL := Aside0.mk hl
      clear H ht hl hd0
      obtain ⟨ad, e0, hx⟩ := Kd.at_string HR0.out (i : Int) (by omega) (by omega)
      cases e0
      replace hx := (HB.out.cell (World.block_lt_of_cell? w _ hx)).trans hx
      have e1 : rdOf ByteArray.empty l0 (i : Int) = l0[i] := by simp [rdOf, hi]
      rw [e1, Int.toNat_natCast] at hx
      have e2 := Aside0.mk e1
      clear e1
      have hi' : (i : Int) < (l0.length : Int) := by omega
      have hm := Kd.C_max HR0.out
      go_wp2_with (first | (go_at_call 114; refine (code_List_add.calls k l0[i] t _ v xs w _ HK.out HO.out HB.out HGE.out HT.out HL.out).mono ?_; rintro e w2 ⟨rfl, hp⟩; have HP := Aside0.mk hp; clear hp))
      go_roundg (gk - 1)
      case measure => have := HI.out; omega
      case rel => exact ⟨i + 1, xs ++ bytesOf t, by go_num, ⟨by have := HI.out; omega⟩, HP, HG⟩
    · have hge : l0.length ≤ i := by omega
      have H := HG.out
      clear HG
      rw [List.drop_eq_nil_of_le hge] at H
      obtain rfl := Option.some.inj H
      have hcv := OwnB.string (P := Tryd.prog) (src := 83) (dst := 9) Tryd.underlying83 Tryd.underlying5 Tryd.underlying9 HO.out
      have hc : wr.cell? ⟨(Lib.bytesWorld w1 5 hd).heap.size, 0, none⟩ = some v := (blk_cell HK.out 0).trans rfl
      obtain ⟨A1, c1, hv⟩ := HO.out.slice
      subst hv
      go_wp2
      go_ret
      exact ⟨rfl, HB.out⟩

end Go.Proofs.YtigpnhgheameoaaDoor.G
