/- reply's reader of words: the next word (its row is cut by one). -/
import Derived.Test.YtloibeefopdhpaaDoorG11
import Derived.Test.YtloibeefopdhpaaDoorBytes
import Derived.Deep.RegionLaw
import Derived.Outline
set_option linter.unusedVariables false
namespace Go.Proofs.YtloibeefopdhpaaDoor.G
open Go.RowKit Go.Proofs.YtloibeefopdhpaaDoorW.PrintWords Go.Proofs.YtloibeefopdhpaaDoorW.PrintLast Go.Proofs.YtloibeefopdhpaaDoorW.PrintMore Go.Proofs.YtloibeefopdhpaaDoor.Plain

def reply_reader_word.f (l : List ByteArray) (b : Bool) : Option (ByteArray × List ByteArray × Bool) :=
  match l with
  | [] => some (⟨#[]⟩, [], true)
  | s :: l => some (s, l, b)

set_option maxHeartbeats 2000000 in
set_option maxRecDepth 100000 in
theorem reply_reader_word.calls (g : Nat) (s0_0 : List ByteArray) (s0_1 : Bool) (r1 : ByteArray) (r2 : List ByteArray) (r3 : Bool) (w0 w : World) (hI : IsS115 w0 w g s0_0 s0_1) (hB : Below w0.heap.size w0 w) (h : reply_reader_word.f s0_0 s0_1 = some (r1, r2, r3)) :
    Calls Tryd.prog 118 #[.pointer (some ⟨g, 0, none⟩)] w fun e w' => e = .returned (.string r1) ∧ IsS115 w0 w' g r2 r3 ∧ Below w0.heap.size w0 w' ∧ KeepBut w w' g none := by
  obtain ⟨A, c, hg, hge, hr⟩ := hI
  have hlt := blk_lt hg
  have hd0 : w.cell? ⟨g, 0, none⟩ = some (.slice A s0_0.length c) := (blk_cell hg 0).trans rfl
  have hd1 : w.cell? ⟨g, 1, none⟩ = some (.bool s0_1) := (blk_cell hg 1).trans rfl
  have hf0 := blk_frozen hg 0
  have hf1 := blk_frozen hg 1
  have HG := Aside0.mk hg
  have HB := Aside0.mk hB
  have HE := Aside0.mk hge
  cases s0_0 with
  | nil =>
    injection h with h
    simp only [Prod.mk.injEq] at h
    obtain ⟨rfl, rfl, rfl⟩ := h
    have HR := Aside0.mk hr
    clear hg hB hge hr hlt
    go_enter Tryd.func118, Tryd.ntmps118
    go_wp2
    go_ret
    exact ⟨rfl, ⟨A, c, by simpa using blk_set HG.out 1 (.bool true), HE.out, HR.out⟩, below_set HB.out HE.out, (KeepBut.refl w g none).set_ 1 _⟩
  | cons s l =>
    injection h with h
    simp only [Prod.mk.injEq] at h
    obtain ⟨rfl, rfl, rfl⟩ := h
    obtain ⟨hlc, hr⟩ := hr
    have hm := Kd.C_max hr
    simp only [List.length_cons] at hlc hm
    obtain ⟨ad, rfl, hx⟩ := Kd.at_string hr 0 (by omega) (by simp only [List.length_cons]; omega)
    replace hx := (hB.cell (World.block_lt_of_cell? w0 _ hx)).trans hx
    rw [show rdOf ByteArray.empty (s :: l) 0 = s from rfl, show ad.add (0 : Int).toNat = ad from by obtain ⟨b, o, sp⟩ := ad; cases sp <;> simp [Addr.add]] at hx
    have hr2 := Kd.C_drop (c := c) (m := 1) hr (by simp only [List.length_cons]; omega) (by simp only [List.length_cons]; omega)
    obtain ⟨i0, hi0, _, hsz, _⟩ := info_parts info9
    obtain ⟨A', hcut, hA⟩ : ∃ A', (∀ W : World, (Instr.slice 28 (.slice (some ad) (l.length + 1) c) (some (.int .i64 1)) none none).run Tryd.prog W = .ok (.slice A' l.length (c - 1)) W) ∧ Kd.C Kd.string w0 A' l.length l := by
      refine ⟨_, fun W => ?_, hr2⟩
      have h1 := cut_from (P := Tryd.prog) 28 9 .i64 Tryd.underlying28 hi0 1 hsz (some ad) (l.length + 1) c 1 (by omega) (by omega) W
      exact h1
    have HR := Aside0.mk hA
    have hpos : (0 : Int) < ((l.length : Int) + 1) := by omega
    have HL := Aside0.mk (show l.length ≤ c - 1 by omega)
    clear hg hB hge hlt hr hr2 hA hi0 hsz hlc
    rw [List.length_cons] at hd0
    go_enter Tryd.func118, Tryd.ntmps118
    go_wp2
    go_ret
    exact ⟨rfl, ⟨A', c - 1, by simpa using blk_set HG.out 0 (.slice A' l.length (c - 1)), HE.out, HL.out, HR.out⟩, below_set HB.out HE.out, (KeepBut.refl w g none).set_ 0 _⟩

end Go.Proofs.YtloibeefopdhpaaDoor.G
