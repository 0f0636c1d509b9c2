/- reply's reader of words: the next word (its row is cut by one). -/
import Derived.Laws.BitsAllLaws
import Derived.Test.YtloibeefopdhpaaDoorG11
import Derived.Deep.RegionLaw
import Derived.Outline
set_option linter.unusedVariables false
namespace Go.Proofs.YtloibeefopdhpaaDoor.Plain
open Go.RowKit Go.Proofs.YtloibeefopdhpaaDoorW.PrintWords Go.Proofs.YtloibeefopdhpaaDoorW.PrintLast Go.Proofs.YtloibeefopdhpaaDoorW.PrintMore
def B (l : List UInt8) : ByteArray := ⟨l.toArray⟩
@[simp] theorem toList_B (l : List UInt8) : (B l).toList = l := ByteArray.toList_mk l
theorem ext_toList {a b : ByteArray} (h : a.toList = b.toList) : a = b := by
  rw [ByteArray.toList_eq, ByteArray.toList_eq] at h
  exact ByteArray.ext (Array.toList_inj.1 h)
@[simp] theorem B_toList (s : ByteArray) : B s.toList = s := ext_toList (by simp)
theorem toList_length (s : ByteArray) : s.toList.length = s.size := by rw [ByteArray.toList_eq, Array.length_toList]; rfl
@[simp] theorem size_B (l : List UInt8) : (B l).size = l.length := by rw [← toList_length]; simp
theorem toList_append (a b : ByteArray) : (a ++ b).toList = a.toList ++ b.toList := by simp [ByteArray.toList_eq, ByteArray.data_append]
theorem B_append (a b : List UInt8) : B a ++ B b = B (a ++ b) := ext_toList (by simp [toList_append])
theorem toList_extract (s : ByteArray) (i j : Nat) : (s.extract i j).toList = (s.toList.take j).drop i := by
  simp [ByteArray.toList_eq, ByteArray.data_extract, List.drop_take]
theorem extract_drop (s : ByteArray) (i : Nat) : s.extract i s.size = B (s.toList.drop i) :=
  ext_toList (by rw [toList_extract, toList_B, ← toList_length, List.take_length])
theorem extract_take (s : ByteArray) (i : Nat) : s.extract 0 i = B (s.toList.take i) := ext_toList (by rw [toList_extract, toList_B, List.drop_zero])
theorem extract_mid (s : ByteArray) (i j : Nat) : s.extract i j = B ((s.toList.drop i).take (j - i)) := ext_toList (by rw [toList_extract, toList_B, List.drop_take])
theorem bt_eq (s : ByteArray) (i : Int) : bt s i = ((s.toList.getD i.toNat 0).toNat : Int) := by
  unfold bt
  by_cases h : i.toNat < s.size
  · rw [dif_pos h, ByteArray.toList_eq]
    have : s.data.toList.getD i.toNat 0 = s[i.toNat] := by
      have h' : i.toNat < s.data.size := h
      rw [List.getD_eq_getElem?_getD, Array.getElem?_toList, Array.getElem?_eq_getElem h']
      rfl
    rw [this]
  · rw [dif_neg h]
    have : s.toList.getD i.toNat 0 = 0 := by
      rw [List.getD_eq_getElem?_getD, List.getElem?_eq_none (by rw [toList_length]; omega)]
      rfl
    rw [this]
    rfl
theorem bt_cons {s : ByteArray} {i : Nat} {c : UInt8} {t : List UInt8} (h : s.toList.drop i = c :: t) : bt s (i : Int) = (c.toNat : Int) := by
  rw [bt_eq, Int.toNat_natCast]
  have : s.toList[i]? = some c := by
    have := congrArg (fun l => l[0]?) h
    simpa using this
  rw [List.getD_eq_getElem?_getD, this]
  rfl
theorem drop_lt {s : ByteArray} {i : Nat} {c : UInt8} {t : List UInt8} (h : s.toList.drop i = c :: t) : i < s.size := by
  rw [← toList_length]
  rcases Nat.lt_or_ge i s.toList.length with h' | h'
  · exact h'
  · rw [List.drop_eq_nil_of_le h'] at h; cases h
theorem drop_succ {s : ByteArray} {i : Nat} {c : UInt8} {t : List UInt8} (h : s.toList.drop i = c :: t) : s.toList.drop (i + 1) = t := by
  rw [← List.drop_drop, h]
  rfl
theorem drop_nil {s : ByteArray} {i : Nat} (h : s.toList.drop i = []) : s.size ≤ i := by rw [← toList_length]; exact List.drop_eq_nil_iff.1 h
theorem strOfNums_toList (xs : List Int) : (strOfNums xs).toList = xs.map fun n => UInt8.ofNat n.toNat := by rw [ByteArray.toList_eq, strOfNums_data]
theorem strOfNums_B (xs : List Int) : strOfNums xs = B (xs.map fun n => UInt8.ofNat n.toNat) := ext_toList (by rw [strOfNums_toList, toList_B])
theorem strOfNums_bytesOf (l : List UInt8) : strOfNums (l.map fun b => (b.toNat : Int)) = B l := by
  rw [strOfNums_B, List.map_map]
  congr 1
  rw [show ((fun n : Int => UInt8.ofNat n.toNat) ∘ fun b : UInt8 => (b.toNat : Int)) = id from ?_, List.map_id]
  funext b
  simp
theorem wrap64_in {n : Int} (h0 : -9223372036854775808 ≤ n) (h1 : n ≤ 9223372036854775807) : wrap64 n = n := by unfold wrap64; omega
theorem u64_in {n : Int} (h0 : 0 ≤ n) (h1 : n < 18446744073709551616) : IntKind.u64.wrap n = n := by rw [IntKind.wrap_u64]; omega
theorem Ev.pos {α : Type} {c : Prop} [Decidable c] {g f : Nat → Option α} {r : α} (h : c) (k : Ev g r) : Ev (fun n => if c then g n else f n) r := Ev.congr (fun n => if_pos h) k
theorem Ev.neg {α : Type} {c : Prop} [Decidable c] {g f : Nat → Option α} {r : α} (h : ¬ c) (k : Ev f r) : Ev (fun n => if c then g n else f n) r := Ev.congr (fun n => if_neg h) k
theorem Ev.bind_now {α β : Type} {f : Nat → α → Option β} {a : α} {r : β} (k : Ev (fun n => f n a) r) : Ev (fun n => (some a).bind (f n)) r := Ev.congr (fun n => rfl) k
end Go.Proofs.YtloibeefopdhpaaDoor.Plain
set_option linter.unusedVariables false
namespace Go.Proofs.YtloibeefopdhpaaDoor.G
open Go.RowKit Go.Proofs.YtloibeefopdhpaaDoorW.PrintWords Go.Proofs.YtloibeefopdhpaaDoorW.PrintLast Go.Proofs.YtloibeefopdhpaaDoorW.PrintMore Go.Proofs.YtloibeefopdhpaaDoor.Plain

def reply_reader_word.f (l : List ByteArray) (b : Bool) : Option (ByteArray × List ByteArray × Bool) :=
  match l with
  | [] => some (⟨#[]⟩, [], true)
  | s :: l => some (s, l, b)

set_option maxHeartbeats 2000000 in
set_option maxRecDepth 100000 in
theorem reply_reader_word.calls (g : Nat) (s0_0 : List ByteArray) (s0_1 : Bool) (r1 : ByteArray) (r2 : List ByteArray) (r3 : Bool) (w0 w : World) (hI : IsS115 w0 w g s0_0 s0_1) (hB : Below w0.heap.size w0 w) (h : reply_reader_word.f s0_0 s0_1 = some (r1, r2, r3)) :
    Calls Tryd.prog 118 #[.pointer (some ⟨g, 0, none⟩)] w fun e w' => e = .returned (.string r1) ∧ IsS115 w0 w' g r2 r3 ∧ Below w0.heap.size w0 w' ∧ KeepBut w w' g none := by
  obtain ⟨A, c, hg, hge, hr⟩ := hI
  have hlt := blk_lt hg
  have hd0 : w.cell? ⟨g, 0, none⟩ = some (.slice A s0_0.length c) := (blk_cell hg 0).trans rfl
  have hd1 : w.cell? ⟨g, 1, none⟩ = some (.bool s0_1) := (blk_cell hg 1).trans rfl
  have hf0 := blk_frozen hg 0
  have hf1 := blk_frozen hg 1
  have HG := Aside0.mk hg
  have HB := Aside0.mk hB
  have HE := Aside0.mk hge
  cases s0_0 with
  | nil =>
    injection h with h
    simp only [Prod.mk.injEq] at h
    obtain ⟨rfl, rfl, rfl⟩ := h
    have HR := Aside0.mk hr
    clear hg hB hge hr hlt
    go_enter Tryd.func118, Tryd.ntmps118
    go_wp2
    go_ret
    exact ⟨rfl, ⟨A, c, by simpa using blk_set HG.out 1 (.bool true), HE.out, HR.out⟩, below_set HB.out HE.out, (KeepBut.refl w g none).set_ 1 _⟩
  | cons s l =>
    injection h with h
    simp only [Prod.mk.injEq] at h
    obtain ⟨rfl, rfl, rfl⟩ := h
    obtain ⟨hlc, hr⟩ := hr
    have hm := Kd.C_max hr
    simp only [List.length_cons] at hlc hm
    obtain ⟨ad, rfl, hx⟩ := Kd.at_string hr 0 (by omega) (by simp only [List.length_cons]; omega)
    replace hx := (hB.cell (World.block_lt_of_cell? w0 _ hx)).trans hx
    rw [show rdOf ByteArray.empty (s :: l) 0 = s from rfl, show ad.add (0 : Int).toNat = ad from by obtain ⟨b, o, sp⟩ := ad; cases sp <;> simp [Addr.add]] at hx
    have hr2 := Kd.C_drop (c := c) (m := 1) hr (by simp only [List.length_cons]; omega) (by simp only [List.length_cons]; omega)
    obtain ⟨i0, hi0, _, hsz, _⟩ := info_parts info9
    obtain ⟨A', hcut, hA⟩ : ∃ A', (∀ W : World, (Instr.slice 28 (.slice (some ad) (l.length + 1) c) (some (.int .i64 1)) none none).run Tryd.prog W = .ok (.slice A' l.length (c - 1)) W) ∧ Kd.C Kd.string w0 A' l.length l := by
      refine ⟨_, fun W => ?_, hr2⟩
      have h1 := cut_from (P := Tryd.prog) 28 9 .i64 Tryd.underlying28 hi0 1 hsz (some ad) (l.length + 1) c 1 (by omega) (by omega) W
      exact h1
    have HR := Aside0.mk hA
    have hpos : (0 : Int) < ((l.length : Int) + 1) := by omega
    have HL := Aside0.mk (show l.length ≤ c - 1 by omega)
    clear hg hB hge hlt hr hr2 hA hi0 hsz hlc
    rw [List.length_cons] at hd0
    go_enter Tryd.func118, Tryd.ntmps118
    go_wp2
    go_ret
    exact ⟨rfl, ⟨A', c - 1, by simpa using blk_set HG.out 0 (.slice A' l.length (c - 1)), HE.out, HL.out, HR.out⟩, below_set HB.out HE.out, (KeepBut.refl w g none).set_ 0 _⟩

end Go.Proofs.YtloibeefopdhpaaDoor.G
