/- The reference's line of a step: the walk, by hand (printed by wip/tools/gen_line35.py). -/
import Derived.Test.YtloibeefopdhpaaDoorG20
import Derived.Outline
set_option linter.unusedVariables false
set_option linter.unusedSimpArgs false
namespace Go.Proofs.YtloibeefopdhpaaDoor.G
open Go.RowKit Go.Proofs.YtloibeefopdhpaaDoorW.PrintWords Go.Proofs.YtloibeefopdhpaaDoorW.PrintLast Go.Proofs.YtloibeefopdhpaaDoorW.PrintMore

theorem R_strs2 {W : World} {base : Nat} (hb : base ≤ W.heap.size) (O : Obj) (xs : List ByteArray) (hx : xs.length ≤ 9223372036854775807) : Kd.R Kd.string 9 ((W.alloc O).alloc (.cells (xs.map Value.string).toArray 9)) base (fun _ => True) (.slice (some ⟨W.heap.size + 1, 0, none⟩) xs.length xs.length) xs := by
  have e : (W.alloc O).heap.size = W.heap.size + 1 := by simp
  have h := R_strs (W := W.alloc O) (base := base) (by omega) xs hx
  rw [e] at h
  exact h
theorem bq {α : Type} [BEq α] (a b : α) : ((a == b) = true ∧ (a != b) = false) ∨ ((a == b) = false ∧ (a != b) = true) := by
  cases h : a == b with
  | true => exact .inl ⟨rfl, by rw [bne, h]; rfl⟩
  | false => exact .inr ⟨rfl, by rw [bne, h]; rfl⟩
def lineV (a0_0 : Int) (a0_1 : ByteArray) : Option (List ByteArray) := some [rdOf ByteArray.empty [(⟨#[105, 110, 105, 116]⟩ : ByteArray), (⟨#[]⟩ : ByteArray), (⟨#[108, 111, 103]⟩ : ByteArray), (⟨#[110, 101, 119]⟩ : ByteArray), (⟨#[99, 111, 110, 102, 108, 105, 99, 116, 115]⟩ : ByteArray), (⟨#[115, 104, 111, 119]⟩ : ByteArray), (⟨#[99, 104, 101, 99, 107]⟩ : ByteArray)] a0_0, a0_1]
def rafterref35_Line.f (k : Nat) (a0_0 : Int) (a0_1 a0_2 : ByteArray) (a0_3 : Int) (a0_4 : ByteArray) (l0_5 : List ByteArray) (a0_6 : Int) (a0_7 a0_8 : ByteArray) (l0_9 : List ByteArray) : Option (List ByteArray) :=
  (rafterref35_none.f a0_6 a0_7 a0_8 l0_9).bind fun z => if ((a0_0 == 1) && (a0_3 == 3) && (a0_4.toList == ([] : List UInt8)) && z && (a0_6 == 0)) = true then (if 3 + l0_5.length < 8796093022208 then some ([(⟨#[112, 117, 108, 108]⟩ : ByteArray), a0_1, a0_2] ++ l0_5) else none)
    else if ((a0_2.toList != ([] : List UInt8))) = true then some []
    else if ((a0_0 == 1) && (a0_3 == 0) && (a0_4.toList == ([] : List UInt8)) && ((l0_5.length : Int) == 0)) = true then rafterref35_edit.f k a0_1 a0_6 a0_7 a0_8 l0_9
    else if ((!z) || (a0_6 != 0)) = true then some []
    else if ((a0_0 == 1) && (a0_3 == 4) && (a0_4.toList == ([] : List UInt8))) = true then (if 2 + l0_5.length < 8796093022208 then some ([(⟨#[117, 110, 112, 117, 108, 108]⟩ : ByteArray), a0_1] ++ l0_5) else none)
    else if ((decide ((l0_5.length : Int) > 0))) = true then some []
    else if ((a0_0 == 1) && (a0_3 == 1)) = true then some [(⟨#[114, 101, 99, 111, 114, 100]⟩ : ByteArray), a0_1, a0_4]
    else if ((a0_0 == 1) && (a0_3 == 2)) = true then some [(⟨#[117, 110, 114, 101, 99, 111, 114, 100]⟩ : ByteArray), a0_1, a0_4]
    else if ((a0_4.toList != ([] : List UInt8))) = true then some []
    else if ((a0_0 == 1) && (a0_3 == 5)) = true then some [(⟨#[114, 101, 118, 101, 114, 116]⟩ : ByteArray), a0_1]
    else if ((a0_0 == 1) && (a0_3 == 6)) = true then some [(⟨#[114, 101, 115, 111, 108, 118, 101]⟩ : ByteArray), a0_1]
    else if ((a0_0 == 1) || (a0_3 != 0) || (decide (a0_0 < 0)) || (decide (a0_0 > 7))) = true then some []
    else if ((a0_0 == 7) && (a0_1.toList == ([] : List UInt8))) = true then some [(⟨#[112, 111, 119, 101, 114]⟩ : ByteArray)]
    else if ((a0_0 == 7)) = true then some []
    else lineV a0_0 a0_1
/-- A function's code, and parts of it by their place. -/
def cp (f : Func) : Code := match f.body with | some c => c | none => .skip
def cl : Code → Code
  | .seq a _ | .cond _ a _ | .loop a | .block _ a | .scope a => a
  | c => c
def cr : Code → Code
  | .seq _ b | .cond _ _ b => b
  | c => c
/-! ### rafterref35_Line -/
theorem rafterref35_Line.mono : ∀ a0 a1 a2 a3 a4 a5 a6 a7 a8 a9 k, LeO (rafterref35_Line.f k a0 a1 a2 a3 a4 a5 a6 a7 a8 a9) (rafterref35_Line.f (k + 1) a0 a1 a2 a3 a4 a5 a6 a7 a8 a9) := by
  intro a0 a1 a2 a3 a4 a5 a6 a7 a8 a9 k
  unfold rafterref35_Line.f
  refine LeO.bind (LeO.refl _) fun z => ?_
  repeat' first | exact LeO.refl _ | exact rafterref35_edit.mono _ _ _ _ _ _ | refine LeO.ite ?_ ?_

set_option maxHeartbeats 8000000 in
set_option maxRecDepth 100000 in
theorem rafterref35_Line.part21 {a0_0 : Int}
  {a0_1 a0_2 : ByteArray}
  {a0_3 : Int}
  {a0_4 : ByteArray}
  {A0_5 : Option Addr}
  {c0_5 : Nat}
  {l0_5 : List ByteArray}
  {a0_6 : Int}
  {a0_7 a0_8 : ByteArray}
  {A0_9 : Option Addr}
  {c0_9 : Nat}
  {l0_9 r : List ByteArray}
  {w : World}
  {wc : World}
  {u6 u7 u8 u9 u10 u11 u12 u13 u14 u15 u16 u17 u18 u19 u20 u21 u22 u23 u24 u25 u26 u27 u28 u29 u30 u31 u32 u33 u34 u35 u36 u37 u38 u39 u40 u41 u42 u43 u44 u45 u46 u47 u48 u49 u50 u51 u52 u53 u54 u55 u56 u57 u58 u59 u60 u61 u62 u63 u64 u65 u66 u67 u68 u69 u70 u71 u72 u73 u74 u75 u76 u77 u78 u79 u80 u81 u82 u83 u84 u85 u86 u87 u88 u89 u90 u91 u92 u93 u94 u95 u96 u97 u98 u99 u100 u101 u102 u103 u104 u105 u106 u107 u108 u109 u110 u111 u112 u113 u114 u115 u116 u117 u119 u120 u121 u122 u126 u127 u128 u129 u130 u131 u132 u133 u134 u135 u136 u137 u138 u139 u140 u141 u142 u143 u144 u145 u146 u147 u148 u149 u150 u151 u152 u153 u154 u155 u156 u157 u158 u159 u160 u161 u162 u163 u164 u165 u166 u167 u168 u169 u170 u171 u172 u173 u174 u175 u176 u177 u178 u179 u180 u181 u182 : Value}
  (HB : Aside0 (Below w.heap.size w wc))
  (HX : Aside0 (wc.heap[w.heap.size]? = some (Obj.cells #[Value.int IntKind.i64 a0_0, Value.string a0_1, Value.string a0_2, Value.int IntKind.i64 a0_3, Value.string a0_4, Value.slice A0_5 l0_5.length c0_5, Value.int IntKind.i64 a0_6, Value.string a0_7, Value.string a0_8, Value.slice A0_9 l0_9.length c0_9] 34)))
  (HC : Aside0 (wc.heap[w.heap.size + 1]? = some (Obj.cells #[Value.int IntKind.i64 a0_3, Value.string a0_4, Value.slice A0_5 l0_5.length c0_5, Value.int IntKind.i64 a0_6, Value.string a0_7, Value.string a0_8, Value.slice A0_9 l0_9.length c0_9] 32)))
  (h : (if (a0_0 == 1 && a0_3 == 5) = true then some [{ data := #[114, 101, 118, 101, 114, 116] }, a0_1] else if (a0_0 == 1 && a0_3 == 6) = true then some [{ data := #[114, 101, 115, 111, 108, 118, 101] }, a0_1] else if (a0_0 == 1 || a0_3 != 0 || decide (a0_0 < 0) || decide (a0_0 > 7)) = true then some [] else if (a0_0 == 7 && a0_1.toList == []) = true then some [{ data := #[112, 111, 119, 101, 114] }] else if (a0_0 == 7) = true then some [] else lineV a0_0 a0_1) = some r)
  (hd : (a0_4.toList == []) = true)
  (hb : (a0_4.toList != []) = false)
  (x0 : wc.cell? { block := w.heap.size, off := 0 } = some (Value.int IntKind.i64 a0_0))
  (x1 : wc.cell? { block := w.heap.size, off := 1 } = some (Value.string a0_1))
  (x2 : wc.cell? { block := w.heap.size, off := 2 } = some (Value.string a0_2))
  (x3 : wc.cell? { block := w.heap.size, off := 3 } = some (Value.int IntKind.i64 a0_3))
  (x4 : wc.cell? { block := w.heap.size, off := 4 } = some (Value.string a0_4))
  (x5 : wc.cell? { block := w.heap.size, off := 5 } = some (Value.slice A0_5 l0_5.length c0_5))
  (x6 : wc.cell? { block := w.heap.size, off := 6 } = some (Value.int IntKind.i64 a0_6))
  (x7 : wc.cell? { block := w.heap.size, off := 7 } = some (Value.string a0_7))
  (x8 : wc.cell? { block := w.heap.size, off := 8 } = some (Value.string a0_8))
  (x9 : wc.cell? { block := w.heap.size, off := 9 } = some (Value.slice A0_9 l0_9.length c0_9))
  (y0 : wc.cell? { block := w.heap.size + 1, off := 0 } = some (Value.int IntKind.i64 a0_3))
  (y1 : wc.cell? { block := w.heap.size + 1, off := 1 } = some (Value.string a0_4))
  (y2 : wc.cell? { block := w.heap.size + 1, off := 2 } = some (Value.slice A0_5 l0_5.length c0_5))
  (y3 : wc.cell? { block := w.heap.size + 1, off := 3 } = some (Value.int IntKind.i64 a0_6))
  (y4 : wc.cell? { block := w.heap.size + 1, off := 4 } = some (Value.string a0_7))
  (y5 : wc.cell? { block := w.heap.size + 1, off := 5 } = some (Value.string a0_8))
  (y6 : wc.cell? { block := w.heap.size + 1, off := 6 } = some (Value.slice A0_9 l0_9.length c0_9))
  {K_x1 : Act → World → Prop}
  {Qp_x : Exit → Act → World → Prop}
  (hQ_ : Qp_x = bodyPost Tryd.prog Tryd.f17 fun e w' => ∃ v0_, e = Ending.returned v0_ ∧ Kd.string.R 9 w' w.heap.size (fun x => True) v0_ r ∧ Below w.heap.size w w')
  (a_x1 : ∀ (a : Act) (w : World), Code.wp Tryd.prog (cr (cr (cr (cr (cr (cr (cr (cr (cr (cr (cr (cr (cr (cp Tryd.f17)))))))))))))) Qp_x a w → K_x1 a w)
  {K_x : Act → World → Prop}
  (a_x : ∀ (a : Act) (w : World), Code.wp Tryd.prog (cr (cl (cr (cr (cr (cr (cr (cr (cr (cr (cr (cr (cr (cr (cp Tryd.f17))))))))))))))) (Exit.then K_x1 Qp_x) a w → K_x a w) :
  Code.wp Tryd.prog (cl (cl (cr (cr (cr (cr (cr (cr (cr (cr (cr (cr (cr (cr (cp Tryd.f17))))))))))))))) (Exit.then K_x (Exit.then K_x1 Qp_x)) { tmps := List.toArray ((Value.agg #[Value.int IntKind.i64 a0_0, Value.string a0_1, Value.string a0_2, Value.int IntKind.i64 a0_3, Value.string a0_4, Value.slice A0_5 l0_5.length c0_5, Value.int IntKind.i64 a0_6, Value.string a0_7, Value.string a0_8, Value.slice A0_9 l0_9.length c0_9]) :: (Value.pointer (some { block := w.heap.size, off := 0 })) :: (Value.slice none 0 0) :: (Value.pointer (some { block := w.heap.size + 1, off := 0 })) :: (Value.string a0_1) :: undef :: u6 :: u7 :: u8 :: u9 :: u10 :: u11 :: u12 :: u13 :: u14 :: u15 :: u16 :: u17 :: u18 :: u19 :: u20 :: u21 :: u22 :: u23 :: u24 :: u25 :: u26 :: u27 :: u28 :: u29 :: u30 :: u31 :: u32 :: u33 :: u34 :: u35 :: u36 :: u37 :: u38 :: u39 :: u40 :: u41 :: u42 :: u43 :: u44 :: u45 :: u46 :: u47 :: u48 :: u49 :: u50 :: u51 :: u52 :: u53 :: u54 :: u55 :: u56 :: u57 :: u58 :: u59 :: u60 :: u61 :: u62 :: u63 :: u64 :: u65 :: u66 :: u67 :: u68 :: u69 :: u70 :: u71 :: u72 :: u73 :: u74 :: u75 :: u76 :: u77 :: u78 :: u79 :: u80 :: u81 :: u82 :: u83 :: u84 :: u85 :: u86 :: u87 :: u88 :: u89 :: u90 :: u91 :: u92 :: u93 :: u94 :: u95 :: u96 :: u97 :: u98 :: u99 :: u100 :: u101 :: u102 :: u103 :: u104 :: u105 :: u106 :: u107 :: u108 :: u109 :: u110 :: u111 :: u112 :: u113 :: u114 :: u115 :: u116 :: u117 :: (Value.bool false) :: u119 :: u120 :: u121 :: u122 :: (Value.pointer (some { block := w.heap.size + 1, off := 1 })) :: (Value.string a0_4) :: (Value.bool false) :: u126 :: u127 :: u128 :: u129 :: u130 :: u131 :: u132 :: u133 :: u134 :: u135 :: u136 :: u137 :: u138 :: u139 :: u140 :: u141 :: u142 :: u143 :: u144 :: u145 :: u146 :: u147 :: u148 :: u149 :: u150 :: u151 :: u152 :: u153 :: u154 :: u155 :: u156 :: u157 :: u158 :: u159 :: u160 :: u161 :: u162 :: u163 :: u164 :: u165 :: u166 :: u167 :: u168 :: u169 :: u170 :: u171 :: u172 :: u173 :: u174 :: u175 :: u176 :: u177 :: u178 :: u179 :: u180 :: u181 :: u182 :: []), defers := [] } wc := by
  dsimp only [cp, cl, cr, Tryd.f17] at a_x1 a_x ⊢
  subst hQ_
  clear x0 x1 x2 x3 x4 x5 x6 x7 x8 x9 y0 y1 y2 y3 y4 y5 y6
  clear hb hd
  have HF := Aside0.mk h
  clear h
  have h := HF.out
  clear HF
  go_cut [133] (fun v_ wc => v_ = .bool ((a0_0 == 1) && (a0_3 == 5)) ∧ Aside0 (Below w.heap.size w wc) ∧ Aside0 (wc.heap[w.heap.size]? = some (.cells #[.int .i64 a0_0, .string a0_1, .string a0_2, .int .i64 a0_3, .string a0_4, .slice A0_5 l0_5.length c0_5, .int .i64 a0_6, .string a0_7, .string a0_8, .slice A0_9 l0_9.length c0_9] 34 (0, 0))) ∧ Aside0 (wc.heap[w.heap.size + 1]? = some (.cells #[.int .i64 a0_3, .string a0_4, .slice A0_5 l0_5.length c0_5, .int .i64 a0_6, .string a0_7, .string a0_8, .slice A0_9 l0_9.length c0_9] 32 (0, 0))))
  case first =>
    obtain ⟨x0, x1, x2, x3, x4, x5, x6, x7, x8, x9, -⟩ := cells10 HX.out
    obtain ⟨y0, y1, y2, y3, y4, y5, y6, -⟩ := cells7 HC.out
    rcases bq (a0_0) (1) with ⟨b0, d0⟩ | ⟨b0, d0⟩
    rcases bq (a0_3) (5) with ⟨b1, d1⟩ | ⟨b1, d1⟩
    all_goals
      go_wp2
      go_meet
      case rel => exact ⟨by simp [*], HB, HX, HC⟩
  clear HB HX HC
  obtain ⟨rfl, HB, HX, HC⟩ := hcut
  rcases Bool.eq_false_or_eq_true ((a0_0 == 1) && (a0_3 == 5)) with hb | hb
  · rw [if_pos hb] at h
    rw [hb]
    clear hb
    obtain ⟨x0, x1, x2, x3, x4, x5, x6, x7, x8, x9, -⟩ := cells10 HX.out
    obtain ⟨y0, y1, y2, y3, y4, y5, y6, -⟩ := cells7 HC.out
    injection h with h
    subst h
    go_wp2
    go_ret
    exact ⟨_, rfl, R_strs (below_size HB.out) [(⟨#[114, 101, 118, 101, 114, 116]⟩ : ByteArray), a0_1] (by simp), below_alloc HB.out _⟩
  rw [if_neg (by rw [hb]; decide)] at h
  rw [hb]
  clear hb
  go_upto_region 23 with (fail)
  have HF := Aside0.mk h
  clear h
  have h := HF.out
  clear HF
  go_cut [143] (fun v_ wc => v_ = .bool ((a0_0 == 1) && (a0_3 == 6)) ∧ Aside0 (Below w.heap.size w wc) ∧ Aside0 (wc.heap[w.heap.size]? = some (.cells #[.int .i64 a0_0, .string a0_1, .string a0_2, .int .i64 a0_3, .string a0_4, .slice A0_5 l0_5.length c0_5, .int .i64 a0_6, .string a0_7, .string a0_8, .slice A0_9 l0_9.length c0_9] 34 (0, 0))) ∧ Aside0 (wc.heap[w.heap.size + 1]? = some (.cells #[.int .i64 a0_3, .string a0_4, .slice A0_5 l0_5.length c0_5, .int .i64 a0_6, .string a0_7, .string a0_8, .slice A0_9 l0_9.length c0_9] 32 (0, 0))))
  case first =>
    obtain ⟨x0, x1, x2, x3, x4, x5, x6, x7, x8, x9, -⟩ := cells10 HX.out
    obtain ⟨y0, y1, y2, y3, y4, y5, y6, -⟩ := cells7 HC.out
    rcases bq (a0_0) (1) with ⟨b0, d0⟩ | ⟨b0, d0⟩
    rcases bq (a0_3) (6) with ⟨b1, d1⟩ | ⟨b1, d1⟩
    all_goals
      go_wp2
      go_meet
      case rel => exact ⟨by simp [*], HB, HX, HC⟩
  clear HB HX HC
  obtain ⟨rfl, HB, HX, HC⟩ := hcut
  rcases Bool.eq_false_or_eq_true ((a0_0 == 1) && (a0_3 == 6)) with hb | hb
  · rw [if_pos hb] at h
    rw [hb]
    clear hb
    obtain ⟨x0, x1, x2, x3, x4, x5, x6, x7, x8, x9, -⟩ := cells10 HX.out
    obtain ⟨y0, y1, y2, y3, y4, y5, y6, -⟩ := cells7 HC.out
    injection h with h
    subst h
    go_wp2
    go_ret
    exact ⟨_, rfl, R_strs (below_size HB.out) [(⟨#[114, 101, 115, 111, 108, 118, 101]⟩ : ByteArray), a0_1] (by simp), below_alloc HB.out _⟩
  rw [if_neg (by rw [hb]; decide)] at h
  rw [hb]
  clear hb
  go_upto_region 25 with (fail)
  have HF := Aside0.mk h
  clear h
  have h := HF.out
  clear HF
  go_cut [163] (fun v_ wc => v_ = .bool ((a0_0 == 1) || (a0_3 != 0) || (decide (a0_0 < 0)) || (decide (a0_0 > 7))) ∧ Aside0 (Below w.heap.size w wc) ∧ Aside0 (wc.heap[w.heap.size]? = some (.cells #[.int .i64 a0_0, .string a0_1, .string a0_2, .int .i64 a0_3, .string a0_4, .slice A0_5 l0_5.length c0_5, .int .i64 a0_6, .string a0_7, .string a0_8, .slice A0_9 l0_9.length c0_9] 34 (0, 0))) ∧ Aside0 (wc.heap[w.heap.size + 1]? = some (.cells #[.int .i64 a0_3, .string a0_4, .slice A0_5 l0_5.length c0_5, .int .i64 a0_6, .string a0_7, .string a0_8, .slice A0_9 l0_9.length c0_9] 32 (0, 0))))
  case first =>
    obtain ⟨x0, x1, x2, x3, x4, x5, x6, x7, x8, x9, -⟩ := cells10 HX.out
    obtain ⟨y0, y1, y2, y3, y4, y5, y6, -⟩ := cells7 HC.out
    rcases (bq (a0_0) (1)).symm with ⟨b0, d0⟩ | ⟨b0, d0⟩
    rcases bq (a0_3) (0) with ⟨b1, d1⟩ | ⟨b1, d1⟩
    rcases (Classical.em (a0_0 < 0)).symm with b2 | b2
    rcases (Classical.em (7 < a0_0)).symm with b3 | b3
    all_goals
      go_wp2
      go_meet
      case rel => exact ⟨by simp [*], HB, HX, HC⟩
  clear HB HX HC
  obtain ⟨rfl, HB, HX, HC⟩ := hcut
  rcases Bool.eq_false_or_eq_true ((a0_0 == 1) || (a0_3 != 0) || (decide (a0_0 < 0)) || (decide (a0_0 > 7))) with hb | hb
  · rw [if_pos hb] at h
    rw [hb]
    clear hb
    obtain ⟨x0, x1, x2, x3, x4, x5, x6, x7, x8, x9, -⟩ := cells10 HX.out
    obtain ⟨y0, y1, y2, y3, y4, y5, y6, -⟩ := cells7 HC.out
    injection h with h
    subst h
    go_wp2
    go_ret
    exact ⟨_, rfl, Kd.R_nil _ _ _ _ _, HB.out⟩
  rw [if_neg (by rw [hb]; decide)] at h
  rw [hb]
  have hr12 := hb
  clear hb
  go_upto_region 27 with (fail)
  have HF := Aside0.mk h
  clear h
  have h := HF.out
  clear HF
  go_cut [170] (fun v_ wc => v_ = .bool ((a0_0 == 7) && (a0_1.toList == ([] : List UInt8))) ∧ Aside0 (Below w.heap.size w wc) ∧ Aside0 (wc.heap[w.heap.size]? = some (.cells #[.int .i64 a0_0, .string a0_1, .string a0_2, .int .i64 a0_3, .string a0_4, .slice A0_5 l0_5.length c0_5, .int .i64 a0_6, .string a0_7, .string a0_8, .slice A0_9 l0_9.length c0_9] 34 (0, 0))) ∧ Aside0 (wc.heap[w.heap.size + 1]? = some (.cells #[.int .i64 a0_3, .string a0_4, .slice A0_5 l0_5.length c0_5, .int .i64 a0_6, .string a0_7, .string a0_8, .slice A0_9 l0_9.length c0_9] 32 (0, 0))))
  case first =>
    obtain ⟨x0, x1, x2, x3, x4, x5, x6, x7, x8, x9, -⟩ := cells10 HX.out
    obtain ⟨y0, y1, y2, y3, y4, y5, y6, -⟩ := cells7 HC.out
    rcases bq (a0_0) (7) with ⟨b0, d0⟩ | ⟨b0, d0⟩
    rcases bq (a0_1.toList) (([] : List UInt8)) with ⟨b1, d1⟩ | ⟨b1, d1⟩
    all_goals
      go_wp2
      go_meet
      case rel => exact ⟨by simp [*], HB, HX, HC⟩
  clear HB HX HC
  obtain ⟨rfl, HB, HX, HC⟩ := hcut
  rcases Bool.eq_false_or_eq_true ((a0_0 == 7) && (a0_1.toList == ([] : List UInt8))) with hb | hb
  · rw [if_pos hb] at h
    rw [hb]
    clear hb
    obtain ⟨x0, x1, x2, x3, x4, x5, x6, x7, x8, x9, -⟩ := cells10 HX.out
    obtain ⟨y0, y1, y2, y3, y4, y5, y6, -⟩ := cells7 HC.out
    injection h with h
    subst h
    go_wp2
    go_ret
    exact ⟨_, rfl, R_strs (below_size HB.out) [(⟨#[112, 111, 119, 101, 114]⟩ : ByteArray)] (by simp), below_alloc HB.out _⟩
  rw [if_neg (by rw [hb]; decide)] at h
  rw [hb]
  clear hb
  go_upto_region 29 with (fail)
  have HF := Aside0.mk h
  clear h
  have h := HF.out
  clear HF
  rcases bq (a0_0) (7) with ⟨hb, hd⟩ | ⟨hb, hd⟩
  · rw [if_pos hb] at h
    obtain ⟨x0, x1, x2, x3, x4, x5, x6, x7, x8, x9, -⟩ := cells10 HX.out
    obtain ⟨y0, y1, y2, y3, y4, y5, y6, -⟩ := cells7 HC.out
    injection h with h
    subst h
    go_wp2
    go_ret
    exact ⟨_, rfl, Kd.R_nil _ _ _ _ _, HB.out⟩
  rw [if_neg (by rw [hb]; decide)] at h
  obtain ⟨x0, x1, x2, x3, x4, x5, x6, x7, x8, x9, -⟩ := cells10 HX.out
  obtain ⟨y0, y1, y2, y3, y4, y5, y6, -⟩ := cells7 HC.out
  go_upto_region 31 with (fail)
  clear x0 x1 x2 x3 x4 x5 x6 x7 x8 x9 y0 y1 y2 y3 y4 y5 y6
  have HF := Aside0.mk h
  clear h
  have h := HF.out
  clear HF
  have hrange : a0_0 = 0 ∨ a0_0 = 2 ∨ a0_0 = 3 ∨ a0_0 = 4 ∨ a0_0 = 5 ∨ a0_0 = 6 := by
    simp at hr12 hb
    omega
  clear hr12 hb hd
  unfold lineV at h
  injection h with h
  subst h
  rcases hrange with rfl | rfl | rfl | rfl | rfl | rfl
  all_goals
    obtain ⟨x0, x1, x2, x3, x4, x5, x6, x7, x8, x9, -⟩ := cells10 HX.out
    have hx0 : ∀ O, (wc.alloc O).cell? ⟨w.heap.size, 0, none⟩ = _ := fun O => (blk_cell (blk_alloc HX.out O) 0).trans rfl
    go_wp2
    go_ret
    exact ⟨_, rfl, R_strs2 (below_size HB.out) _ [_, a0_1] (by simp), below_alloc (below_alloc HB.out _) _⟩
set_option maxHeartbeats 8000000 in
set_option maxRecDepth 100000 in
theorem rafterref35_Line.part15 {a0_0 : Int}
  {a0_1 a0_2 : ByteArray}
  {a0_3 : Int}
  {a0_4 : ByteArray}
  {A0_5 : Option Addr}
  {c0_5 : Nat}
  {l0_5 : List ByteArray}
  {a0_6 : Int}
  {a0_7 a0_8 : ByteArray}
  {A0_9 : Option Addr}
  {c0_9 : Nat}
  {l0_9 r : List ByteArray}
  {w : World}
  {wc : World}
  {u6 u7 u8 u9 u10 u11 u12 u13 u14 u15 u16 u17 u18 u19 u20 u21 u22 u23 u24 u25 u26 u27 u28 u29 u30 u31 u32 u33 u34 u35 u36 u37 u38 u39 u40 u41 u42 u43 u44 u45 u46 u47 u48 u49 u50 u51 u52 u53 u54 u55 u56 u57 u58 u59 u60 u61 u62 u63 u64 u65 u66 u67 u68 u69 u70 u71 u72 u73 u74 u75 u76 u77 u78 u79 u80 u81 u82 u83 u84 u85 u86 u87 u88 u90 u91 u92 u93 u94 u99 u100 u101 u102 u103 u104 u105 u106 u107 u108 u109 u110 u111 u112 u113 u114 u115 u116 u117 u118 u119 u120 u121 u122 u123 u124 u125 u126 u127 u128 u129 u130 u131 u132 u133 u134 u135 u136 u137 u138 u139 u140 u141 u142 u143 u144 u145 u146 u147 u148 u149 u150 u151 u152 u153 u154 u155 u156 u157 u158 u159 u160 u161 u162 u163 u164 u165 u166 u167 u168 u169 u170 u171 u172 u173 u174 u175 u176 u177 u178 u179 u180 u181 u182 : Value}
  (HB : Aside0 (Below w.heap.size w wc))
  (HX : Aside0 (wc.heap[w.heap.size]? = some (Obj.cells #[Value.int IntKind.i64 a0_0, Value.string a0_1, Value.string a0_2, Value.int IntKind.i64 a0_3, Value.string a0_4, Value.slice A0_5 l0_5.length c0_5, Value.int IntKind.i64 a0_6, Value.string a0_7, Value.string a0_8, Value.slice A0_9 l0_9.length c0_9] 34)))
  (HC : Aside0 (wc.heap[w.heap.size + 1]? = some (Obj.cells #[Value.int IntKind.i64 a0_3, Value.string a0_4, Value.slice A0_5 l0_5.length c0_5, Value.int IntKind.i64 a0_6, Value.string a0_7, Value.string a0_8, Value.slice A0_9 l0_9.length c0_9] 32)))
  (h : (if (a0_0 == 1 && a0_3 == 1) = true then some [{ data := #[114, 101, 99, 111, 114, 100] }, a0_1, a0_4] else if (a0_0 == 1 && a0_3 == 2) = true then some [{ data := #[117, 110, 114, 101, 99, 111, 114, 100] }, a0_1, a0_4] else if (a0_4.toList != []) = true then some [] else if (a0_0 == 1 && a0_3 == 5) = true then some [{ data := #[114, 101, 118, 101, 114, 116] }, a0_1] else if (a0_0 == 1 && a0_3 == 6) = true then some [{ data := #[114, 101, 115, 111, 108, 118, 101] }, a0_1] else if (a0_0 == 1 || a0_3 != 0 || decide (a0_0 < 0) || decide (a0_0 > 7)) = true then some [] else if (a0_0 == 7 && a0_1.toList == []) = true then some [{ data := #[112, 111, 119, 101, 114] }] else if (a0_0 == 7) = true then some [] else lineV a0_0 a0_1) = some r)
  (hb : decide (((l0_5.length : Nat) : Int) > 0) = false)
  (hd : (0 < l0_5.length) = False)
  (x0 : wc.cell? { block := w.heap.size, off := 0 } = some (Value.int IntKind.i64 a0_0))
  (x1 : wc.cell? { block := w.heap.size, off := 1 } = some (Value.string a0_1))
  (x2 : wc.cell? { block := w.heap.size, off := 2 } = some (Value.string a0_2))
  (x3 : wc.cell? { block := w.heap.size, off := 3 } = some (Value.int IntKind.i64 a0_3))
  (x4 : wc.cell? { block := w.heap.size, off := 4 } = some (Value.string a0_4))
  (x5 : wc.cell? { block := w.heap.size, off := 5 } = some (Value.slice A0_5 l0_5.length c0_5))
  (x6 : wc.cell? { block := w.heap.size, off := 6 } = some (Value.int IntKind.i64 a0_6))
  (x7 : wc.cell? { block := w.heap.size, off := 7 } = some (Value.string a0_7))
  (x8 : wc.cell? { block := w.heap.size, off := 8 } = some (Value.string a0_8))
  (x9 : wc.cell? { block := w.heap.size, off := 9 } = some (Value.slice A0_9 l0_9.length c0_9))
  (y0 : wc.cell? { block := w.heap.size + 1, off := 0 } = some (Value.int IntKind.i64 a0_3))
  (y1 : wc.cell? { block := w.heap.size + 1, off := 1 } = some (Value.string a0_4))
  (y2 : wc.cell? { block := w.heap.size + 1, off := 2 } = some (Value.slice A0_5 l0_5.length c0_5))
  (y3 : wc.cell? { block := w.heap.size + 1, off := 3 } = some (Value.int IntKind.i64 a0_6))
  (y4 : wc.cell? { block := w.heap.size + 1, off := 4 } = some (Value.string a0_7))
  (y5 : wc.cell? { block := w.heap.size + 1, off := 5 } = some (Value.string a0_8))
  (y6 : wc.cell? { block := w.heap.size + 1, off := 6 } = some (Value.slice A0_9 l0_9.length c0_9))
  {K_x1 : Act → World → Prop}
  {Qp_x : Exit → Act → World → Prop}
  (hQ_ : Qp_x = bodyPost Tryd.prog Tryd.f17 fun e w' => ∃ v0_, e = Ending.returned v0_ ∧ Kd.string.R 9 w' w.heap.size (fun x => True) v0_ r ∧ Below w.heap.size w w')
  (a_x1 : ∀ (a : Act) (w : World), Code.wp Tryd.prog (cr (cr (cr (cr (cr (cr (cr (cr (cr (cr (cp Tryd.f17))))))))))) Qp_x a w → K_x1 a w)
  {K_x : Act → World → Prop}
  (a_x : ∀ (a : Act) (w : World), Code.wp Tryd.prog (cr (cl (cr (cr (cr (cr (cr (cr (cr (cr (cr (cp Tryd.f17)))))))))))) (Exit.then K_x1 Qp_x) a w → K_x a w) :
  Code.wp Tryd.prog (cl (cl (cr (cr (cr (cr (cr (cr (cr (cr (cr (cp Tryd.f17)))))))))))) (Exit.then K_x (Exit.then K_x1 Qp_x)) { tmps := List.toArray ((Value.agg #[Value.int IntKind.i64 a0_0, Value.string a0_1, Value.string a0_2, Value.int IntKind.i64 a0_3, Value.string a0_4, Value.slice A0_5 l0_5.length c0_5, Value.int IntKind.i64 a0_6, Value.string a0_7, Value.string a0_8, Value.slice A0_9 l0_9.length c0_9]) :: (Value.pointer (some { block := w.heap.size, off := 0 })) :: (Value.slice none 0 0) :: (Value.pointer (some { block := w.heap.size + 1, off := 0 })) :: (Value.string a0_1) :: undef :: u6 :: u7 :: u8 :: u9 :: u10 :: u11 :: u12 :: u13 :: u14 :: u15 :: u16 :: u17 :: u18 :: u19 :: u20 :: u21 :: u22 :: u23 :: u24 :: u25 :: u26 :: u27 :: u28 :: u29 :: u30 :: u31 :: u32 :: u33 :: u34 :: u35 :: u36 :: u37 :: u38 :: u39 :: u40 :: u41 :: u42 :: u43 :: u44 :: u45 :: u46 :: u47 :: u48 :: u49 :: u50 :: u51 :: u52 :: u53 :: u54 :: u55 :: u56 :: u57 :: u58 :: u59 :: u60 :: u61 :: u62 :: u63 :: u64 :: u65 :: u66 :: u67 :: u68 :: u69 :: u70 :: u71 :: u72 :: u73 :: u74 :: u75 :: u76 :: u77 :: u78 :: u79 :: u80 :: u81 :: u82 :: u83 :: u84 :: u85 :: u86 :: u87 :: u88 :: (Value.bool false) :: u90 :: u91 :: u92 :: u93 :: u94 :: (Value.pointer (some { block := w.heap.size + 1, off := 2 })) :: (Value.slice A0_5 l0_5.length c0_5) :: (Value.int IntKind.i64 ((l0_5.length : Nat) : Int)) :: (Value.bool false) :: u99 :: u100 :: u101 :: u102 :: u103 :: u104 :: u105 :: u106 :: u107 :: u108 :: u109 :: u110 :: u111 :: u112 :: u113 :: u114 :: u115 :: u116 :: u117 :: u118 :: u119 :: u120 :: u121 :: u122 :: u123 :: u124 :: u125 :: u126 :: u127 :: u128 :: u129 :: u130 :: u131 :: u132 :: u133 :: u134 :: u135 :: u136 :: u137 :: u138 :: u139 :: u140 :: u141 :: u142 :: u143 :: u144 :: u145 :: u146 :: u147 :: u148 :: u149 :: u150 :: u151 :: u152 :: u153 :: u154 :: u155 :: u156 :: u157 :: u158 :: u159 :: u160 :: u161 :: u162 :: u163 :: u164 :: u165 :: u166 :: u167 :: u168 :: u169 :: u170 :: u171 :: u172 :: u173 :: u174 :: u175 :: u176 :: u177 :: u178 :: u179 :: u180 :: u181 :: u182 :: []), defers := [] } wc := by
  dsimp only [cp, cl, cr, Tryd.f17] at a_x1 a_x ⊢
  subst hQ_
  clear x0 x1 x2 x3 x4 x5 x6 x7 x8 x9 y0 y1 y2 y3 y4 y5 y6
  clear hb hd
  have HF := Aside0.mk h
  clear h
  have h := HF.out
  clear HF
  go_cut [106] (fun v_ wc => v_ = .bool ((a0_0 == 1) && (a0_3 == 1)) ∧ Aside0 (Below w.heap.size w wc) ∧ Aside0 (wc.heap[w.heap.size]? = some (.cells #[.int .i64 a0_0, .string a0_1, .string a0_2, .int .i64 a0_3, .string a0_4, .slice A0_5 l0_5.length c0_5, .int .i64 a0_6, .string a0_7, .string a0_8, .slice A0_9 l0_9.length c0_9] 34 (0, 0))) ∧ Aside0 (wc.heap[w.heap.size + 1]? = some (.cells #[.int .i64 a0_3, .string a0_4, .slice A0_5 l0_5.length c0_5, .int .i64 a0_6, .string a0_7, .string a0_8, .slice A0_9 l0_9.length c0_9] 32 (0, 0))))
  case first =>
    obtain ⟨x0, x1, x2, x3, x4, x5, x6, x7, x8, x9, -⟩ := cells10 HX.out
    obtain ⟨y0, y1, y2, y3, y4, y5, y6, -⟩ := cells7 HC.out
    rcases bq (a0_0) (1) with ⟨b0, d0⟩ | ⟨b0, d0⟩
    rcases bq (a0_3) (1) with ⟨b1, d1⟩ | ⟨b1, d1⟩
    all_goals
      go_wp2
      go_meet
      case rel => exact ⟨by simp [*], HB, HX, HC⟩
  clear HB HX HC
  obtain ⟨rfl, HB, HX, HC⟩ := hcut
  rcases Bool.eq_false_or_eq_true ((a0_0 == 1) && (a0_3 == 1)) with hb | hb
  · rw [if_pos hb] at h
    rw [hb]
    clear hb
    obtain ⟨x0, x1, x2, x3, x4, x5, x6, x7, x8, x9, -⟩ := cells10 HX.out
    obtain ⟨y0, y1, y2, y3, y4, y5, y6, -⟩ := cells7 HC.out
    injection h with h
    subst h
    go_wp2
    go_ret
    exact ⟨_, rfl, R_strs (below_size HB.out) [(⟨#[114, 101, 99, 111, 114, 100]⟩ : ByteArray), a0_1, a0_4] (by simp), below_alloc HB.out _⟩
  rw [if_neg (by rw [hb]; decide)] at h
  rw [hb]
  clear hb
  go_upto_region 17 with (fail)
  have HF := Aside0.mk h
  clear h
  have h := HF.out
  clear HF
  go_cut [118] (fun v_ wc => v_ = .bool ((a0_0 == 1) && (a0_3 == 2)) ∧ Aside0 (Below w.heap.size w wc) ∧ Aside0 (wc.heap[w.heap.size]? = some (.cells #[.int .i64 a0_0, .string a0_1, .string a0_2, .int .i64 a0_3, .string a0_4, .slice A0_5 l0_5.length c0_5, .int .i64 a0_6, .string a0_7, .string a0_8, .slice A0_9 l0_9.length c0_9] 34 (0, 0))) ∧ Aside0 (wc.heap[w.heap.size + 1]? = some (.cells #[.int .i64 a0_3, .string a0_4, .slice A0_5 l0_5.length c0_5, .int .i64 a0_6, .string a0_7, .string a0_8, .slice A0_9 l0_9.length c0_9] 32 (0, 0))))
  case first =>
    obtain ⟨x0, x1, x2, x3, x4, x5, x6, x7, x8, x9, -⟩ := cells10 HX.out
    obtain ⟨y0, y1, y2, y3, y4, y5, y6, -⟩ := cells7 HC.out
    rcases bq (a0_0) (1) with ⟨b0, d0⟩ | ⟨b0, d0⟩
    rcases bq (a0_3) (2) with ⟨b1, d1⟩ | ⟨b1, d1⟩
    all_goals
      go_wp2
      go_meet
      case rel => exact ⟨by simp [*], HB, HX, HC⟩
  clear HB HX HC
  obtain ⟨rfl, HB, HX, HC⟩ := hcut
  rcases Bool.eq_false_or_eq_true ((a0_0 == 1) && (a0_3 == 2)) with hb | hb
  · rw [if_pos hb] at h
    rw [hb]
    clear hb
    obtain ⟨x0, x1, x2, x3, x4, x5, x6, x7, x8, x9, -⟩ := cells10 HX.out
    obtain ⟨y0, y1, y2, y3, y4, y5, y6, -⟩ := cells7 HC.out
    injection h with h
    subst h
    go_wp2
    go_ret
    exact ⟨_, rfl, R_strs (below_size HB.out) [(⟨#[117, 110, 114, 101, 99, 111, 114, 100]⟩ : ByteArray), a0_1, a0_4] (by simp), below_alloc HB.out _⟩
  rw [if_neg (by rw [hb]; decide)] at h
  rw [hb]
  clear hb
  go_upto_region 19 with (fail)
  have HF := Aside0.mk h
  clear h
  have h := HF.out
  clear HF
  rcases (bq (a0_4.toList) (([] : List UInt8))).symm with ⟨hd, hb⟩ | ⟨hd, hb⟩
  · rw [if_pos hb] at h
    obtain ⟨x0, x1, x2, x3, x4, x5, x6, x7, x8, x9, -⟩ := cells10 HX.out
    obtain ⟨y0, y1, y2, y3, y4, y5, y6, -⟩ := cells7 HC.out
    injection h with h
    subst h
    go_wp2
    go_ret
    exact ⟨_, rfl, Kd.R_nil _ _ _ _ _, HB.out⟩
  rw [if_neg (by rw [hb]; decide)] at h
  obtain ⟨x0, x1, x2, x3, x4, x5, x6, x7, x8, x9, -⟩ := cells10 HX.out
  obtain ⟨y0, y1, y2, y3, y4, y5, y6, -⟩ := cells7 HC.out
  go_upto_region 21 with (fail)
  rename_i a_x1 _ a_x
  exact rafterref35_Line.part21 HB HX HC h hd hb x0 x1 x2 x3 x4 x5 x6 x7 x8 x9 y0 y1 y2 y3 y4 y5 y6 rfl a_x1 a_x
set_option maxHeartbeats 8000000 in
set_option maxRecDepth 100000 in
theorem rafterref35_Line.part9 {a0_0 : Int}
  {a0_1 a0_2 : ByteArray}
  {a0_3 : Int}
  {a0_4 : ByteArray}
  {A0_5 : Option Addr}
  {c0_5 : Nat}
  {l0_5 : List ByteArray}
  {a0_6 : Int}
  {a0_7 a0_8 : ByteArray}
  {A0_9 : Option Addr}
  {c0_9 : Nat}
  {l0_9 r : List ByteArray}
  {w : World}
  (HR : Aside0 ((Kd.string.C w A0_5 l0_5.length l0_5 ∧ l0_5.length ≤ c0_5) ∧ Kd.string.C w A0_9 l0_9.length l0_9 ∧ l0_9.length ≤ c0_9))
  {z : Bool}
  (HZ : Aside0 (∀ (W : World), Kd.string.C W A0_9 l0_9.length l0_9 → Calls Tryd.prog 59 #[Value.agg #[Value.int IntKind.i64 a0_6, Value.string a0_7, Value.string a0_8, Value.slice A0_9 l0_9.length c0_9]] W fun e w' => e = Ending.returned (Value.bool z) ∧ Below W.heap.size W w'))
  (h : (if (!z || a0_6 != 0) = true then some [] else if (a0_0 == 1 && a0_3 == 4 && a0_4.toList == []) = true then if 2 + l0_5.length < 8796093022208 then some ([{ data := #[117, 110, 112, 117, 108, 108] }, a0_1] ++ l0_5) else none else if decide (((l0_5.length : Nat) : Int) > 0) = true then some [] else if (a0_0 == 1 && a0_3 == 1) = true then some [{ data := #[114, 101, 99, 111, 114, 100] }, a0_1, a0_4] else if (a0_0 == 1 && a0_3 == 2) = true then some [{ data := #[117, 110, 114, 101, 99, 111, 114, 100] }, a0_1, a0_4] else if (a0_4.toList != []) = true then some [] else if (a0_0 == 1 && a0_3 == 5) = true then some [{ data := #[114, 101, 118, 101, 114, 116] }, a0_1] else if (a0_0 == 1 && a0_3 == 6) = true then some [{ data := #[114, 101, 115, 111, 108, 118, 101] }, a0_1] else if (a0_0 == 1 || a0_3 != 0 || decide (a0_0 < 0) || decide (a0_0 > 7)) = true then some [] else if (a0_0 == 7 && a0_1.toList == []) = true then some [{ data := #[112, 111, 119, 101, 114] }] else if (a0_0 == 7) = true then some [] else lineV a0_0 a0_1) = some r)
  {wc : World}
  {u6 u7 u8 u9 u10 u11 u12 u13 u14 u15 u16 u17 u18 u19 u20 u21 u22 u23 u24 u25 u26 u27 u28 u29 u30 u31 u32 u33 u34 u35 u36 u37 u38 u39 u40 u41 u42 u43 u44 u45 u46 u47 u48 u49 u50 u51 u52 u53 u54 u55 u56 u57 u58 u59 u60 u61 u63 u64 u65 u66 u67 u68 u69 u70 u71 u72 u73 u74 u75 u76 u77 u78 u79 u80 u81 u82 u83 u84 u85 u86 u87 u88 u89 u90 u91 u92 u93 u94 u95 u96 u97 u98 u99 u100 u101 u102 u103 u104 u105 u106 u107 u108 u109 u110 u111 u112 u113 u114 u115 u116 u117 u118 u119 u120 u121 u122 u123 u124 u125 u126 u127 u128 u129 u130 u131 u132 u133 u134 u135 u136 u137 u138 u139 u140 u141 u142 u143 u144 u145 u146 u147 u148 u149 u150 u151 u152 u153 u154 u155 u156 u157 u158 u159 u160 u161 u162 u163 u164 u165 u166 u167 u168 u169 u170 u171 u172 u173 u174 u175 u176 u177 u178 u179 u180 u181 u182 : Value}
  (HB : Aside0 (Below w.heap.size w wc))
  (HX : Aside0 (wc.heap[w.heap.size]? = some (Obj.cells #[Value.int IntKind.i64 a0_0, Value.string a0_1, Value.string a0_2, Value.int IntKind.i64 a0_3, Value.string a0_4, Value.slice A0_5 l0_5.length c0_5, Value.int IntKind.i64 a0_6, Value.string a0_7, Value.string a0_8, Value.slice A0_9 l0_9.length c0_9] 34)))
  (HC : Aside0 (wc.heap[w.heap.size + 1]? = some (Obj.cells #[Value.int IntKind.i64 a0_3, Value.string a0_4, Value.slice A0_5 l0_5.length c0_5, Value.int IntKind.i64 a0_6, Value.string a0_7, Value.string a0_8, Value.slice A0_9 l0_9.length c0_9] 32)))
  {K_x1 : Act → World → Prop}
  {Qp_x : Exit → Act → World → Prop}
  (hQ_ : Qp_x = bodyPost Tryd.prog Tryd.f17 fun e w' => ∃ v0_, e = Ending.returned v0_ ∧ Kd.string.R 9 w' w.heap.size (fun x => True) v0_ r ∧ Below w.heap.size w w')
  (a_x1 : ∀ (a : Act) (w : World), Code.wp Tryd.prog (cr (cr (cr (cr (cr (cr (cr (cp Tryd.f17)))))))) Qp_x a w → K_x1 a w)
  {K_x : Act → World → Prop}
  (a_x : ∀ (a : Act) (w : World), Code.wp Tryd.prog (cr (cl (cr (cr (cr (cr (cr (cr (cp Tryd.f17))))))))) (Exit.then K_x1 Qp_x) a w → K_x a w) :
  Code.wp Tryd.prog (cl (cl (cr (cr (cr (cr (cr (cr (cp Tryd.f17))))))))) (Exit.then K_x (Exit.then K_x1 Qp_x)) { tmps := List.toArray ((Value.agg #[Value.int IntKind.i64 a0_0, Value.string a0_1, Value.string a0_2, Value.int IntKind.i64 a0_3, Value.string a0_4, Value.slice A0_5 l0_5.length c0_5, Value.int IntKind.i64 a0_6, Value.string a0_7, Value.string a0_8, Value.slice A0_9 l0_9.length c0_9]) :: (Value.pointer (some { block := w.heap.size, off := 0 })) :: (Value.slice none 0 0) :: (Value.pointer (some { block := w.heap.size + 1, off := 0 })) :: (Value.string a0_1) :: undef :: u6 :: u7 :: u8 :: u9 :: u10 :: u11 :: u12 :: u13 :: u14 :: u15 :: u16 :: u17 :: u18 :: u19 :: u20 :: u21 :: u22 :: u23 :: u24 :: u25 :: u26 :: u27 :: u28 :: u29 :: u30 :: u31 :: u32 :: u33 :: u34 :: u35 :: u36 :: u37 :: u38 :: u39 :: u40 :: u41 :: u42 :: u43 :: u44 :: u45 :: u46 :: u47 :: u48 :: u49 :: u50 :: u51 :: u52 :: u53 :: u54 :: u55 :: u56 :: u57 :: u58 :: u59 :: u60 :: u61 :: (Value.bool false) :: u63 :: u64 :: u65 :: u66 :: u67 :: u68 :: u69 :: u70 :: u71 :: u72 :: u73 :: u74 :: u75 :: u76 :: u77 :: u78 :: u79 :: u80 :: u81 :: u82 :: u83 :: u84 :: u85 :: u86 :: u87 :: u88 :: u89 :: u90 :: u91 :: u92 :: u93 :: u94 :: u95 :: u96 :: u97 :: u98 :: u99 :: u100 :: u101 :: u102 :: u103 :: u104 :: u105 :: u106 :: u107 :: u108 :: u109 :: u110 :: u111 :: u112 :: u113 :: u114 :: u115 :: u116 :: u117 :: u118 :: u119 :: u120 :: u121 :: u122 :: u123 :: u124 :: u125 :: u126 :: u127 :: u128 :: u129 :: u130 :: u131 :: u132 :: u133 :: u134 :: u135 :: u136 :: u137 :: u138 :: u139 :: u140 :: u141 :: u142 :: u143 :: u144 :: u145 :: u146 :: u147 :: u148 :: u149 :: u150 :: u151 :: u152 :: u153 :: u154 :: u155 :: u156 :: u157 :: u158 :: u159 :: u160 :: u161 :: u162 :: u163 :: u164 :: u165 :: u166 :: u167 :: u168 :: u169 :: u170 :: u171 :: u172 :: u173 :: u174 :: u175 :: u176 :: u177 :: u178 :: u179 :: u180 :: u181 :: u182 :: []), defers := [] } wc := by
  dsimp only [cp, cl, cr, Tryd.f17] at a_x1 a_x ⊢
  subst hQ_
  have HF := Aside0.mk h
  clear h
  have h := HF.out
  clear HF
  go_cut [76] (fun v_ wc => v_ = .bool ((!z) || (a0_6 != 0)) ∧ Aside0 (Below w.heap.size w wc) ∧ Aside0 (wc.heap[w.heap.size]? = some (.cells #[.int .i64 a0_0, .string a0_1, .string a0_2, .int .i64 a0_3, .string a0_4, .slice A0_5 l0_5.length c0_5, .int .i64 a0_6, .string a0_7, .string a0_8, .slice A0_9 l0_9.length c0_9] 34 (0, 0))) ∧ Aside0 (wc.heap[w.heap.size + 1]? = some (.cells #[.int .i64 a0_3, .string a0_4, .slice A0_5 l0_5.length c0_5, .int .i64 a0_6, .string a0_7, .string a0_8, .slice A0_9 l0_9.length c0_9] 32 (0, 0))))
  case first =>
    obtain ⟨x0, x1, x2, x3, x4, x5, x6, x7, x8, x9, -⟩ := cells10 HX.out
    obtain ⟨y0, y1, y2, y3, y4, y5, y6, -⟩ := cells7 HC.out
    rcases Bool.eq_false_or_eq_true (z) with b0 | b0
    rcases bq (a0_6) (0) with ⟨b1, d1⟩ | ⟨b1, d1⟩
    all_goals
      go_wp2_with (first | (go_at_call 59; refine (HZ.out _ (Kd.C_below HR.out.2.1 HB.out)).mono ?_; rintro e_ w3 ⟨rfl, hb⟩; replace HX := Aside0.mk (blk_below HX.out hb); replace HC := Aside0.mk (blk_below HC.out hb); replace HB := Aside0.mk (below_then HB.out HB.out.size hb); clear hb x0 x1 x2 x3 x4 x5 x6 x7 x8 x9 y0 y1 y2 y3 y4 y5 y6; obtain ⟨x0, x1, x2, x3, x4, x5, x6, x7, x8, x9, -⟩ := cells10 HX.out; obtain ⟨y0, y1, y2, y3, y4, y5, y6, -⟩ := cells7 HC.out))
      go_meet
      case rel => exact ⟨by simp [*], HB, HX, HC⟩
  clear HB HX HC
  obtain ⟨rfl, HB, HX, HC⟩ := hcut
  rcases Bool.eq_false_or_eq_true ((!z) || (a0_6 != 0)) with hb | hb
  · rw [if_pos hb] at h
    rw [hb]
    clear hb
    obtain ⟨x0, x1, x2, x3, x4, x5, x6, x7, x8, x9, -⟩ := cells10 HX.out
    obtain ⟨y0, y1, y2, y3, y4, y5, y6, -⟩ := cells7 HC.out
    injection h with h
    subst h
    go_wp2
    go_ret
    exact ⟨_, rfl, Kd.R_nil _ _ _ _ _, HB.out⟩
  rw [if_neg (by rw [hb]; decide)] at h
  rw [hb]
  clear hb
  go_upto_region 11 with (fail)
  have HF := Aside0.mk h
  clear h
  have h := HF.out
  clear HF
  go_cut [89] (fun v_ wc => v_ = .bool ((a0_0 == 1) && (a0_3 == 4) && (a0_4.toList == ([] : List UInt8))) ∧ Aside0 (Below w.heap.size w wc) ∧ Aside0 (wc.heap[w.heap.size]? = some (.cells #[.int .i64 a0_0, .string a0_1, .string a0_2, .int .i64 a0_3, .string a0_4, .slice A0_5 l0_5.length c0_5, .int .i64 a0_6, .string a0_7, .string a0_8, .slice A0_9 l0_9.length c0_9] 34 (0, 0))) ∧ Aside0 (wc.heap[w.heap.size + 1]? = some (.cells #[.int .i64 a0_3, .string a0_4, .slice A0_5 l0_5.length c0_5, .int .i64 a0_6, .string a0_7, .string a0_8, .slice A0_9 l0_9.length c0_9] 32 (0, 0))))
  case first =>
    obtain ⟨x0, x1, x2, x3, x4, x5, x6, x7, x8, x9, -⟩ := cells10 HX.out
    obtain ⟨y0, y1, y2, y3, y4, y5, y6, -⟩ := cells7 HC.out
    rcases bq (a0_0) (1) with ⟨b0, d0⟩ | ⟨b0, d0⟩
    rcases bq (a0_3) (4) with ⟨b1, d1⟩ | ⟨b1, d1⟩
    rcases bq (a0_4.toList) (([] : List UInt8)) with ⟨b2, d2⟩ | ⟨b2, d2⟩
    all_goals
      go_wp2
      go_meet
      case rel => exact ⟨by simp [*], HB, HX, HC⟩
  clear HB HX HC
  obtain ⟨rfl, HB, HX, HC⟩ := hcut
  rcases Bool.eq_false_or_eq_true ((a0_0 == 1) && (a0_3 == 4) && (a0_4.toList == ([] : List UInt8))) with hb | hb
  · rw [if_pos hb] at h
    rw [hb]
    clear hb
    obtain ⟨x0, x1, x2, x3, x4, x5, x6, x7, x8, x9, -⟩ := cells10 HX.out
    obtain ⟨y0, y1, y2, y3, y4, y5, y6, -⟩ := cells7 HC.out
    have hlen : 2 + l0_5.length < 8796093022208 := by
      rcases Nat.lt_or_ge (2 + l0_5.length) 8796093022208 with h_ | h_
      · exact h_
      · rw [if_neg (by omega)] at h; cases h
    rw [if_pos hlen] at h
    injection h with h
    subst h
    have y2n : ∀ O, (wc.alloc O).cell? ⟨w.heap.size + 1, 2, none⟩ = some (.slice A0_5 l0_5.length c0_5) := fun O => (blk_cell (blk_alloc HC.out O) 2).trans rfl
    go_wp2_with (first | ((with_reducible refine gate_builtin (b := .append) (xs := #[.tmp 91, .tmp 93]) rfl ?_); (try (refine gate_guard (by rfl) ?_; dsimp only)); at_builtin; refine Kd.R_append_rows Kd.string (w0 := w) w.heap.size rfl (.tmp 91) (.tmp 93) 28 9 (.string ⟨#[]⟩) 16 rfl Tryd.underlying28 info9 rfl (by decide) (by omega) _ [(⟨#[117, 110, 112, 117, 108, 108]⟩ : ByteArray), a0_1] l0_5 _ _ _ (fun _ => True) (fun _ => False) rfl rfl (R_strs (below_size HB.out) [(⟨#[117, 110, 112, 117, 108, 108]⟩ : ByteArray), a0_1] (by simp)) (Kd.C_alloc (Kd.C_below HR.out.1.1 HB.out) _) (fun _ _ h => h) (fun _ h => h.elim) (fun _ _ => trivial) (below_alloc HB.out _) (below_size (below_alloc HB.out _)) ?aL ?_; (case aL => simp only [List.length_cons, List.length_nil] at *; omega); intro v5 w5 ho hb hg hat; clear hg hat))
    go_ret
    exact ⟨_, rfl, ho, hb⟩
  rw [if_neg (by rw [hb]; decide)] at h
  rw [hb]
  clear hb
  go_upto_region 13 with (fail)
  have HF := Aside0.mk h
  clear h
  have h := HF.out
  clear HF
  rcases (show ((decide ((l0_5.length : Int) > 0)) = true ∧ (0 < l0_5.length) = True) ∨ ((decide ((l0_5.length : Int) > 0)) = false ∧ (0 < l0_5.length) = False) by by_cases h_ : 0 < l0_5.length; exact .inl ⟨decide_eq_true (by omega), eq_true h_⟩; exact .inr ⟨decide_eq_false (by omega), eq_false h_⟩) with ⟨hb, hd⟩ | ⟨hb, hd⟩
  · rw [if_pos hb] at h
    obtain ⟨x0, x1, x2, x3, x4, x5, x6, x7, x8, x9, -⟩ := cells10 HX.out
    obtain ⟨y0, y1, y2, y3, y4, y5, y6, -⟩ := cells7 HC.out
    injection h with h
    subst h
    go_wp2
    go_ret
    exact ⟨_, rfl, Kd.R_nil _ _ _ _ _, HB.out⟩
  rw [if_neg (by rw [hb]; decide)] at h
  obtain ⟨x0, x1, x2, x3, x4, x5, x6, x7, x8, x9, -⟩ := cells10 HX.out
  obtain ⟨y0, y1, y2, y3, y4, y5, y6, -⟩ := cells7 HC.out
  go_upto_region 15 with (fail)
  rename_i a_x1 _ a_x
  exact rafterref35_Line.part15 HB HX HC h hb hd x0 x1 x2 x3 x4 x5 x6 x7 x8 x9 y0 y1 y2 y3 y4 y5 y6 rfl a_x1 a_x
set_option maxHeartbeats 8000000 in
set_option maxRecDepth 100000 in
theorem rafterref35_Line.calls (k : Nat) (a0_0 : Int) (a0_1 : ByteArray) (a0_2 : ByteArray) (a0_3 : Int) (a0_4 : ByteArray) (A0_5 : Option Addr) (c0_5 : Nat) (l0_5 : List ByteArray) (a0_6 : Int) (a0_7 : ByteArray) (a0_8 : ByteArray) (A0_9 : Option Addr) (c0_9 : Nat) (l0_9 : List ByteArray) (r : List ByteArray) (w : World) (hr0_5 : Kd.C Kd.string w A0_5 l0_5.length l0_5) (hc0_5 : l0_5.length ≤ c0_5) (hr0_9 : Kd.C Kd.string w A0_9 l0_9.length l0_9) (hc0_9 : l0_9.length ≤ c0_9) (h : rafterref35_Line.f k a0_0 a0_1 a0_2 a0_3 a0_4 l0_5 a0_6 a0_7 a0_8 l0_9 = some r) :
    Calls Tryd.prog 17 #[.agg #[.int .i64 a0_0, .string a0_1, .string a0_2, .int .i64 a0_3, .string a0_4, .slice A0_5 l0_5.length c0_5, .int .i64 a0_6, .string a0_7, .string a0_8, .slice A0_9 l0_9.length c0_9]] w fun e w' => ∃ v0_ : Value, e = .returned (v0_) ∧ Kd.R Kd.string 9 w' w.heap.size (fun _ => True) v0_ r ∧ Below w.heap.size w w' := by
  have HR := Aside0.mk (And.intro (And.intro hr0_5 hc0_5) (And.intro hr0_9 hc0_9))
  clear hr0_5 hc0_5 hr0_9 hc0_9
  unfold rafterref35_Line.f at h
  obtain ⟨z, hz, g⟩ := Option.bind_eq_some_iff.mp h
  clear h
  have HZ := Aside0.mk (fun W e1 => rafterref35_none.calls a0_6 a0_7 a0_8 A0_9 c0_9 l0_9 z W e1 HR.out.2.2 hz)
  have HF := Aside0.mk g
  clear hz g
  go_enter Tryd.func17, Tryd.ntmps17
  go_upto_region 1 with (fail)
  obtain ⟨W, hW⟩ : ∃ W, W = w.alloc (.cells #[.int .i64 a0_0, .string a0_1, .string a0_2, .int .i64 a0_3, .string a0_4, .slice A0_5 l0_5.length c0_5, .int .i64 a0_6, .string a0_7, .string a0_8, .slice A0_9 l0_9.length c0_9] 34) := ⟨_, rfl⟩
  have HX : Aside0 (W.heap[w.heap.size]? = some (.cells #[.int .i64 a0_0, .string a0_1, .string a0_2, .int .i64 a0_3, .string a0_4, .slice A0_5 l0_5.length c0_5, .int .i64 a0_6, .string a0_7, .string a0_8, .slice A0_9 l0_9.length c0_9] 34 (0, 0))) := ⟨by rw [hW]; exact heap_alloc_new w _⟩
  have HB : Aside0 (Below w.heap.size w W) := ⟨by rw [hW]; exact below_alloc (Below.refl _ _) _⟩
  have hs1 : W.heap.size = w.heap.size + 1 := by rw [hW]; simp
  rw [← hW]
  clear hW
  obtain ⟨x0, x1, x2, x3, x4, x5, x6, x7, x8, x9, -⟩ := cells10 HX.out
  go_upto_region 3 with (fail)
  try rw [hs1]
  obtain ⟨W2, hW⟩ : ∃ W2, W2 = W.alloc (.cells #[.int .i64 a0_3, .string a0_4, .slice A0_5 l0_5.length c0_5, .int .i64 a0_6, .string a0_7, .string a0_8, .slice A0_9 l0_9.length c0_9] 32) := ⟨_, rfl⟩
  have HC : Aside0 (W2.heap[w.heap.size + 1]? = some (.cells #[.int .i64 a0_3, .string a0_4, .slice A0_5 l0_5.length c0_5, .int .i64 a0_6, .string a0_7, .string a0_8, .slice A0_9 l0_9.length c0_9] 32 (0, 0))) := ⟨by rw [hW, ← hs1]; exact heap_alloc_new W _⟩
  have HX2 : Aside0 (W2.heap[w.heap.size]? = some (.cells #[.int .i64 a0_0, .string a0_1, .string a0_2, .int .i64 a0_3, .string a0_4, .slice A0_5 l0_5.length c0_5, .int .i64 a0_6, .string a0_7, .string a0_8, .slice A0_9 l0_9.length c0_9] 34 (0, 0))) := ⟨by rw [hW]; exact blk_alloc HX.out _⟩
  have HB2 : Aside0 (Below w.heap.size w W2) := ⟨by rw [hW]; exact below_alloc HB.out _⟩
  rw [← hW]
  clear hW hs1 x0 x1 x2 x3 x4 x5 x6 x7 x8 x9 HX HB
  have HX := HX2
  have HB := HB2
  clear HX2 HB2 W
  have h := HF.out
  clear HF
  go_cut [33] (fun v_ wc => v_ = .bool ((a0_0 == 1) && (a0_3 == 3) && (a0_4.toList == ([] : List UInt8)) && z && (a0_6 == 0)) ∧ Aside0 (Below w.heap.size w wc) ∧ Aside0 (wc.heap[w.heap.size]? = some (.cells #[.int .i64 a0_0, .string a0_1, .string a0_2, .int .i64 a0_3, .string a0_4, .slice A0_5 l0_5.length c0_5, .int .i64 a0_6, .string a0_7, .string a0_8, .slice A0_9 l0_9.length c0_9] 34 (0, 0))) ∧ Aside0 (wc.heap[w.heap.size + 1]? = some (.cells #[.int .i64 a0_3, .string a0_4, .slice A0_5 l0_5.length c0_5, .int .i64 a0_6, .string a0_7, .string a0_8, .slice A0_9 l0_9.length c0_9] 32 (0, 0))))
  case first =>
    obtain ⟨x0, x1, x2, x3, x4, x5, x6, x7, x8, x9, -⟩ := cells10 HX.out
    obtain ⟨y0, y1, y2, y3, y4, y5, y6, -⟩ := cells7 HC.out
    rcases bq (a0_0) (1) with ⟨b0, d0⟩ | ⟨b0, d0⟩
    rcases bq (a0_3) (3) with ⟨b1, d1⟩ | ⟨b1, d1⟩
    rcases bq (a0_4.toList) (([] : List UInt8)) with ⟨b2, d2⟩ | ⟨b2, d2⟩
    rcases Bool.eq_false_or_eq_true (z) with b3 | b3
    rcases bq (a0_6) (0) with ⟨b4, d4⟩ | ⟨b4, d4⟩
    all_goals
      go_wp2_with (first | (go_at_call 59; refine (HZ.out _ (Kd.C_below HR.out.2.1 HB.out)).mono ?_; rintro e_ w3 ⟨rfl, hb⟩; replace HX := Aside0.mk (blk_below HX.out hb); replace HC := Aside0.mk (blk_below HC.out hb); replace HB := Aside0.mk (below_then HB.out HB.out.size hb); clear hb x0 x1 x2 x3 x4 x5 x6 x7 x8 x9 y0 y1 y2 y3 y4 y5 y6; obtain ⟨x0, x1, x2, x3, x4, x5, x6, x7, x8, x9, -⟩ := cells10 HX.out; obtain ⟨y0, y1, y2, y3, y4, y5, y6, -⟩ := cells7 HC.out))
      go_meet
      case rel => exact ⟨by simp [*], HB, HX, HC⟩
  clear HB HX HC
  obtain ⟨rfl, HB, HX, HC⟩ := hcut
  rcases Bool.eq_false_or_eq_true ((a0_0 == 1) && (a0_3 == 3) && (a0_4.toList == ([] : List UInt8)) && z && (a0_6 == 0)) with hb | hb
  · rw [if_pos hb] at h
    rw [hb]
    clear hb
    obtain ⟨x0, x1, x2, x3, x4, x5, x6, x7, x8, x9, -⟩ := cells10 HX.out
    obtain ⟨y0, y1, y2, y3, y4, y5, y6, -⟩ := cells7 HC.out
    have hlen : 3 + l0_5.length < 8796093022208 := by
      rcases Nat.lt_or_ge (3 + l0_5.length) 8796093022208 with h_ | h_
      · exact h_
      · rw [if_neg (by omega)] at h; cases h
    rw [if_pos hlen] at h
    injection h with h
    subst h
    have y2n : ∀ O, (wc.alloc O).cell? ⟨w.heap.size + 1, 2, none⟩ = some (.slice A0_5 l0_5.length c0_5) := fun O => (blk_cell (blk_alloc HC.out O) 2).trans rfl
    go_wp2_with (first | ((with_reducible refine gate_builtin (b := .append) (xs := #[.tmp 37, .tmp 39]) rfl ?_); (try (refine gate_guard (by rfl) ?_; dsimp only)); at_builtin; refine Kd.R_append_rows Kd.string (w0 := w) w.heap.size rfl (.tmp 37) (.tmp 39) 28 9 (.string ⟨#[]⟩) 16 rfl Tryd.underlying28 info9 rfl (by decide) (by omega) _ [(⟨#[112, 117, 108, 108]⟩ : ByteArray), a0_1, a0_2] l0_5 _ _ _ (fun _ => True) (fun _ => False) rfl rfl (R_strs (below_size HB.out) [(⟨#[112, 117, 108, 108]⟩ : ByteArray), a0_1, a0_2] (by simp)) (Kd.C_alloc (Kd.C_below HR.out.1.1 HB.out) _) (fun _ _ h => h) (fun _ h => h.elim) (fun _ _ => trivial) (below_alloc HB.out _) (below_size (below_alloc HB.out _)) ?aL ?_; (case aL => simp only [List.length_cons, List.length_nil] at *; omega); intro v5 w5 ho hb hg hat; clear hg hat))
    go_ret
    exact ⟨_, rfl, ho, hb⟩
  rw [if_neg (by rw [hb]; decide)] at h
  rw [hb]
  clear hb
  go_upto_region 5 with (fail)
  have HF := Aside0.mk h
  clear h
  have h := HF.out
  clear HF
  rcases (bq (a0_2.toList) (([] : List UInt8))).symm with ⟨hd, hb⟩ | ⟨hd, hb⟩
  · rw [if_pos hb] at h
    obtain ⟨x0, x1, x2, x3, x4, x5, x6, x7, x8, x9, -⟩ := cells10 HX.out
    obtain ⟨y0, y1, y2, y3, y4, y5, y6, -⟩ := cells7 HC.out
    injection h with h
    subst h
    go_wp2
    go_ret
    exact ⟨_, rfl, Kd.R_nil _ _ _ _ _, HB.out⟩
  rw [if_neg (by rw [hb]; decide)] at h
  obtain ⟨x0, x1, x2, x3, x4, x5, x6, x7, x8, x9, -⟩ := cells10 HX.out
  obtain ⟨y0, y1, y2, y3, y4, y5, y6, -⟩ := cells7 HC.out
  go_upto_region 7 with (fail)
  clear x0 x1 x2 x3 x4 x5 x6 x7 x8 x9 y0 y1 y2 y3 y4 y5 y6
  clear hb hd
  have HF := Aside0.mk h
  clear h
  have h := HF.out
  clear HF
  go_cut [62] (fun v_ wc => v_ = .bool ((a0_0 == 1) && (a0_3 == 0) && (a0_4.toList == ([] : List UInt8)) && ((l0_5.length : Int) == 0)) ∧ Aside0 (Below w.heap.size w wc) ∧ Aside0 (wc.heap[w.heap.size]? = some (.cells #[.int .i64 a0_0, .string a0_1, .string a0_2, .int .i64 a0_3, .string a0_4, .slice A0_5 l0_5.length c0_5, .int .i64 a0_6, .string a0_7, .string a0_8, .slice A0_9 l0_9.length c0_9] 34 (0, 0))) ∧ Aside0 (wc.heap[w.heap.size + 1]? = some (.cells #[.int .i64 a0_3, .string a0_4, .slice A0_5 l0_5.length c0_5, .int .i64 a0_6, .string a0_7, .string a0_8, .slice A0_9 l0_9.length c0_9] 32 (0, 0))))
  case first =>
    obtain ⟨x0, x1, x2, x3, x4, x5, x6, x7, x8, x9, -⟩ := cells10 HX.out
    obtain ⟨y0, y1, y2, y3, y4, y5, y6, -⟩ := cells7 HC.out
    rcases bq (a0_0) (1) with ⟨b0, d0⟩ | ⟨b0, d0⟩
    rcases bq (a0_3) (0) with ⟨b1, d1⟩ | ⟨b1, d1⟩
    rcases bq (a0_4.toList) (([] : List UInt8)) with ⟨b2, d2⟩ | ⟨b2, d2⟩
    rcases bq ((l0_5.length : Int)) (0) with ⟨b3, d3⟩ | ⟨b3, d3⟩
    all_goals
      go_wp2
      go_meet
      case rel => exact ⟨by simp [*], HB, HX, HC⟩
  clear HB HX HC
  obtain ⟨rfl, HB, HX, HC⟩ := hcut
  rcases Bool.eq_false_or_eq_true ((a0_0 == 1) && (a0_3 == 0) && (a0_4.toList == ([] : List UInt8)) && ((l0_5.length : Int) == 0)) with hb | hb
  · rw [if_pos hb] at h
    rw [hb]
    clear hb
    obtain ⟨x0, x1, x2, x3, x4, x5, x6, x7, x8, x9, -⟩ := cells10 HX.out
    obtain ⟨y0, y1, y2, y3, y4, y5, y6, -⟩ := cells7 HC.out
    have H4 := Aside0.mk (fun W e1 => rafterref35_edit.calls k a0_1 a0_6 a0_7 a0_8 A0_9 c0_9 l0_9 r W e1 HR.out.2.2 h)
    clear h
    go_wp2_with (fail)
    refine (H4.out _ (Kd.C_below HR.out.2.1 HB.out)).mono ?_
    rintro e_ w5 ⟨v, rfl, hR, hb⟩
    go_wp2
    go_ret
    exact ⟨_, rfl, Kd.R_lower hR (below_size HB.out), below_then HB.out HB.out.size hb⟩
  rw [if_neg (by rw [hb]; decide)] at h
  rw [hb]
  clear hb
  go_upto_region 9 with (fail)
  rename_i a_x1 _ a_x
  exact rafterref35_Line.part9 HR HZ h HB HX HC rfl a_x1 a_x
end Go.Proofs.YtloibeefopdhpaaDoor.G
