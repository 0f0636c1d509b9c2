-- Words of the kit's print (as it laid them for this seat); what this claim does not use is left out.
import Derived.Test.YtloibeefopdhpaaDoorCmdWord
import Derived.Test.YtloibeefopdhpaaDoorTapePlain
import Derived.Test.YtloibeefopdhpaaDoorRef35LineP
import Derived.Test.YtloibeefopdhpaaDoorRef35Same
set_option linter.unusedVariables false
namespace Go.Proofs.YtloibeefopdhpaaDoor.Plain
open Go.RowKit Go.Proofs.YtloibeefopdhpaaDoor.G Go.Proofs.YtloibeefopdhpaaDoorW.PrintWords Go.Proofs.YtloibeefopdhpaaDoorW.PrintLast Go.Proofs.YtloibeefopdhpaaDoorW.PrintMore
def unall : List (List UInt8) → Option (List (List UInt8))
  | [] => some []
  | w :: l => if wordL (readL w) = w then (unall l).map (readL w :: ·) else none
theorem parseRest_ev : ∀ (ws : List (List UInt8)) (acc : List ByteArray), (∀ w ∈ ws, w.length ≤ 300000) → ws.length + acc.length ≤ 100000 →
    Ev (fun k => parseRest k (ws.map B) acc) (match unall ws with | some m => (acc ++ m.map B, 0) | none => ([], 17))
  | [], acc, hw, hl => by
    show Ev (fun k => some (acc, (0 : Int))) (acc ++ [], (0 : Int))
    rw [List.append_nil]
    exact Ev.now _
  | w :: ws, acc, hw, hl => by
    have hu := unword_ev (B w) (by rw [size_B]; exact hw w List.mem_cons_self)
    rw [toList_B] at hu
    simp only [List.length_cons] at hl
    rw [List.map_cons]
    unfold parseRest
    refine Ev.bind hu ?_
    unfold unwordL
    rw [unall]
    by_cases h : wordL (readL w) = w
    · rw [if_pos h, if_pos h]
      have ih := parseRest_ev ws (acc ++ [B (readL w)]) (fun x hx => hw x (List.mem_cons_of_mem _ hx)) (by rw [List.length_append, List.length_singleton]; omega)
      refine Ev.pos rfl (Ev.pos (by omega) ?_)
      cases hm : unall ws with
      | none =>
        rw [hm] at ih
        exact ih
      | some m =>
        rw [hm] at ih
        replace ih : Ev (fun k => parseRest k (ws.map B) (acc ++ [B (readL w)])) (acc ++ [B (readL w)] ++ m.map B, (0 : Int)) := ih
        rw [List.append_assoc] at ih
        exact ih
    · rw [if_neg h, if_neg h]
      exact Ev.neg (fun h => by cases h) (Ev.now _)
theorem findS_mem {p : S93 → Bool} : ∀ {l : List S93} {s : S93}, findS p l = (s, true) → s ∈ l ∧ p s = true
  | [], s, h => by
    rw [findS] at h
    injection h with _ h
    cases h
  | x :: l, s, h => by
    rw [findS] at h
    by_cases hp : p x = true
    · rw [if_pos hp] at h
      injection h with h
      subst h
      exact ⟨List.mem_cons_self, hp⟩
    · rw [if_neg hp] at h
      obtain ⟨h1, h2⟩ := findS_mem h
      exact ⟨List.mem_cons_of_mem _ h1, h2⟩
def lineOf (r : Int × ByteArray × ByteArray × Int × ByteArray × List ByteArray × Int × ByteArray × ByteArray × List ByteArray) (k : Nat) : Option (List ByteArray) :=
  rafterref35_Line.f k r.1 r.2.1 r.2.2.1 r.2.2.2.1 r.2.2.2.2.1 r.2.2.2.2.2.1 r.2.2.2.2.2.2.1 r.2.2.2.2.2.2.2.1 r.2.2.2.2.2.2.2.2.1 r.2.2.2.2.2.2.2.2.2
theorem lineOf_edit (x y z : ByteArray) (ek : Int) (l : List ByteArray) : lineOf ((1 : Int), x, (⟨#[]⟩ : ByteArray), (0 : Int), (⟨#[]⟩ : ByteArray), ([] : List ByteArray), ek, y, z, l) 20 = rafterref35_edit.f 20 x ek y z l := by
  obtain ⟨b, hb⟩ : ∃ b, rafterref35_none.f ek y z l = some b := by
    unfold rafterref35_none.f
    split
    · split <;> exact ⟨_, rfl⟩
    · exact ⟨_, rfl⟩
  have h : lineOf ((1 : Int), x, (⟨#[]⟩ : ByteArray), (0 : Int), (⟨#[]⟩ : ByteArray), ([] : List ByteArray), ek, y, z, l) 20 = (rafterref35_none.f ek y z l).bind (fun z' => rafterref35_edit.f 20 x ek y z l) := by
    unfold lineOf rafterref35_Line.f
    rw [hb]
    kernel_rfl
  rw [h, hb]
  rfl
theorem shape_init (x : ByteArray) : cmd_fill.f (⟨#[105, 110, 105, 116]⟩ : ByteArray) 0 0 0 1 false ([x]) = some ((0 : Int), x, (⟨#[]⟩ : ByteArray), (0 : Int), (⟨#[]⟩ : ByteArray), ([] : List ByteArray), (0 : Int), (⟨#[]⟩ : ByteArray), (⟨#[]⟩ : ByteArray), ([] : List ByteArray)) ∧ lineOf ((0 : Int), x, (⟨#[]⟩ : ByteArray), (0 : Int), (⟨#[]⟩ : ByteArray), ([] : List ByteArray), (0 : Int), (⟨#[]⟩ : ByteArray), (⟨#[]⟩ : ByteArray), ([] : List ByteArray)) 20 = some ((⟨#[105, 110, 105, 116]⟩ : ByteArray) :: [x]) := ⟨by kernel_rfl, by kernel_rfl⟩
theorem shape_log (x : ByteArray) : cmd_fill.f (⟨#[108, 111, 103]⟩ : ByteArray) 2 0 0 1 false ([x]) = some ((2 : Int), x, (⟨#[]⟩ : ByteArray), (0 : Int), (⟨#[]⟩ : ByteArray), ([] : List ByteArray), (0 : Int), (⟨#[]⟩ : ByteArray), (⟨#[]⟩ : ByteArray), ([] : List ByteArray)) ∧ lineOf ((2 : Int), x, (⟨#[]⟩ : ByteArray), (0 : Int), (⟨#[]⟩ : ByteArray), ([] : List ByteArray), (0 : Int), (⟨#[]⟩ : ByteArray), (⟨#[]⟩ : ByteArray), ([] : List ByteArray)) 20 = some ((⟨#[108, 111, 103]⟩ : ByteArray) :: [x]) := ⟨by kernel_rfl, by kernel_rfl⟩
theorem shape_new (x : ByteArray) : cmd_fill.f (⟨#[110, 101, 119]⟩ : ByteArray) 3 0 0 1 false ([x]) = some ((3 : Int), x, (⟨#[]⟩ : ByteArray), (0 : Int), (⟨#[]⟩ : ByteArray), ([] : List ByteArray), (0 : Int), (⟨#[]⟩ : ByteArray), (⟨#[]⟩ : ByteArray), ([] : List ByteArray)) ∧ lineOf ((3 : Int), x, (⟨#[]⟩ : ByteArray), (0 : Int), (⟨#[]⟩ : ByteArray), ([] : List ByteArray), (0 : Int), (⟨#[]⟩ : ByteArray), (⟨#[]⟩ : ByteArray), ([] : List ByteArray)) 20 = some ((⟨#[110, 101, 119]⟩ : ByteArray) :: [x]) := ⟨by kernel_rfl, by kernel_rfl⟩
theorem shape_conflicts (x : ByteArray) : cmd_fill.f (⟨#[99, 111, 110, 102, 108, 105, 99, 116, 115]⟩ : ByteArray) 4 0 0 1 false ([x]) = some ((4 : Int), x, (⟨#[]⟩ : ByteArray), (0 : Int), (⟨#[]⟩ : ByteArray), ([] : List ByteArray), (0 : Int), (⟨#[]⟩ : ByteArray), (⟨#[]⟩ : ByteArray), ([] : List ByteArray)) ∧ lineOf ((4 : Int), x, (⟨#[]⟩ : ByteArray), (0 : Int), (⟨#[]⟩ : ByteArray), ([] : List ByteArray), (0 : Int), (⟨#[]⟩ : ByteArray), (⟨#[]⟩ : ByteArray), ([] : List ByteArray)) 20 = some ((⟨#[99, 111, 110, 102, 108, 105, 99, 116, 115]⟩ : ByteArray) :: [x]) := ⟨by kernel_rfl, by kernel_rfl⟩
theorem shape_show (x : ByteArray) : cmd_fill.f (⟨#[115, 104, 111, 119]⟩ : ByteArray) 5 0 0 1 false ([x]) = some ((5 : Int), x, (⟨#[]⟩ : ByteArray), (0 : Int), (⟨#[]⟩ : ByteArray), ([] : List ByteArray), (0 : Int), (⟨#[]⟩ : ByteArray), (⟨#[]⟩ : ByteArray), ([] : List ByteArray)) ∧ lineOf ((5 : Int), x, (⟨#[]⟩ : ByteArray), (0 : Int), (⟨#[]⟩ : ByteArray), ([] : List ByteArray), (0 : Int), (⟨#[]⟩ : ByteArray), (⟨#[]⟩ : ByteArray), ([] : List ByteArray)) 20 = some ((⟨#[115, 104, 111, 119]⟩ : ByteArray) :: [x]) := ⟨by kernel_rfl, by kernel_rfl⟩
theorem shape_check (x : ByteArray) : cmd_fill.f (⟨#[99, 104, 101, 99, 107]⟩ : ByteArray) 6 0 0 1 false ([x]) = some ((6 : Int), x, (⟨#[]⟩ : ByteArray), (0 : Int), (⟨#[]⟩ : ByteArray), ([] : List ByteArray), (0 : Int), (⟨#[]⟩ : ByteArray), (⟨#[]⟩ : ByteArray), ([] : List ByteArray)) ∧ lineOf ((6 : Int), x, (⟨#[]⟩ : ByteArray), (0 : Int), (⟨#[]⟩ : ByteArray), ([] : List ByteArray), (0 : Int), (⟨#[]⟩ : ByteArray), (⟨#[]⟩ : ByteArray), ([] : List ByteArray)) 20 = some ((⟨#[99, 104, 101, 99, 107]⟩ : ByteArray) :: [x]) := ⟨by kernel_rfl, by kernel_rfl⟩
theorem shape_power : cmd_fill.f (⟨#[112, 111, 119, 101, 114]⟩ : ByteArray) 7 0 0 0 false ([]) = some ((7 : Int), (⟨#[]⟩ : ByteArray), (⟨#[]⟩ : ByteArray), (0 : Int), (⟨#[]⟩ : ByteArray), ([] : List ByteArray), (0 : Int), (⟨#[]⟩ : ByteArray), (⟨#[]⟩ : ByteArray), ([] : List ByteArray)) ∧ lineOf ((7 : Int), (⟨#[]⟩ : ByteArray), (⟨#[]⟩ : ByteArray), (0 : Int), (⟨#[]⟩ : ByteArray), ([] : List ByteArray), (0 : Int), (⟨#[]⟩ : ByteArray), (⟨#[]⟩ : ByteArray), ([] : List ByteArray)) 20 = some ((⟨#[112, 111, 119, 101, 114]⟩ : ByteArray) :: []) := ⟨by kernel_rfl, by kernel_rfl⟩
theorem shape_mkdir (x y : ByteArray) : cmd_fill.f (⟨#[109, 107, 100, 105, 114]⟩ : ByteArray) 1 0 0 2 false ([x, y]) = some ((1 : Int), x, (⟨#[]⟩ : ByteArray), (0 : Int), (⟨#[]⟩ : ByteArray), ([] : List ByteArray), (0 : Int), y, (⟨#[]⟩ : ByteArray), ([] : List ByteArray)) ∧ lineOf ((1 : Int), x, (⟨#[]⟩ : ByteArray), (0 : Int), (⟨#[]⟩ : ByteArray), ([] : List ByteArray), (0 : Int), y, (⟨#[]⟩ : ByteArray), ([] : List ByteArray)) 20 = some ((⟨#[109, 107, 100, 105, 114]⟩ : ByteArray) :: [x, y]) := ⟨by kernel_rfl, (lineOf_edit _ _ _ _ _).trans (by kernel_rfl)⟩
theorem shape_write (x y : ByteArray) (rest : List ByteArray) (h : rest.length ≤ 100000) : cmd_fill.f (⟨#[119, 114, 105, 116, 101]⟩ : ByteArray) 1 0 1 2 true (x :: y :: rest) = some ((1 : Int), x, (⟨#[]⟩ : ByteArray), (0 : Int), (⟨#[]⟩ : ByteArray), ([] : List ByteArray), (1 : Int), y, (⟨#[]⟩ : ByteArray), rest) ∧ lineOf ((1 : Int), x, (⟨#[]⟩ : ByteArray), (0 : Int), (⟨#[]⟩ : ByteArray), ([] : List ByteArray), (1 : Int), y, (⟨#[]⟩ : ByteArray), rest) 20 = some ((⟨#[119, 114, 105, 116, 101]⟩ : ByteArray) :: x :: y :: rest) := by
  have h1 : cmd_fill.f (⟨#[119, 114, 105, 116, 101]⟩ : ByteArray) 1 0 1 2 true (x :: y :: rest) = if rest.length * 16 ≤ 140737488355328 then some ((1 : Int), x, (⟨#[]⟩ : ByteArray), (0 : Int), (⟨#[]⟩ : ByteArray), ([] : List ByteArray), (1 : Int), y, (⟨#[]⟩ : ByteArray), rest) else none := by kernel_rfl
  have h2 : lineOf ((1 : Int), x, (⟨#[]⟩ : ByteArray), (0 : Int), (⟨#[]⟩ : ByteArray), ([] : List ByteArray), (1 : Int), y, (⟨#[]⟩ : ByteArray), rest) 20 = if ([(⟨#[119, 114, 105, 116, 101]⟩ : ByteArray), x, y] : List ByteArray).length + rest.length < 8796093022208 then some ([(⟨#[119, 114, 105, 116, 101]⟩ : ByteArray), x, y] ++ rest) else none := (lineOf_edit _ _ _ _ _).trans (by kernel_rfl)
  rw [h1, h2, if_pos (by omega), if_pos (by simp only [List.length_cons, List.length_nil]; omega)]
  exact ⟨rfl, rfl⟩
theorem shape_remove (x y : ByteArray) : cmd_fill.f (⟨#[114, 101, 109, 111, 118, 101]⟩ : ByteArray) 1 0 2 2 false ([x, y]) = some ((1 : Int), x, (⟨#[]⟩ : ByteArray), (0 : Int), (⟨#[]⟩ : ByteArray), ([] : List ByteArray), (2 : Int), y, (⟨#[]⟩ : ByteArray), ([] : List ByteArray)) ∧ lineOf ((1 : Int), x, (⟨#[]⟩ : ByteArray), (0 : Int), (⟨#[]⟩ : ByteArray), ([] : List ByteArray), (2 : Int), y, (⟨#[]⟩ : ByteArray), ([] : List ByteArray)) 20 = some ((⟨#[114, 101, 109, 111, 118, 101]⟩ : ByteArray) :: [x, y]) := ⟨by kernel_rfl, (lineOf_edit _ _ _ _ _).trans (by kernel_rfl)⟩
theorem shape_move (x y z : ByteArray) : cmd_fill.f (⟨#[109, 111, 118, 101]⟩ : ByteArray) 1 0 3 3 false ([x, y, z]) = some ((1 : Int), x, (⟨#[]⟩ : ByteArray), (0 : Int), (⟨#[]⟩ : ByteArray), ([] : List ByteArray), (3 : Int), y, z, ([] : List ByteArray)) ∧ lineOf ((1 : Int), x, (⟨#[]⟩ : ByteArray), (0 : Int), (⟨#[]⟩ : ByteArray), ([] : List ByteArray), (3 : Int), y, z, ([] : List ByteArray)) 20 = some ((⟨#[109, 111, 118, 101]⟩ : ByteArray) :: [x, y, z]) := ⟨by kernel_rfl, (lineOf_edit _ _ _ _ _).trans (by kernel_rfl)⟩
theorem shape_record (x y : ByteArray) : cmd_fill.f (⟨#[114, 101, 99, 111, 114, 100]⟩ : ByteArray) 1 1 0 2 false ([x, y]) = some ((1 : Int), x, (⟨#[]⟩ : ByteArray), (1 : Int), y, ([] : List ByteArray), (0 : Int), (⟨#[]⟩ : ByteArray), (⟨#[]⟩ : ByteArray), ([] : List ByteArray)) ∧ lineOf ((1 : Int), x, (⟨#[]⟩ : ByteArray), (1 : Int), y, ([] : List ByteArray), (0 : Int), (⟨#[]⟩ : ByteArray), (⟨#[]⟩ : ByteArray), ([] : List ByteArray)) 20 = some ((⟨#[114, 101, 99, 111, 114, 100]⟩ : ByteArray) :: [x, y]) := ⟨by kernel_rfl, by kernel_rfl⟩
theorem shape_unrecord (x y : ByteArray) : cmd_fill.f (⟨#[117, 110, 114, 101, 99, 111, 114, 100]⟩ : ByteArray) 1 2 0 2 false ([x, y]) = some ((1 : Int), x, (⟨#[]⟩ : ByteArray), (2 : Int), y, ([] : List ByteArray), (0 : Int), (⟨#[]⟩ : ByteArray), (⟨#[]⟩ : ByteArray), ([] : List ByteArray)) ∧ lineOf ((1 : Int), x, (⟨#[]⟩ : ByteArray), (2 : Int), y, ([] : List ByteArray), (0 : Int), (⟨#[]⟩ : ByteArray), (⟨#[]⟩ : ByteArray), ([] : List ByteArray)) 20 = some ((⟨#[117, 110, 114, 101, 99, 111, 114, 100]⟩ : ByteArray) :: [x, y]) := ⟨by kernel_rfl, by kernel_rfl⟩
theorem shape_pull (x y : ByteArray) (rest : List ByteArray) (h : rest.length ≤ 100000) : cmd_fill.f (⟨#[112, 117, 108, 108]⟩ : ByteArray) 1 3 0 2 true (x :: y :: rest) = some ((1 : Int), x, y, (3 : Int), (⟨#[]⟩ : ByteArray), rest, (0 : Int), (⟨#[]⟩ : ByteArray), (⟨#[]⟩ : ByteArray), ([] : List ByteArray)) ∧ lineOf ((1 : Int), x, y, (3 : Int), (⟨#[]⟩ : ByteArray), rest, (0 : Int), (⟨#[]⟩ : ByteArray), (⟨#[]⟩ : ByteArray), ([] : List ByteArray)) 20 = some ((⟨#[112, 117, 108, 108]⟩ : ByteArray) :: x :: y :: rest) := by
  have h1 : cmd_fill.f (⟨#[112, 117, 108, 108]⟩ : ByteArray) 1 3 0 2 true (x :: y :: rest) = if rest.length * 16 ≤ 140737488355328 then some ((1 : Int), x, y, (3 : Int), (⟨#[]⟩ : ByteArray), rest, (0 : Int), (⟨#[]⟩ : ByteArray), (⟨#[]⟩ : ByteArray), ([] : List ByteArray)) else none := by kernel_rfl
  have h2 : lineOf ((1 : Int), x, y, (3 : Int), (⟨#[]⟩ : ByteArray), rest, (0 : Int), (⟨#[]⟩ : ByteArray), (⟨#[]⟩ : ByteArray), ([] : List ByteArray)) 20 = if ([(⟨#[112, 117, 108, 108]⟩ : ByteArray), x, y] : List ByteArray).length + rest.length < 8796093022208 then some ([(⟨#[112, 117, 108, 108]⟩ : ByteArray), x, y] ++ rest) else none := by kernel_rfl
  rw [h1, h2, if_pos (by omega), if_pos (by simp only [List.length_cons, List.length_nil]; omega)]
  exact ⟨rfl, rfl⟩
theorem shape_unpull (x : ByteArray) (rest : List ByteArray) (h : rest.length ≤ 100000) : cmd_fill.f (⟨#[117, 110, 112, 117, 108, 108]⟩ : ByteArray) 1 4 0 1 true (x :: rest) = some ((1 : Int), x, (⟨#[]⟩ : ByteArray), (4 : Int), (⟨#[]⟩ : ByteArray), rest, (0 : Int), (⟨#[]⟩ : ByteArray), (⟨#[]⟩ : ByteArray), ([] : List ByteArray)) ∧ lineOf ((1 : Int), x, (⟨#[]⟩ : ByteArray), (4 : Int), (⟨#[]⟩ : ByteArray), rest, (0 : Int), (⟨#[]⟩ : ByteArray), (⟨#[]⟩ : ByteArray), ([] : List ByteArray)) 20 = some ((⟨#[117, 110, 112, 117, 108, 108]⟩ : ByteArray) :: x :: rest) := by
  have h1 : cmd_fill.f (⟨#[117, 110, 112, 117, 108, 108]⟩ : ByteArray) 1 4 0 1 true (x :: rest) = if rest.length * 16 ≤ 140737488355328 then some ((1 : Int), x, (⟨#[]⟩ : ByteArray), (4 : Int), (⟨#[]⟩ : ByteArray), rest, (0 : Int), (⟨#[]⟩ : ByteArray), (⟨#[]⟩ : ByteArray), ([] : List ByteArray)) else none := by kernel_rfl
  have h2 : lineOf ((1 : Int), x, (⟨#[]⟩ : ByteArray), (4 : Int), (⟨#[]⟩ : ByteArray), rest, (0 : Int), (⟨#[]⟩ : ByteArray), (⟨#[]⟩ : ByteArray), ([] : List ByteArray)) 20 = if ([(⟨#[117, 110, 112, 117, 108, 108]⟩ : ByteArray), x] : List ByteArray).length + rest.length < 8796093022208 then some ([(⟨#[117, 110, 112, 117, 108, 108]⟩ : ByteArray), x] ++ rest) else none := by kernel_rfl
  rw [h1, h2, if_pos (by omega), if_pos (by simp only [List.length_cons, List.length_nil]; omega)]
  exact ⟨rfl, rfl⟩
theorem shape_revert (x : ByteArray) : cmd_fill.f (⟨#[114, 101, 118, 101, 114, 116]⟩ : ByteArray) 1 5 0 1 false ([x]) = some ((1 : Int), x, (⟨#[]⟩ : ByteArray), (5 : Int), (⟨#[]⟩ : ByteArray), ([] : List ByteArray), (0 : Int), (⟨#[]⟩ : ByteArray), (⟨#[]⟩ : ByteArray), ([] : List ByteArray)) ∧ lineOf ((1 : Int), x, (⟨#[]⟩ : ByteArray), (5 : Int), (⟨#[]⟩ : ByteArray), ([] : List ByteArray), (0 : Int), (⟨#[]⟩ : ByteArray), (⟨#[]⟩ : ByteArray), ([] : List ByteArray)) 20 = some ((⟨#[114, 101, 118, 101, 114, 116]⟩ : ByteArray) :: [x]) := ⟨by kernel_rfl, by kernel_rfl⟩
theorem shape_resolve (x : ByteArray) : cmd_fill.f (⟨#[114, 101, 115, 111, 108, 118, 101]⟩ : ByteArray) 1 6 0 1 false ([x]) = some ((1 : Int), x, (⟨#[]⟩ : ByteArray), (6 : Int), (⟨#[]⟩ : ByteArray), ([] : List ByteArray), (0 : Int), (⟨#[]⟩ : ByteArray), (⟨#[]⟩ : ByteArray), ([] : List ByteArray)) ∧ lineOf ((1 : Int), x, (⟨#[]⟩ : ByteArray), (6 : Int), (⟨#[]⟩ : ByteArray), ([] : List ByteArray), (0 : Int), (⟨#[]⟩ : ByteArray), (⟨#[]⟩ : ByteArray), ([] : List ByteArray)) 20 = some ((⟨#[114, 101, 115, 111, 108, 118, 101]⟩ : ByteArray) :: [x]) := ⟨by kernel_rfl, by kernel_rfl⟩
theorem joinL_flat (x : List UInt8) : ∀ l : List (List UInt8), joinL 32 (x :: l) = x ++ (l.map (32 :: ·)).flatten
  | [] => by simp [joinL]
  | y :: l => by
    rw [joinL_cons 32 x (by simp), joinL_flat y l]
    simp
theorem rdOf_at {l : List ByteArray} {i : Nat} {x : ByteArray} {t : List ByteArray} (h : l.drop i = x :: t) : rdOf ByteArray.empty l (i : Int) = x := by
  have : l[i]? = some x := by
    have := congrArg (fun l => l[0]?) h
    simpa using this
  rw [rdOf, Int.toNat_natCast, List.getD_eq_getElem?_getD, this]
  rfl
theorem refText_loop (l : List ByteArray) (hl : l.length ≤ 100000) (hx : ∀ x ∈ l, x.size ≤ 300000) : ∀ (t : List ByteArray) (i : Nat) (out : List UInt8), l.drop i = t → out.length ≤ 2000000 * i →
    Ev (fun k => rafterref35_Text.l0 k l (B out) (i : Int)) (B (out ++ (t.map (fun s => 32 :: wordL s.toList)).flatten))
  | [], i, out, ht, ho => by
    have hge := List.drop_eq_nil_iff.1 ht
    refine Ev.step (f := fun k => some _) (fun k => ?_) (Ev.now _)
    simp only [rafterref35_Text.l0]
    rw [if_neg (by omega)]
    simp
  | x :: t, i, out, ht, ho => by
    have hlt : i < l.length := by
      rcases Nat.lt_or_ge i l.length with h' | h'
      · exact h'
      · rw [List.drop_eq_nil_of_le h'] at ht; cases ht
    have hr := rdOf_at ht
    have hsz := hx x (by
      have : x ∈ l.drop i := by rw [ht]; exact List.mem_cons_self
      exact List.mem_of_mem_drop this)
    have hwl := word_length x.toList
    rw [toList_length] at hwl
    have ht2 : l.drop (i + 1) = t := by rw [← List.drop_drop, ht]; rfl
    have ih := refText_loop l hl hx t (i + 1) (out ++ 32 :: wordL x.toList) ht2 (by rw [List.length_append, List.length_cons]; omega)
    rw [List.append_assoc, ← List.flatten_cons, ← List.map_cons (f := fun s : ByteArray => 32 :: wordL s.toList)] at ih
    have hw : wrap64 ((i : Int) + 1) = ((i + 1 : Nat) : Int) := wr1 (by omega)
    have hv := refWord_ev x (by omega)
    clear ht ht2
    obtain ⟨N, hN0⟩ := hv
    have hN : ∀ k, N ≤ k → rafterref35_Word.f k x = some (B (wordL x.toList)) := hN0
    obtain ⟨M, hM⟩ := ih
    refine ⟨max N M + 1, fun k hk => ?_⟩
    obtain ⟨j, rfl⟩ : ∃ j, k = j + 1 := ⟨k - 1, by omega⟩
    simp only [rafterref35_Text.l0]
    have e1 : (B out ++ (⟨#[32]⟩ : ByteArray)) = B (out ++ [32]) := B_append out [32]
    rw [if_pos (by omega), if_pos (by rw [size_B]; omega), if_pos (by omega), hr, hN j (by omega), Option.bind_some, e1, if_pos (by rw [size_B, size_B, List.length_append, List.length_singleton]; omega), B_append, List.append_assoc, hw]
    exact hM j (by omega)
theorem refText_ev (v : ByteArray) (l : List ByteArray) (hl : l.length ≤ 90000) (hv : v.size ≤ 300000) (hx : ∀ x ∈ l, x.size ≤ 300000) :
    Ev (fun k => rafterref35_Text.f k (v :: l)) (B (joinL 32 (v.toList :: l.map (fun s => wordL s.toList)))) := by
  unfold rafterref35_Text.f
  refine Ev.pos (by rw [List.length_cons]; omega) ?_
  have := refText_loop (v :: l) (by rw [List.length_cons]; omega) (fun x h => by
    rcases List.mem_cons.1 h with h | h
    · rw [h]; exact hv
    · exact hx x h) l 1 v.toList rfl (by rw [toList_length]; omega)
  rw [joinL_flat, List.map_map, show rdOf ByteArray.empty (v :: l) 0 = v from rfl]
  rw [B_toList] at this
  exact this
end Go.Proofs.YtloibeefopdhpaaDoor.Plain
