/- CmdTexts in plain words. -/
import Derived.Test.YtloibeefopdhpaaDoorCmdWord
import Derived.Test.YtloibeefopdhpaaDoorCmdParse
import Derived.Test.YtloibeefopdhpaaDoorSplit
import Derived.Test.YtloibeefopdhpaaDoorG15
import Derived.Test.YtloibeefopdhpaaDoorG19
import Derived.Test.YtloibeefopdhpaaDoorG17
import Derived.Test.YtloibeefopdhpaaDoorBytes
import Derived.Test.YtloibeefopdhpaaDoorG2
import Derived.Test.YtloibeefopdhpaaDoorG3
import Derived.Test.YtloibeefopdhpaaDoorG16
import Derived.Test.YtloibeefopdhpaaDoorG9
import Derived.Test.YtloibeefopdhpaaDoorG8
import Derived.Test.YtloibeefopdhpaaDoorG14
import Derived.Test.YtloibeefopdhpaaDoorCmdTextsLaw
set_option linter.unusedVariables false
set_option linter.unusedSimpArgs false
namespace Go.Proofs.YtloibeefopdhpaaDoor.Plain
open Go.RowKit Go.Proofs.YtloibeefopdhpaaDoor.G Go.Proofs.YtloibeefopdhpaaDoorW.PrintWords Go.Proofs.YtloibeefopdhpaaDoorW.PrintLast Go.Proofs.YtloibeefopdhpaaDoorW.PrintMore
def unall : List (List UInt8) → Option (List (List UInt8))
  | [] => some []
  | w :: l => if wordL (readL w) = w then (unall l).map (readL w :: ·) else none
theorem parseRest_ev : ∀ (ws : List (List UInt8)) (acc : List ByteArray), (∀ w ∈ ws, w.length ≤ 300000) → ws.length + acc.length ≤ 100000 →
    Ev (fun k => parseRest k (ws.map B) acc) (match unall ws with | some m => (acc ++ m.map B, 0) | none => ([], 17))
  | [], acc, hw, hl => by
    show Ev (fun k => some (acc, (0 : Int))) (acc ++ [], (0 : Int))
    rw [List.append_nil]
    exact Ev.now _
  | w :: ws, acc, hw, hl => by
    have hu := unword_ev (B w) (by rw [size_B]; exact hw w List.mem_cons_self)
    rw [toList_B] at hu
    simp only [List.length_cons] at hl
    rw [List.map_cons]
    unfold parseRest
    refine Ev.bind hu ?_
    unfold unwordL
    rw [unall]
    by_cases h : wordL (readL w) = w
    · rw [if_pos h, if_pos h]
      have ih := parseRest_ev ws (acc ++ [B (readL w)]) (fun x hx => hw x (List.mem_cons_of_mem _ hx)) (by rw [List.length_append, List.length_singleton]; omega)
      refine Ev.pos rfl (Ev.pos (by omega) ?_)
      cases hm : unall ws with
      | none =>
        rw [hm] at ih
        exact ih
      | some m =>
        rw [hm] at ih
        replace ih : Ev (fun k => parseRest k (ws.map B) (acc ++ [B (readL w)])) (acc ++ [B (readL w)] ++ m.map B, (0 : Int)) := ih
        rw [List.append_assoc] at ih
        exact ih
    · rw [if_neg h, if_neg h]
      exact Ev.neg (fun h => by cases h) (Ev.now _)
def lineOf (r : Int × ByteArray × ByteArray × Int × ByteArray × List ByteArray × Int × ByteArray × ByteArray × List ByteArray) (k : Nat) : Option (List ByteArray) :=
  rafterref35_Line.f k r.1 r.2.1 r.2.2.1 r.2.2.2.1 r.2.2.2.2.1 r.2.2.2.2.2.1 r.2.2.2.2.2.2.1 r.2.2.2.2.2.2.2.1 r.2.2.2.2.2.2.2.2.1 r.2.2.2.2.2.2.2.2.2
theorem shape_init (x : ByteArray) : cmd_fill.f (⟨#[105, 110, 105, 116]⟩ : ByteArray) 0 0 0 1 false ([x]) = some ((0 : Int), x, (⟨#[]⟩ : ByteArray), (0 : Int), (⟨#[]⟩ : ByteArray), ([] : List ByteArray), (0 : Int), (⟨#[]⟩ : ByteArray), (⟨#[]⟩ : ByteArray), ([] : List ByteArray)) ∧ lineOf ((0 : Int), x, (⟨#[]⟩ : ByteArray), (0 : Int), (⟨#[]⟩ : ByteArray), ([] : List ByteArray), (0 : Int), (⟨#[]⟩ : ByteArray), (⟨#[]⟩ : ByteArray), ([] : List ByteArray)) 20 = some ((⟨#[105, 110, 105, 116]⟩ : ByteArray) :: [x]) := ⟨by kernel_rfl, by kernel_rfl⟩
theorem shape_log (x : ByteArray) : cmd_fill.f (⟨#[108, 111, 103]⟩ : ByteArray) 2 0 0 1 false ([x]) = some ((2 : Int), x, (⟨#[]⟩ : ByteArray), (0 : Int), (⟨#[]⟩ : ByteArray), ([] : List ByteArray), (0 : Int), (⟨#[]⟩ : ByteArray), (⟨#[]⟩ : ByteArray), ([] : List ByteArray)) ∧ lineOf ((2 : Int), x, (⟨#[]⟩ : ByteArray), (0 : Int), (⟨#[]⟩ : ByteArray), ([] : List ByteArray), (0 : Int), (⟨#[]⟩ : ByteArray), (⟨#[]⟩ : ByteArray), ([] : List ByteArray)) 20 = some ((⟨#[108, 111, 103]⟩ : ByteArray) :: [x]) := ⟨by kernel_rfl, by kernel_rfl⟩
theorem shape_new (x : ByteArray) : cmd_fill.f (⟨#[110, 101, 119]⟩ : ByteArray) 3 0 0 1 false ([x]) = some ((3 : Int), x, (⟨#[]⟩ : ByteArray), (0 : Int), (⟨#[]⟩ : ByteArray), ([] : List ByteArray), (0 : Int), (⟨#[]⟩ : ByteArray), (⟨#[]⟩ : ByteArray), ([] : List ByteArray)) ∧ lineOf ((3 : Int), x, (⟨#[]⟩ : ByteArray), (0 : Int), (⟨#[]⟩ : ByteArray), ([] : List ByteArray), (0 : Int), (⟨#[]⟩ : ByteArray), (⟨#[]⟩ : ByteArray), ([] : List ByteArray)) 20 = some ((⟨#[110, 101, 119]⟩ : ByteArray) :: [x]) := ⟨by kernel_rfl, by kernel_rfl⟩
theorem shape_conflicts (x : ByteArray) : cmd_fill.f (⟨#[99, 111, 110, 102, 108, 105, 99, 116, 115]⟩ : ByteArray) 4 0 0 1 false ([x]) = some ((4 : Int), x, (⟨#[]⟩ : ByteArray), (0 : Int), (⟨#[]⟩ : ByteArray), ([] : List ByteArray), (0 : Int), (⟨#[]⟩ : ByteArray), (⟨#[]⟩ : ByteArray), ([] : List ByteArray)) ∧ lineOf ((4 : Int), x, (⟨#[]⟩ : ByteArray), (0 : Int), (⟨#[]⟩ : ByteArray), ([] : List ByteArray), (0 : Int), (⟨#[]⟩ : ByteArray), (⟨#[]⟩ : ByteArray), ([] : List ByteArray)) 20 = some ((⟨#[99, 111, 110, 102, 108, 105, 99, 116, 115]⟩ : ByteArray) :: [x]) := ⟨by kernel_rfl, by kernel_rfl⟩
theorem shape_show (x : ByteArray) : cmd_fill.f (⟨#[115, 104, 111, 119]⟩ : ByteArray) 5 0 0 1 false ([x]) = some ((5 : Int), x, (⟨#[]⟩ : ByteArray), (0 : Int), (⟨#[]⟩ : ByteArray), ([] : List ByteArray), (0 : Int), (⟨#[]⟩ : ByteArray), (⟨#[]⟩ : ByteArray), ([] : List ByteArray)) ∧ lineOf ((5 : Int), x, (⟨#[]⟩ : ByteArray), (0 : Int), (⟨#[]⟩ : ByteArray), ([] : List ByteArray), (0 : Int), (⟨#[]⟩ : ByteArray), (⟨#[]⟩ : ByteArray), ([] : List ByteArray)) 20 = some ((⟨#[115, 104, 111, 119]⟩ : ByteArray) :: [x]) := ⟨by kernel_rfl, by kernel_rfl⟩
theorem shape_check (x : ByteArray) : cmd_fill.f (⟨#[99, 104, 101, 99, 107]⟩ : ByteArray) 6 0 0 1 false ([x]) = some ((6 : Int), x, (⟨#[]⟩ : ByteArray), (0 : Int), (⟨#[]⟩ : ByteArray), ([] : List ByteArray), (0 : Int), (⟨#[]⟩ : ByteArray), (⟨#[]⟩ : ByteArray), ([] : List ByteArray)) ∧ lineOf ((6 : Int), x, (⟨#[]⟩ : ByteArray), (0 : Int), (⟨#[]⟩ : ByteArray), ([] : List ByteArray), (0 : Int), (⟨#[]⟩ : ByteArray), (⟨#[]⟩ : ByteArray), ([] : List ByteArray)) 20 = some ((⟨#[99, 104, 101, 99, 107]⟩ : ByteArray) :: [x]) := ⟨by kernel_rfl, by kernel_rfl⟩
theorem shape_power : cmd_fill.f (⟨#[112, 111, 119, 101, 114]⟩ : ByteArray) 7 0 0 0 false ([]) = some ((7 : Int), (⟨#[]⟩ : ByteArray), (⟨#[]⟩ : ByteArray), (0 : Int), (⟨#[]⟩ : ByteArray), ([] : List ByteArray), (0 : Int), (⟨#[]⟩ : ByteArray), (⟨#[]⟩ : ByteArray), ([] : List ByteArray)) ∧ lineOf ((7 : Int), (⟨#[]⟩ : ByteArray), (⟨#[]⟩ : ByteArray), (0 : Int), (⟨#[]⟩ : ByteArray), ([] : List ByteArray), (0 : Int), (⟨#[]⟩ : ByteArray), (⟨#[]⟩ : ByteArray), ([] : List ByteArray)) 20 = some ((⟨#[112, 111, 119, 101, 114]⟩ : ByteArray) :: []) := ⟨by kernel_rfl, by kernel_rfl⟩
theorem shape_mkdir (x y : ByteArray) : cmd_fill.f (⟨#[109, 107, 100, 105, 114]⟩ : ByteArray) 1 0 0 2 false ([x, y]) = some ((1 : Int), x, (⟨#[]⟩ : ByteArray), (0 : Int), (⟨#[]⟩ : ByteArray), ([] : List ByteArray), (0 : Int), y, (⟨#[]⟩ : ByteArray), ([] : List ByteArray)) ∧ lineOf ((1 : Int), x, (⟨#[]⟩ : ByteArray), (0 : Int), (⟨#[]⟩ : ByteArray), ([] : List ByteArray), (0 : Int), y, (⟨#[]⟩ : ByteArray), ([] : List ByteArray)) 20 = some ((⟨#[109, 107, 100, 105, 114]⟩ : ByteArray) :: [x, y]) := ⟨by kernel_rfl, by kernel_rfl⟩
theorem shape_write (x y : ByteArray) (rest : List ByteArray) (h : rest.length ≤ 100000) : cmd_fill.f (⟨#[119, 114, 105, 116, 101]⟩ : ByteArray) 1 0 1 2 true (x :: y :: rest) = some ((1 : Int), x, (⟨#[]⟩ : ByteArray), (0 : Int), (⟨#[]⟩ : ByteArray), ([] : List ByteArray), (1 : Int), y, (⟨#[]⟩ : ByteArray), rest) ∧ lineOf ((1 : Int), x, (⟨#[]⟩ : ByteArray), (0 : Int), (⟨#[]⟩ : ByteArray), ([] : List ByteArray), (1 : Int), y, (⟨#[]⟩ : ByteArray), rest) 20 = some ((⟨#[119, 114, 105, 116, 101]⟩ : ByteArray) :: x :: y :: rest) := by
  have h1 : cmd_fill.f (⟨#[119, 114, 105, 116, 101]⟩ : ByteArray) 1 0 1 2 true (x :: y :: rest) = if rest.length * 16 ≤ 140737488355328 then some ((1 : Int), x, (⟨#[]⟩ : ByteArray), (0 : Int), (⟨#[]⟩ : ByteArray), ([] : List ByteArray), (1 : Int), y, (⟨#[]⟩ : ByteArray), rest) else none := by kernel_rfl
  have h2 : lineOf ((1 : Int), x, (⟨#[]⟩ : ByteArray), (0 : Int), (⟨#[]⟩ : ByteArray), ([] : List ByteArray), (1 : Int), y, (⟨#[]⟩ : ByteArray), rest) 20 = (if ([(⟨#[119, 114, 105, 116, 101]⟩ : ByteArray), x, y] : List ByteArray).length + rest.length < 8796093022208 then some ([(⟨#[119, 114, 105, 116, 101]⟩ : ByteArray), x, y] ++ rest) else none).bind (fun t => some t) := by kernel_rfl
  rw [h1, h2, if_pos (by omega), if_pos (by simp only [List.length_cons, List.length_nil]; omega)]
  exact ⟨rfl, rfl⟩
theorem shape_remove (x y : ByteArray) : cmd_fill.f (⟨#[114, 101, 109, 111, 118, 101]⟩ : ByteArray) 1 0 2 2 false ([x, y]) = some ((1 : Int), x, (⟨#[]⟩ : ByteArray), (0 : Int), (⟨#[]⟩ : ByteArray), ([] : List ByteArray), (2 : Int), y, (⟨#[]⟩ : ByteArray), ([] : List ByteArray)) ∧ lineOf ((1 : Int), x, (⟨#[]⟩ : ByteArray), (0 : Int), (⟨#[]⟩ : ByteArray), ([] : List ByteArray), (2 : Int), y, (⟨#[]⟩ : ByteArray), ([] : List ByteArray)) 20 = some ((⟨#[114, 101, 109, 111, 118, 101]⟩ : ByteArray) :: [x, y]) := ⟨by kernel_rfl, by kernel_rfl⟩
theorem shape_move (x y z : ByteArray) : cmd_fill.f (⟨#[109, 111, 118, 101]⟩ : ByteArray) 1 0 3 3 false ([x, y, z]) = some ((1 : Int), x, (⟨#[]⟩ : ByteArray), (0 : Int), (⟨#[]⟩ : ByteArray), ([] : List ByteArray), (3 : Int), y, z, ([] : List ByteArray)) ∧ lineOf ((1 : Int), x, (⟨#[]⟩ : ByteArray), (0 : Int), (⟨#[]⟩ : ByteArray), ([] : List ByteArray), (3 : Int), y, z, ([] : List ByteArray)) 20 = some ((⟨#[109, 111, 118, 101]⟩ : ByteArray) :: [x, y, z]) := ⟨by kernel_rfl, by kernel_rfl⟩
theorem shape_record (x y : ByteArray) : cmd_fill.f (⟨#[114, 101, 99, 111, 114, 100]⟩ : ByteArray) 1 1 0 2 false ([x, y]) = some ((1 : Int), x, (⟨#[]⟩ : ByteArray), (1 : Int), y, ([] : List ByteArray), (0 : Int), (⟨#[]⟩ : ByteArray), (⟨#[]⟩ : ByteArray), ([] : List ByteArray)) ∧ lineOf ((1 : Int), x, (⟨#[]⟩ : ByteArray), (1 : Int), y, ([] : List ByteArray), (0 : Int), (⟨#[]⟩ : ByteArray), (⟨#[]⟩ : ByteArray), ([] : List ByteArray)) 20 = some ((⟨#[114, 101, 99, 111, 114, 100]⟩ : ByteArray) :: [x, y]) := ⟨by kernel_rfl, by kernel_rfl⟩
theorem shape_unrecord (x y : ByteArray) : cmd_fill.f (⟨#[117, 110, 114, 101, 99, 111, 114, 100]⟩ : ByteArray) 1 2 0 2 false ([x, y]) = some ((1 : Int), x, (⟨#[]⟩ : ByteArray), (2 : Int), y, ([] : List ByteArray), (0 : Int), (⟨#[]⟩ : ByteArray), (⟨#[]⟩ : ByteArray), ([] : List ByteArray)) ∧ lineOf ((1 : Int), x, (⟨#[]⟩ : ByteArray), (2 : Int), y, ([] : List ByteArray), (0 : Int), (⟨#[]⟩ : ByteArray), (⟨#[]⟩ : ByteArray), ([] : List ByteArray)) 20 = some ((⟨#[117, 110, 114, 101, 99, 111, 114, 100]⟩ : ByteArray) :: [x, y]) := ⟨by kernel_rfl, by kernel_rfl⟩
theorem shape_pull (x y : ByteArray) (rest : List ByteArray) (h : rest.length ≤ 100000) : cmd_fill.f (⟨#[112, 117, 108, 108]⟩ : ByteArray) 1 3 0 2 true (x :: y :: rest) = some ((1 : Int), x, y, (3 : Int), (⟨#[]⟩ : ByteArray), rest, (0 : Int), (⟨#[]⟩ : ByteArray), (⟨#[]⟩ : ByteArray), ([] : List ByteArray)) ∧ lineOf ((1 : Int), x, y, (3 : Int), (⟨#[]⟩ : ByteArray), rest, (0 : Int), (⟨#[]⟩ : ByteArray), (⟨#[]⟩ : ByteArray), ([] : List ByteArray)) 20 = some ((⟨#[112, 117, 108, 108]⟩ : ByteArray) :: x :: y :: rest) := by
  have h1 : cmd_fill.f (⟨#[112, 117, 108, 108]⟩ : ByteArray) 1 3 0 2 true (x :: y :: rest) = if rest.length * 16 ≤ 140737488355328 then some ((1 : Int), x, y, (3 : Int), (⟨#[]⟩ : ByteArray), rest, (0 : Int), (⟨#[]⟩ : ByteArray), (⟨#[]⟩ : ByteArray), ([] : List ByteArray)) else none := by kernel_rfl
  have h2 : lineOf ((1 : Int), x, y, (3 : Int), (⟨#[]⟩ : ByteArray), rest, (0 : Int), (⟨#[]⟩ : ByteArray), (⟨#[]⟩ : ByteArray), ([] : List ByteArray)) 20 = if ([(⟨#[112, 117, 108, 108]⟩ : ByteArray), x, y] : List ByteArray).length + rest.length < 8796093022208 then some ([(⟨#[112, 117, 108, 108]⟩ : ByteArray), x, y] ++ rest) else none := by kernel_rfl
  rw [h1, h2, if_pos (by omega), if_pos (by simp only [List.length_cons, List.length_nil]; omega)]
  exact ⟨rfl, rfl⟩
theorem shape_unpull (x : ByteArray) (rest : List ByteArray) (h : rest.length ≤ 100000) : cmd_fill.f (⟨#[117, 110, 112, 117, 108, 108]⟩ : ByteArray) 1 4 0 1 true (x :: rest) = some ((1 : Int), x, (⟨#[]⟩ : ByteArray), (4 : Int), (⟨#[]⟩ : ByteArray), rest, (0 : Int), (⟨#[]⟩ : ByteArray), (⟨#[]⟩ : ByteArray), ([] : List ByteArray)) ∧ lineOf ((1 : Int), x, (⟨#[]⟩ : ByteArray), (4 : Int), (⟨#[]⟩ : ByteArray), rest, (0 : Int), (⟨#[]⟩ : ByteArray), (⟨#[]⟩ : ByteArray), ([] : List ByteArray)) 20 = some ((⟨#[117, 110, 112, 117, 108, 108]⟩ : ByteArray) :: x :: rest) := by
  have h1 : cmd_fill.f (⟨#[117, 110, 112, 117, 108, 108]⟩ : ByteArray) 1 4 0 1 true (x :: rest) = if rest.length * 16 ≤ 140737488355328 then some ((1 : Int), x, (⟨#[]⟩ : ByteArray), (4 : Int), (⟨#[]⟩ : ByteArray), rest, (0 : Int), (⟨#[]⟩ : ByteArray), (⟨#[]⟩ : ByteArray), ([] : List ByteArray)) else none := by kernel_rfl
  have h2 : lineOf ((1 : Int), x, (⟨#[]⟩ : ByteArray), (4 : Int), (⟨#[]⟩ : ByteArray), rest, (0 : Int), (⟨#[]⟩ : ByteArray), (⟨#[]⟩ : ByteArray), ([] : List ByteArray)) 20 = if ([(⟨#[117, 110, 112, 117, 108, 108]⟩ : ByteArray), x] : List ByteArray).length + rest.length < 8796093022208 then some ([(⟨#[117, 110, 112, 117, 108, 108]⟩ : ByteArray), x] ++ rest) else none := by kernel_rfl
  rw [h1, h2, if_pos (by omega), if_pos (by simp only [List.length_cons, List.length_nil]; omega)]
  exact ⟨rfl, rfl⟩
theorem shape_revert (x : ByteArray) : cmd_fill.f (⟨#[114, 101, 118, 101, 114, 116]⟩ : ByteArray) 1 5 0 1 false ([x]) = some ((1 : Int), x, (⟨#[]⟩ : ByteArray), (5 : Int), (⟨#[]⟩ : ByteArray), ([] : List ByteArray), (0 : Int), (⟨#[]⟩ : ByteArray), (⟨#[]⟩ : ByteArray), ([] : List ByteArray)) ∧ lineOf ((1 : Int), x, (⟨#[]⟩ : ByteArray), (5 : Int), (⟨#[]⟩ : ByteArray), ([] : List ByteArray), (0 : Int), (⟨#[]⟩ : ByteArray), (⟨#[]⟩ : ByteArray), ([] : List ByteArray)) 20 = some ((⟨#[114, 101, 118, 101, 114, 116]⟩ : ByteArray) :: [x]) := ⟨by kernel_rfl, by kernel_rfl⟩
theorem shape_resolve (x : ByteArray) : cmd_fill.f (⟨#[114, 101, 115, 111, 108, 118, 101]⟩ : ByteArray) 1 6 0 1 false ([x]) = some ((1 : Int), x, (⟨#[]⟩ : ByteArray), (6 : Int), (⟨#[]⟩ : ByteArray), ([] : List ByteArray), (0 : Int), (⟨#[]⟩ : ByteArray), (⟨#[]⟩ : ByteArray), ([] : List ByteArray)) ∧ lineOf ((1 : Int), x, (⟨#[]⟩ : ByteArray), (6 : Int), (⟨#[]⟩ : ByteArray), ([] : List ByteArray), (0 : Int), (⟨#[]⟩ : ByteArray), (⟨#[]⟩ : ByteArray), ([] : List ByteArray)) 20 = some ((⟨#[114, 101, 115, 111, 108, 118, 101]⟩ : ByteArray) :: [x]) := ⟨by kernel_rfl, by kernel_rfl⟩
theorem joinL_flat (x : List UInt8) : ∀ l : List (List UInt8), joinL 32 (x :: l) = x ++ (l.map (32 :: ·)).flatten
  | [] => by simp [joinL]
  | y :: l => by
    rw [joinL_cons 32 x (by simp), joinL_flat y l]
    simp
theorem rdOf_at {l : List ByteArray} {i : Nat} {x : ByteArray} {t : List ByteArray} (h : l.drop i = x :: t) : rdOf ByteArray.empty l (i : Int) = x := by
  have : l[i]? = some x := by
    have := congrArg (fun l => l[0]?) h
    simpa using this
  rw [rdOf, Int.toNat_natCast, List.getD_eq_getElem?_getD, this]
  rfl
theorem refText_loop (l : List ByteArray) (hl : l.length ≤ 100000) (hx : ∀ x ∈ l, x.size ≤ 300000) : ∀ (t : List ByteArray) (i : Nat) (out : List UInt8), l.drop i = t → out.length ≤ 2000000 * i →
    Ev (fun k => rafterref35_Text.l0 k l (B out) (i : Int)) (B (out ++ (t.map (fun s => 32 :: wordL s.toList)).flatten))
  | [], i, out, ht, ho => by
    have hge := List.drop_eq_nil_iff.1 ht
    refine Ev.step (f := fun k => some _) (fun k => ?_) (Ev.now _)
    simp only [rafterref35_Text.l0]
    rw [if_neg (by omega)]
    simp
  | x :: t, i, out, ht, ho => by
    have hlt : i < l.length := by
      rcases Nat.lt_or_ge i l.length with h' | h'
      · exact h'
      · rw [List.drop_eq_nil_of_le h'] at ht; cases ht
    have hr := rdOf_at ht
    have hsz := hx x (by
      have : x ∈ l.drop i := by rw [ht]; exact List.mem_cons_self
      exact List.mem_of_mem_drop this)
    have hwl := word_length x.toList
    rw [toList_length] at hwl
    have ht2 : l.drop (i + 1) = t := by rw [← List.drop_drop, ht]; rfl
    have ih := refText_loop l hl hx t (i + 1) (out ++ 32 :: wordL x.toList) ht2 (by rw [List.length_append, List.length_cons]; omega)
    rw [List.append_assoc, ← List.flatten_cons, ← List.map_cons (f := fun s : ByteArray => 32 :: wordL s.toList)] at ih
    have hw : wrap64 ((i : Int) + 1) = ((i + 1 : Nat) : Int) := wr1 (by omega)
    have hv := refWord_ev x (by omega)
    clear ht ht2
    obtain ⟨N, hN0⟩ := hv
    have hN : ∀ k, N ≤ k → rafterref35_Word.f k x = some (B (wordL x.toList)) := hN0
    obtain ⟨M, hM⟩ := ih
    refine ⟨max N M + 1, fun k hk => ?_⟩
    obtain ⟨j, rfl⟩ : ∃ j, k = j + 1 := ⟨k - 1, by omega⟩
    simp only [rafterref35_Text.l0]
    have e1 : (B out ++ (⟨#[32]⟩ : ByteArray)) = B (out ++ [32]) := B_append out [32]
    rw [if_pos (by omega), if_pos (by rw [size_B]; omega), if_pos (by omega), hr, hN j (by omega), Option.bind_some, e1, if_pos (by rw [size_B, size_B, List.length_append, List.length_singleton]; omega), B_append, List.append_assoc, hw]
    exact hM j (by omega)
theorem refText_ev (v : ByteArray) (l : List ByteArray) (hl : l.length ≤ 90000) (hv : v.size ≤ 300000) (hx : ∀ x ∈ l, x.size ≤ 300000) :
    Ev (fun k => rafterref35_Text.f k (v :: l)) (B (joinL 32 (v.toList :: l.map (fun s => wordL s.toList)))) := by
  unfold rafterref35_Text.f
  refine Ev.pos (by rw [List.length_cons]; omega) ?_
  have := refText_loop (v :: l) (by rw [List.length_cons]; omega) (fun x h => by
    rcases List.mem_cons.1 h with h | h
    · rw [h]; exact hv
    · exact hx x h) l 1 v.toList rfl (by rw [toList_length]; omega)
  rw [joinL_flat, List.map_map, show rdOf ByteArray.empty (v :: l) 0 = v from rfl]
  rw [B_toList] at this
  exact this
end Go.Proofs.YtloibeefopdhpaaDoor.Plain
set_option linter.unusedVariables false
namespace Go.Proofs.YtloibeefopdhpaaDoor.G
open Go.RowKit Go.Proofs.YtloibeefopdhpaaDoorW.PrintWords Go.Proofs.YtloibeefopdhpaaDoorW.PrintLast Go.Proofs.YtloibeefopdhpaaDoorW.PrintMore Go.Proofs.YtloibeefopdhpaaDoor.Plain
theorem rdOf_drop {l : List ByteArray} {i : Nat} {s : ByteArray} {t : List ByteArray} (h : l.drop i = s :: t) : rdOf ByteArray.empty l (i : Int) = s := by
  have : l[i]? = some s := by
    have := congrArg (fun l => l[0]?) h
    simpa using this
  rw [rdOf, Int.toNat_natCast, List.getD_eq_getElem?_getD, this]
  rfl
theorem equal_loop (a b : List ByteArray) (hl : a.length = b.length) (hm : a.length ≤ 9223372036854775807) : ∀ (t u : List ByteArray) (i : Nat), a.drop i = t → b.drop i = u →
    Ev (fun k => slices_Equal_string_string.l0 k a b (a.length : Int) (i : Int)) (decide (t.map ByteArray.toList = u.map ByteArray.toList))
  | [], u, i, ht, hu => by
    have hge := List.drop_eq_nil_iff.1 ht
    have e : u = [] := by rw [← hu]; exact List.drop_eq_nil_iff.2 (by omega)
    subst e
    refine Ev.step (f := fun k => some true) (fun k => ?_) (Ev.now _)
    simp only [slices_Equal_string_string.l0]
    rw [if_neg (by omega)]
  | x :: t, u, i, ht, hu => by
    have hlt : i < a.length := by
      rcases Nat.lt_or_ge i a.length with h' | h'
      · exact h'
      · rw [List.drop_eq_nil_of_le h'] at ht; cases ht
    have ht2 : a.drop (i + 1) = t := by rw [← List.drop_drop, ht]; rfl
    cases u with
    | nil =>
      have := List.drop_eq_nil_iff.1 hu
      omega
    | cons y u =>
      have hu2 : b.drop (i + 1) = u := by rw [← List.drop_drop, hu]; rfl
      have hw : wrap64 ((i : Int) + 1) = ((i + 1 : Nat) : Int) := by rw [wrap64_in (by omega) (by omega)]; omega
      by_cases e : x.toList = y.toList
      · have ih := equal_loop a b hl hm t u (i + 1) ht2 hu2
        have e2 : decide ((x :: t).map ByteArray.toList = (y :: u).map ByteArray.toList) = decide (t.map ByteArray.toList = u.map ByteArray.toList) := by simp [e]
        rw [e2]
        refine Ev.step (fun k => ?_) ih
        simp only [slices_Equal_string_string.l0]
        rw [if_pos (by omega), if_pos (by omega), if_pos (by omega), if_pos (by omega), rdOf_drop ht, rdOf_drop hu, if_pos e, hw]
      · have e2 : decide ((x :: t).map ByteArray.toList = (y :: u).map ByteArray.toList) = false := decide_eq_false (fun h => e (by simp at h; exact h.1))
        rw [e2]
        refine Ev.step (f := fun k => some false) (fun k => ?_) (Ev.now _)
        simp only [slices_Equal_string_string.l0]
        rw [if_pos (by omega), if_pos (by omega), if_pos (by omega), if_pos (by omega), rdOf_drop ht, rdOf_drop hu, if_neg e]
theorem equal_ev (a b : List ByteArray) (hm : b.length ≤ 9223372036854775806) : Ev (fun k => slices_Equal_string_string.f k a b) (decide (a.map ByteArray.toList = b.map ByteArray.toList)) := by
  unfold slices_Equal_string_string.f
  by_cases h : a.length = b.length
  · exact Ev.pos (by omega) (equal_loop a b h (by omega) _ _ 0 rfl rfl)
  · refine Ev.neg (by omega) ?_
    rw [decide_eq_false (fun e => h (by have := congrArg List.length e; simpa using this))]
    exact Ev.now _
end Go.Proofs.YtloibeefopdhpaaDoor.G
namespace Go.Proofs.YtloibeefopdhpaaDoor.Plain
open Go.RowKit Go.Proofs.YtloibeefopdhpaaDoor.G Go.Proofs.YtloibeefopdhpaaDoorW.PrintWords Go.Proofs.YtloibeefopdhpaaDoorW.PrintLast Go.Proofs.YtloibeefopdhpaaDoorW.PrintMore
theorem drop_cons_lt {α : Type} {l : List α} {i : Nat} {x : α} {t : List α} (h : l.drop i = x :: t) : i < l.length := by
  rcases Nat.lt_or_ge i l.length with h' | h'
  · exact h'
  · rw [List.drop_eq_nil_of_le h'] at h; cases h
theorem drop_cons_succ {α : Type} {l : List α} {i : Nat} {x : α} {t : List α} (h : l.drop i = x :: t) : l.drop (i + 1) = t := by
  rw [← List.drop_drop, h]
  rfl
theorem rdOf_cons {l : List ByteArray} {i : Nat} {x : ByteArray} {t : List ByteArray} (h : l.drop i = x :: t) : rdOf ByteArray.empty l (i : Int) = x := G.rdOf_drop h
theorem ref_same_loop (a b : List ByteArray) (hl : a.length ≤ 9223372036854775806) (hab : a.length = b.length) : ∀ (t u : List ByteArray) (i : Nat), a.drop i = t → b.drop i = u → Ev (fun k => rafterref01_Same.l0 k a b (i : Int)) (decide (t = u))
  | [], u, i, ht, hu => by
    have hge := List.drop_eq_nil_iff.1 ht
    have : u = [] := by rw [← hu]; exact List.drop_eq_nil_iff.2 (by omega)
    subst this
    refine Ev.step (f := fun k => some true) (fun k => ?_) (Ev.now _)
    simp only [rafterref01_Same.l0]
    rw [if_neg (by omega)]
  | x :: t, [], i, ht, hu => by
    have hlt := drop_cons_lt ht
    have hge := List.drop_eq_nil_iff.1 hu
    omega
  | x :: t, y :: u, i, ht, hu => by
    have hlt := drop_cons_lt ht
    have hlt' := drop_cons_lt hu
    have hw : wrap64 ((i : Int) + 1) = ((i + 1 : Nat) : Int) := by rw [wrap64_in (by omega) (by omega)]; omega
    by_cases h : x = y
    · subst h
      have ih := ref_same_loop a b hl hab t u (i + 1) (drop_cons_succ ht) (drop_cons_succ hu)
      have e : decide (x :: t = x :: u) = decide (t = u) := by simp
      rw [e]
      refine Ev.step (fun k => ?_) ih
      simp only [rafterref01_Same.l0]
      rw [if_pos (by omega), if_pos (by omega), if_pos (by omega), rdOf_cons ht, rdOf_cons hu, if_pos rfl, hw]
    · have e : decide (x :: t = y :: u) = false := by simp [h]
      rw [e]
      refine Ev.step (f := fun k => some false) (fun k => ?_) (Ev.now _)
      simp only [rafterref01_Same.l0]
      rw [if_pos (by omega), if_pos (by omega), if_pos (by omega), rdOf_cons ht, rdOf_cons hu, if_neg (fun e => h (ext_toList e))]
theorem ref_same (a b : List ByteArray) (hl : b.length ≤ 9223372036854775806) : Ev (fun k => rafterref01_Same.f k a b) (decide (a = b)) := by
  unfold rafterref01_Same.f
  by_cases h : a.length = b.length
  · exact Ev.pos (by omega) (ref_same_loop a b (by omega) h a b 0 (by simp) (by simp))
  · have e : decide (a = b) = false := decide_eq_false (fun e => h (by rw [e]))
    rw [e]
    exact Ev.neg (by omega) (Ev.now _)
theorem map_toList_inj : ∀ {a b : List ByteArray}, a.map ByteArray.toList = b.map ByteArray.toList → a = b
  | [], [], _ => rfl
  | [], _ :: _, h => by cases h
  | _ :: _, [], h => by cases h
  | x :: a, y :: b, h => by
    rw [List.map_cons, List.map_cons] at h
    injection h with h1 h2
    rw [ext_toList h1, map_toList_inj h2]
theorem same_ev (a0 b0 : Int) (a1 b1 : ByteArray) (a2 b2 : ByteArray) (a3 b3 : Int) (a4 b4 : ByteArray) (a5 b5 : List ByteArray) (a6 b6 : Int) (a7 b7 : ByteArray) (a8 b8 : ByteArray) (a9 b9 : List ByteArray) (h5 : b5.length ≤ 100000000) (h9 : b9.length ≤ 100000000) : Ev (fun k => cmd_Same.f k a0 a1 a2 a3 a4 a5 a6 a7 a8 a9 b0 b1 b2 b3 b4 b5 b6 b7 b8 b9) (decide (a0 = b0 ∧ a1 = b1 ∧ a2 = b2 ∧ a3 = b3 ∧ a4 = b4 ∧ a5 = b5 ∧ a6 = b6 ∧ a7 = b7 ∧ a8 = b8 ∧ a9 = b9)) := by
  unfold cmd_Same.f
  by_cases e0 : a0 = b0
  case neg =>
    rw [decide_eq_false (fun h => e0 h.1)]
    exact Ev.neg (e0) (Ev.now _)
  refine Ev.pos (e0) ?_
  by_cases e1 : a1 = b1
  case neg =>
    rw [decide_eq_false (fun h => e1 h.2.1)]
    exact Ev.neg (fun h => e1 (ext_toList h)) (Ev.now _)
  refine Ev.pos (by rw [e1]) ?_
  by_cases e2 : a2 = b2
  case neg =>
    rw [decide_eq_false (fun h => e2 h.2.2.1)]
    exact Ev.neg (fun h => e2 (ext_toList h)) (Ev.now _)
  refine Ev.pos (by rw [e2]) ?_
  by_cases e3 : a3 = b3
  case neg =>
    rw [decide_eq_false (fun h => e3 h.2.2.2.1)]
    exact Ev.neg (e3) (Ev.now _)
  refine Ev.pos (e3) ?_
  by_cases e4 : a4 = b4
  case neg =>
    rw [decide_eq_false (fun h => e4 h.2.2.2.2.1)]
    exact Ev.neg (fun h => e4 (ext_toList h)) (Ev.now _)
  refine Ev.pos (by rw [e4]) ?_
  refine Ev.bind (equal_ev a5 b5 (by have := h5; omega)) ?_
  by_cases e5 : a5 = b5
  case neg =>
    rw [decide_eq_false (fun h => e5 (map_toList_inj h))]
    rw [decide_eq_false (fun h => e5 h.2.2.2.2.2.1)]
    exact Ev.neg (fun h => by cases h) (Ev.now _)
  rw [decide_eq_true (congrArg (List.map ByteArray.toList) e5)]
  refine Ev.pos rfl ?_
  by_cases e6 : a6 = b6
  case neg =>
    rw [decide_eq_false (fun h => e6 h.2.2.2.2.2.2.1)]
    exact Ev.neg (e6) (Ev.now _)
  refine Ev.pos (e6) ?_
  by_cases e7 : a7 = b7
  case neg =>
    rw [decide_eq_false (fun h => e7 h.2.2.2.2.2.2.2.1)]
    exact Ev.neg (fun h => e7 (ext_toList h)) (Ev.now _)
  refine Ev.pos (by rw [e7]) ?_
  by_cases e8 : a8 = b8
  case neg =>
    rw [decide_eq_false (fun h => e8 h.2.2.2.2.2.2.2.2.1)]
    exact Ev.neg (fun h => e8 (ext_toList h)) (Ev.now _)
  refine Ev.pos (by rw [e8]) ?_
  refine Ev.bind (equal_ev a9 b9 (by have := h9; omega)) ?_
  by_cases e9 : a9 = b9
  · rw [decide_eq_true (congrArg (List.map ByteArray.toList) e9)]
    rw [decide_eq_true ⟨e0, e1, e2, e3, e4, e5, e6, e7, e8, e9⟩]
    exact Ev.now _
  · rw [decide_eq_false (fun h => e9 (map_toList_inj h))]
    rw [decide_eq_false (fun h => e9 h.2.2.2.2.2.2.2.2.2)]
    exact Ev.now _
theorem refSame_ev (a0 b0 : Int) (a1 b1 : ByteArray) (a2 b2 : ByteArray) (a3 b3 : Int) (a4 b4 : ByteArray) (a5 b5 : List ByteArray) (a6 b6 : Int) (a7 b7 : ByteArray) (a8 b8 : ByteArray) (a9 b9 : List ByteArray) (h5 : b5.length ≤ 100000000) (h9 : b9.length ≤ 100000000) : Ev (fun k => rafterref35_Same.f k a0 a1 a2 a3 a4 a5 a6 a7 a8 a9 b0 b1 b2 b3 b4 b5 b6 b7 b8 b9) (decide (a0 = b0 ∧ a1 = b1 ∧ a2 = b2 ∧ a3 = b3 ∧ a4 = b4 ∧ a5 = b5 ∧ a6 = b6 ∧ a7 = b7 ∧ a8 = b8 ∧ a9 = b9)) := by
  unfold rafterref35_Same.f
  by_cases e0 : a0 = b0
  case neg =>
    rw [decide_eq_false (fun h => e0 h.1)]
    exact Ev.neg (e0) (Ev.now _)
  refine Ev.pos (e0) ?_
  by_cases e1 : a1 = b1
  case neg =>
    rw [decide_eq_false (fun h => e1 h.2.1)]
    exact Ev.neg (fun h => e1 (ext_toList h)) (Ev.now _)
  refine Ev.pos (by rw [e1]) ?_
  by_cases e2 : a2 = b2
  case neg =>
    rw [decide_eq_false (fun h => e2 h.2.2.1)]
    exact Ev.neg (fun h => e2 (ext_toList h)) (Ev.now _)
  refine Ev.pos (by rw [e2]) ?_
  by_cases e3 : a3 = b3
  case neg =>
    rw [decide_eq_false (fun h => e3 h.2.2.2.1)]
    exact Ev.neg (e3) (Ev.now _)
  refine Ev.pos (e3) ?_
  by_cases e4 : a4 = b4
  case neg =>
    rw [decide_eq_false (fun h => e4 h.2.2.2.2.1)]
    exact Ev.neg (fun h => e4 (ext_toList h)) (Ev.now _)
  refine Ev.pos (by rw [e4]) ?_
  refine Ev.bind (ref_same a5 b5 (by have := h5; omega)) ?_
  by_cases e5 : a5 = b5
  case neg =>
    rw [decide_eq_false (fun h => e5 (h))]
    rw [decide_eq_false (fun h => e5 h.2.2.2.2.2.1)]
    exact Ev.neg (fun h => by cases h) (Ev.now _)
  rw [decide_eq_true (e5)]
  refine Ev.pos rfl ?_
  by_cases e6 : a6 = b6
  case neg =>
    rw [decide_eq_false (fun h => e6 h.2.2.2.2.2.2.1)]
    exact Ev.neg (e6) (Ev.now _)
  refine Ev.pos (e6) ?_
  by_cases e7 : a7 = b7
  case neg =>
    rw [decide_eq_false (fun h => e7 h.2.2.2.2.2.2.2.1)]
    exact Ev.neg (fun h => e7 (ext_toList h)) (Ev.now _)
  refine Ev.pos (by rw [e7]) ?_
  by_cases e8 : a8 = b8
  case neg =>
    rw [decide_eq_false (fun h => e8 h.2.2.2.2.2.2.2.2.1)]
    exact Ev.neg (fun h => e8 (ext_toList h)) (Ev.now _)
  refine Ev.pos (by rw [e8]) ?_
  refine Ev.bind (ref_same a9 b9 (by have := h9; omega)) ?_
  by_cases e9 : a9 = b9
  · rw [decide_eq_true (e9)]
    rw [decide_eq_true ⟨e0, e1, e2, e3, e4, e5, e6, e7, e8, e9⟩]
    exact Ev.now _
  · rw [decide_eq_false (fun h => e9 (h))]
    rw [decide_eq_false (fun h => e9 h.2.2.2.2.2.2.2.2.2)]
    exact Ev.now _
end Go.Proofs.YtloibeefopdhpaaDoor.Plain
set_option linter.unusedVariables false
namespace Go.Proofs.YtloibeefopdhpaaDoor.Plain
open Go.RowKit Go.Proofs.YtloibeefopdhpaaDoor.G Go.Proofs.YtloibeefopdhpaaDoorW.PrintWords Go.Proofs.YtloibeefopdhpaaDoorW.PrintLast Go.Proofs.YtloibeefopdhpaaDoorW.PrintMore

abbrev eT : ByteArray := ⟨#[]⟩
theorem eT_nil : eT.toList = [] := toList_B []
theorem nil_iff (s : ByteArray) : s.toList = [] ↔ s = eT := ⟨fun h => ext_toList (by rw [h, eT_nil]), fun h => by rw [h, eT_nil]⟩
theorem nil_beq (s : ByteArray) : (s.toList == []) = decide (s = eT) := by
  by_cases h : s = eT
  · rw [h, eT_nil, decide_eq_true rfl]; rfl
  · rw [decide_eq_false h]
    exact beq_eq_false_iff_ne.2 fun e => h ((nil_iff s).1 e)
theorem em2 {α : Type} (a b : α) : a = b ∨ (¬ a = b ∧ ¬ b = a) := (Classical.em (a = b)).imp id fun h => ⟨h, fun e => h e.symm⟩
abbrev TStepT := Int × ByteArray × ByteArray × Int × ByteArray × List ByteArray × Int × ByteArray × ByteArray × List ByteArray
abbrev EqS (x y : TStepT) : Prop := x.1 = y.1 ∧ x.2.1 = y.2.1 ∧ x.2.2.1 = y.2.2.1 ∧ x.2.2.2.1 = y.2.2.2.1 ∧ x.2.2.2.2.1 = y.2.2.2.2.1 ∧ x.2.2.2.2.2.1 = y.2.2.2.2.2.1 ∧ x.2.2.2.2.2.2.1 = y.2.2.2.2.2.2.1 ∧ x.2.2.2.2.2.2.2.1 = y.2.2.2.2.2.2.2.1 ∧ x.2.2.2.2.2.2.2.2.1 = y.2.2.2.2.2.2.2.2.1 ∧ x.2.2.2.2.2.2.2.2.2 = y.2.2.2.2.2.2.2.2.2
/-- A step that has a shape: its texts, what the shape makes of them, and the reference's line. -/
def Fits (a0 : Int) (a1 a2 : ByteArray) (a3 : Int) (a4 : ByteArray) (a5 : List ByteArray) (a6 : Int) (a7 a8 : ByteArray) (a9 : List ByteArray) (s : S93) (l : List ByteArray) : Prop :=
  ∃ x : TStepT, findS (stepP a0 a3 a6) shapesL = (s, true) ∧ findS (verbP s.f0) shapesL = (s, true) ∧ cmd_texts.f 20 a0 a1 a2 a3 a4 a5 a6 a7 a8 a9 s.f0 = some l ∧ cmd_fill.f s.f0 s.f1 s.f2 s.f3 s.f4 s.f5 l = some x ∧
    (∀ k, rafterref35_Line.f (k + 20) a0 a1 a2 a3 a4 a5 a6 a7 a8 a9 = some (if EqS x (a0, a1, a2, a3, a4, a5, a6, a7, a8, a9) then s.f0 :: l else [])) ∧ ((32 : UInt8) ∉ s.f0.toList ∧ s.f0.size ≤ 20) ∧ (s.f4 ≤ (l.length : Int) ∧ ¬ (s.f4 < (l.length : Int) ∧ s.f5 = false))
theorem none_f (a6 : Int) (a7 a8 : ByteArray) (a9 : List ByteArray) : rafterref35_none.f a6 a7 a8 a9 = some (decide (a7 = eT ∧ a8 = eT ∧ a9 = [])) := by
  unfold rafterref35_none.f
  simp only [nil_iff]
  by_cases h7 : a7 = eT
  · by_cases h8 : a8 = eT
    · cases a9 with
      | nil => simp [h7, h8]
      | cons x l =>
        rw [if_pos h7, if_pos h8, decide_eq_false (fun h => by cases h.2.2)]
        rw [beq_eq_false_iff_ne.2 (by rw [List.length_cons]; omega)]
    · simp [h7, h8]
  · simp [h7]
attribute [local simp] rafterref35_Line.f rafterref35_Line.j0 rafterref35_Line.j1 rafterref35_Line.j2 rafterref35_Line.j3 rafterref35_Line.j4 rafterref35_Line.j5 rafterref35_Line.j6 rafterref35_Line.j7 rafterref35_Line.j8 rafterref35_Line.j9 none_f rafterref35_edit.f rafterref35_edit.j0 nil_iff nil_beq rdOf
theorem fits_init (a1 a2 : ByteArray) (a3 : Int) (a4 : ByteArray) (a5 : List ByteArray) (a6 : Int) (a7 a8 : ByteArray) (a9 : List ByteArray) (h5 : a5.length ≤ 100000) (h9 : a9.length ≤ 100000) : Fits 0 a1 a2 a3 a4 a5 a6 a7 a8 a9 (⟨(⟨#[105, 110, 105, 116]⟩ : ByteArray), 0, 0, 0, 1, false⟩ : S93) ([a1]) := by
  refine ⟨_, by kernel_rfl, by kernel_rfl, ?_, (shape_init a1).1, ?_, of_decide_eq_true (by kernel_rfl), by simp only [List.length_cons, List.length_nil]; omega, by simp⟩
  · kernel_rfl
  · intro k
    obtain rfl | ⟨m1, m2⟩ := em2 a2 eT; rotate_left; · simp [EqS, m1, m2]
    obtain rfl | ⟨m1, m2⟩ := em2 a7 eT; rotate_left; · simp [EqS, m1, m2]
    obtain rfl | ⟨m1, m2⟩ := em2 a8 eT; rotate_left; · simp [EqS, m1, m2]
    obtain rfl | ⟨m1, m2⟩ := em2 a9 []; rotate_left; · simp [EqS, m1, m2, List.length_pos_iff.2 m1]
    obtain rfl | ⟨m1, m2⟩ := em2 a6 0; rotate_left; · simp [EqS, m1, m2]
    obtain rfl | ⟨m1, m2⟩ := em2 a5 []; rotate_left; · simp [EqS, m1, m2, List.length_pos_iff.2 m1]
    obtain rfl | ⟨m1, m2⟩ := em2 a4 eT; rotate_left; · simp [EqS, m1, m2]
    obtain rfl | ⟨m1, m2⟩ := em2 a3 0; rotate_left; · simp [EqS, m1, m2]
    simp [EqS]
theorem fits_log (a1 a2 : ByteArray) (a3 : Int) (a4 : ByteArray) (a5 : List ByteArray) (a6 : Int) (a7 a8 : ByteArray) (a9 : List ByteArray) (h5 : a5.length ≤ 100000) (h9 : a9.length ≤ 100000) : Fits 2 a1 a2 a3 a4 a5 a6 a7 a8 a9 (⟨(⟨#[108, 111, 103]⟩ : ByteArray), 2, 0, 0, 1, false⟩ : S93) ([a1]) := by
  refine ⟨_, by kernel_rfl, by kernel_rfl, ?_, (shape_log a1).1, ?_, of_decide_eq_true (by kernel_rfl), by simp only [List.length_cons, List.length_nil]; omega, by simp⟩
  · kernel_rfl
  · intro k
    obtain rfl | ⟨m1, m2⟩ := em2 a2 eT; rotate_left; · simp [EqS, m1, m2]
    obtain rfl | ⟨m1, m2⟩ := em2 a7 eT; rotate_left; · simp [EqS, m1, m2]
    obtain rfl | ⟨m1, m2⟩ := em2 a8 eT; rotate_left; · simp [EqS, m1, m2]
    obtain rfl | ⟨m1, m2⟩ := em2 a9 []; rotate_left; · simp [EqS, m1, m2, List.length_pos_iff.2 m1]
    obtain rfl | ⟨m1, m2⟩ := em2 a6 0; rotate_left; · simp [EqS, m1, m2]
    obtain rfl | ⟨m1, m2⟩ := em2 a5 []; rotate_left; · simp [EqS, m1, m2, List.length_pos_iff.2 m1]
    obtain rfl | ⟨m1, m2⟩ := em2 a4 eT; rotate_left; · simp [EqS, m1, m2]
    obtain rfl | ⟨m1, m2⟩ := em2 a3 0; rotate_left; · simp [EqS, m1, m2]
    simp [EqS]
theorem fits_new (a1 a2 : ByteArray) (a3 : Int) (a4 : ByteArray) (a5 : List ByteArray) (a6 : Int) (a7 a8 : ByteArray) (a9 : List ByteArray) (h5 : a5.length ≤ 100000) (h9 : a9.length ≤ 100000) : Fits 3 a1 a2 a3 a4 a5 a6 a7 a8 a9 (⟨(⟨#[110, 101, 119]⟩ : ByteArray), 3, 0, 0, 1, false⟩ : S93) ([a1]) := by
  refine ⟨_, by kernel_rfl, by kernel_rfl, ?_, (shape_new a1).1, ?_, of_decide_eq_true (by kernel_rfl), by simp only [List.length_cons, List.length_nil]; omega, by simp⟩
  · kernel_rfl
  · intro k
    obtain rfl | ⟨m1, m2⟩ := em2 a2 eT; rotate_left; · simp [EqS, m1, m2]
    obtain rfl | ⟨m1, m2⟩ := em2 a7 eT; rotate_left; · simp [EqS, m1, m2]
    obtain rfl | ⟨m1, m2⟩ := em2 a8 eT; rotate_left; · simp [EqS, m1, m2]
    obtain rfl | ⟨m1, m2⟩ := em2 a9 []; rotate_left; · simp [EqS, m1, m2, List.length_pos_iff.2 m1]
    obtain rfl | ⟨m1, m2⟩ := em2 a6 0; rotate_left; · simp [EqS, m1, m2]
    obtain rfl | ⟨m1, m2⟩ := em2 a5 []; rotate_left; · simp [EqS, m1, m2, List.length_pos_iff.2 m1]
    obtain rfl | ⟨m1, m2⟩ := em2 a4 eT; rotate_left; · simp [EqS, m1, m2]
    obtain rfl | ⟨m1, m2⟩ := em2 a3 0; rotate_left; · simp [EqS, m1, m2]
    simp [EqS]
theorem fits_conflicts (a1 a2 : ByteArray) (a3 : Int) (a4 : ByteArray) (a5 : List ByteArray) (a6 : Int) (a7 a8 : ByteArray) (a9 : List ByteArray) (h5 : a5.length ≤ 100000) (h9 : a9.length ≤ 100000) : Fits 4 a1 a2 a3 a4 a5 a6 a7 a8 a9 (⟨(⟨#[99, 111, 110, 102, 108, 105, 99, 116, 115]⟩ : ByteArray), 4, 0, 0, 1, false⟩ : S93) ([a1]) := by
  refine ⟨_, by kernel_rfl, by kernel_rfl, ?_, (shape_conflicts a1).1, ?_, of_decide_eq_true (by kernel_rfl), by simp only [List.length_cons, List.length_nil]; omega, by simp⟩
  · kernel_rfl
  · intro k
    obtain rfl | ⟨m1, m2⟩ := em2 a2 eT; rotate_left; · simp [EqS, m1, m2]
    obtain rfl | ⟨m1, m2⟩ := em2 a7 eT; rotate_left; · simp [EqS, m1, m2]
    obtain rfl | ⟨m1, m2⟩ := em2 a8 eT; rotate_left; · simp [EqS, m1, m2]
    obtain rfl | ⟨m1, m2⟩ := em2 a9 []; rotate_left; · simp [EqS, m1, m2, List.length_pos_iff.2 m1]
    obtain rfl | ⟨m1, m2⟩ := em2 a6 0; rotate_left; · simp [EqS, m1, m2]
    obtain rfl | ⟨m1, m2⟩ := em2 a5 []; rotate_left; · simp [EqS, m1, m2, List.length_pos_iff.2 m1]
    obtain rfl | ⟨m1, m2⟩ := em2 a4 eT; rotate_left; · simp [EqS, m1, m2]
    obtain rfl | ⟨m1, m2⟩ := em2 a3 0; rotate_left; · simp [EqS, m1, m2]
    simp [EqS]
theorem fits_show (a1 a2 : ByteArray) (a3 : Int) (a4 : ByteArray) (a5 : List ByteArray) (a6 : Int) (a7 a8 : ByteArray) (a9 : List ByteArray) (h5 : a5.length ≤ 100000) (h9 : a9.length ≤ 100000) : Fits 5 a1 a2 a3 a4 a5 a6 a7 a8 a9 (⟨(⟨#[115, 104, 111, 119]⟩ : ByteArray), 5, 0, 0, 1, false⟩ : S93) ([a1]) := by
  refine ⟨_, by kernel_rfl, by kernel_rfl, ?_, (shape_show a1).1, ?_, of_decide_eq_true (by kernel_rfl), by simp only [List.length_cons, List.length_nil]; omega, by simp⟩
  · kernel_rfl
  · intro k
    obtain rfl | ⟨m1, m2⟩ := em2 a2 eT; rotate_left; · simp [EqS, m1, m2]
    obtain rfl | ⟨m1, m2⟩ := em2 a7 eT; rotate_left; · simp [EqS, m1, m2]
    obtain rfl | ⟨m1, m2⟩ := em2 a8 eT; rotate_left; · simp [EqS, m1, m2]
    obtain rfl | ⟨m1, m2⟩ := em2 a9 []; rotate_left; · simp [EqS, m1, m2, List.length_pos_iff.2 m1]
    obtain rfl | ⟨m1, m2⟩ := em2 a6 0; rotate_left; · simp [EqS, m1, m2]
    obtain rfl | ⟨m1, m2⟩ := em2 a5 []; rotate_left; · simp [EqS, m1, m2, List.length_pos_iff.2 m1]
    obtain rfl | ⟨m1, m2⟩ := em2 a4 eT; rotate_left; · simp [EqS, m1, m2]
    obtain rfl | ⟨m1, m2⟩ := em2 a3 0; rotate_left; · simp [EqS, m1, m2]
    simp [EqS]
theorem fits_check (a1 a2 : ByteArray) (a3 : Int) (a4 : ByteArray) (a5 : List ByteArray) (a6 : Int) (a7 a8 : ByteArray) (a9 : List ByteArray) (h5 : a5.length ≤ 100000) (h9 : a9.length ≤ 100000) : Fits 6 a1 a2 a3 a4 a5 a6 a7 a8 a9 (⟨(⟨#[99, 104, 101, 99, 107]⟩ : ByteArray), 6, 0, 0, 1, false⟩ : S93) ([a1]) := by
  refine ⟨_, by kernel_rfl, by kernel_rfl, ?_, (shape_check a1).1, ?_, of_decide_eq_true (by kernel_rfl), by simp only [List.length_cons, List.length_nil]; omega, by simp⟩
  · kernel_rfl
  · intro k
    obtain rfl | ⟨m1, m2⟩ := em2 a2 eT; rotate_left; · simp [EqS, m1, m2]
    obtain rfl | ⟨m1, m2⟩ := em2 a7 eT; rotate_left; · simp [EqS, m1, m2]
    obtain rfl | ⟨m1, m2⟩ := em2 a8 eT; rotate_left; · simp [EqS, m1, m2]
    obtain rfl | ⟨m1, m2⟩ := em2 a9 []; rotate_left; · simp [EqS, m1, m2, List.length_pos_iff.2 m1]
    obtain rfl | ⟨m1, m2⟩ := em2 a6 0; rotate_left; · simp [EqS, m1, m2]
    obtain rfl | ⟨m1, m2⟩ := em2 a5 []; rotate_left; · simp [EqS, m1, m2, List.length_pos_iff.2 m1]
    obtain rfl | ⟨m1, m2⟩ := em2 a4 eT; rotate_left; · simp [EqS, m1, m2]
    obtain rfl | ⟨m1, m2⟩ := em2 a3 0; rotate_left; · simp [EqS, m1, m2]
    simp [EqS]
theorem fits_power (a1 a2 : ByteArray) (a3 : Int) (a4 : ByteArray) (a5 : List ByteArray) (a6 : Int) (a7 a8 : ByteArray) (a9 : List ByteArray) (h5 : a5.length ≤ 100000) (h9 : a9.length ≤ 100000) : Fits 7 a1 a2 a3 a4 a5 a6 a7 a8 a9 (⟨(⟨#[112, 111, 119, 101, 114]⟩ : ByteArray), 7, 0, 0, 0, false⟩ : S93) ([]) := by
  refine ⟨_, by kernel_rfl, by kernel_rfl, ?_, (shape_power ).1, ?_, of_decide_eq_true (by kernel_rfl), by simp only [List.length_cons, List.length_nil]; omega, by simp⟩
  · kernel_rfl
  · intro k
    obtain rfl | ⟨m1, m2⟩ := em2 a2 eT; rotate_left; · simp [EqS, m1, m2]
    obtain rfl | ⟨m1, m2⟩ := em2 a7 eT; rotate_left; · simp [EqS, m1, m2]
    obtain rfl | ⟨m1, m2⟩ := em2 a8 eT; rotate_left; · simp [EqS, m1, m2]
    obtain rfl | ⟨m1, m2⟩ := em2 a9 []; rotate_left; · simp [EqS, m1, m2, List.length_pos_iff.2 m1]
    obtain rfl | ⟨m1, m2⟩ := em2 a6 0; rotate_left; · simp [EqS, m1, m2]
    obtain rfl | ⟨m1, m2⟩ := em2 a5 []; rotate_left; · simp [EqS, m1, m2, List.length_pos_iff.2 m1]
    obtain rfl | ⟨m1, m2⟩ := em2 a4 eT; rotate_left; · simp [EqS, m1, m2]
    obtain rfl | ⟨m1, m2⟩ := em2 a3 0; rotate_left; · simp [EqS, m1, m2]
    obtain rfl | ⟨m1, m2⟩ := em2 a1 eT; rotate_left; · simp [EqS, m1, m2]
    simp [EqS]
theorem fits_mkdir (a1 a2 : ByteArray) (a4 : ByteArray) (a5 : List ByteArray) (a7 a8 : ByteArray) (a9 : List ByteArray) (h5 : a5.length ≤ 100000) (h9 : a9.length ≤ 100000) : Fits 1 a1 a2 0 a4 a5 0 a7 a8 a9 (⟨(⟨#[109, 107, 100, 105, 114]⟩ : ByteArray), 1, 0, 0, 2, false⟩ : S93) ([a1, a7]) := by
  refine ⟨_, by kernel_rfl, by kernel_rfl, ?_, (shape_mkdir a1 a7).1, ?_, of_decide_eq_true (by kernel_rfl), by simp only [List.length_cons, List.length_nil]; omega, by simp⟩
  · kernel_rfl
  · intro k
    obtain rfl | ⟨m1, m2⟩ := em2 a2 eT; rotate_left; · simp [EqS, m1, m2]
    obtain rfl | ⟨m1, m2⟩ := em2 a4 eT; rotate_left; · simp [EqS, m1, m2]
    obtain rfl | ⟨m1, m2⟩ := em2 a5 []; rotate_left; · simp [EqS, m1, m2, List.length_pos_iff.2 m1]
    obtain rfl | ⟨m1, m2⟩ := em2 a9 []; rotate_left; · simp [EqS, m1, m2, List.length_pos_iff.2 m1]
    obtain rfl | ⟨m1, m2⟩ := em2 a8 eT; rotate_left; · simp [EqS, m1, m2]
    simp [EqS]
theorem fits_write (a1 a2 : ByteArray) (a4 : ByteArray) (a5 : List ByteArray) (a7 a8 : ByteArray) (a9 : List ByteArray) (h5 : a5.length ≤ 100000) (h9 : a9.length ≤ 100000) : Fits 1 a1 a2 0 a4 a5 1 a7 a8 a9 (⟨(⟨#[119, 114, 105, 116, 101]⟩ : ByteArray), 1, 0, 1, 2, true⟩ : S93) (a1 :: a7 :: a9) := by
  refine ⟨_, by kernel_rfl, by kernel_rfl, ?_, (shape_write a1 a7 a9 h9).1, ?_, of_decide_eq_true (by kernel_rfl), by simp only [List.length_cons, List.length_nil]; omega, by simp⟩
  · refine (show _ = if ([a1, a7] : List ByteArray).length + a9.length < 8796093022208 then some ([a1, a7] ++ a9) else none by kernel_rfl).trans (if_pos (by simp only [List.length_cons, List.length_nil]; omega))
  · intro k
    have hq : a9.length + 3 < 8796093022208 := by omega
    have hq2 : 3 + a9.length < 8796093022208 := by omega
    obtain rfl | ⟨m1, m2⟩ := em2 a2 eT; rotate_left; · simp [EqS, m1, m2, hq, hq2]
    obtain rfl | ⟨m1, m2⟩ := em2 a4 eT; rotate_left; · simp [EqS, m1, m2, hq, hq2]
    obtain rfl | ⟨m1, m2⟩ := em2 a5 []; rotate_left; · simp [EqS, m1, m2, List.length_pos_iff.2 m1, hq, hq2]
    obtain rfl | ⟨m1, m2⟩ := em2 a8 eT; rotate_left; · simp [EqS, m1, m2, hq, hq2]
    simp [EqS, hq, hq2]
theorem fits_remove (a1 a2 : ByteArray) (a4 : ByteArray) (a5 : List ByteArray) (a7 a8 : ByteArray) (a9 : List ByteArray) (h5 : a5.length ≤ 100000) (h9 : a9.length ≤ 100000) : Fits 1 a1 a2 0 a4 a5 2 a7 a8 a9 (⟨(⟨#[114, 101, 109, 111, 118, 101]⟩ : ByteArray), 1, 0, 2, 2, false⟩ : S93) ([a1, a7]) := by
  refine ⟨_, by kernel_rfl, by kernel_rfl, ?_, (shape_remove a1 a7).1, ?_, of_decide_eq_true (by kernel_rfl), by simp only [List.length_cons, List.length_nil]; omega, by simp⟩
  · kernel_rfl
  · intro k
    obtain rfl | ⟨m1, m2⟩ := em2 a2 eT; rotate_left; · simp [EqS, m1, m2]
    obtain rfl | ⟨m1, m2⟩ := em2 a4 eT; rotate_left; · simp [EqS, m1, m2]
    obtain rfl | ⟨m1, m2⟩ := em2 a5 []; rotate_left; · simp [EqS, m1, m2, List.length_pos_iff.2 m1]
    obtain rfl | ⟨m1, m2⟩ := em2 a9 []; rotate_left; · simp [EqS, m1, m2, List.length_pos_iff.2 m1]
    obtain rfl | ⟨m1, m2⟩ := em2 a8 eT; rotate_left; · simp [EqS, m1, m2]
    simp [EqS]
theorem fits_move (a1 a2 : ByteArray) (a4 : ByteArray) (a5 : List ByteArray) (a7 a8 : ByteArray) (a9 : List ByteArray) (h5 : a5.length ≤ 100000) (h9 : a9.length ≤ 100000) : Fits 1 a1 a2 0 a4 a5 3 a7 a8 a9 (⟨(⟨#[109, 111, 118, 101]⟩ : ByteArray), 1, 0, 3, 3, false⟩ : S93) ([a1, a7, a8]) := by
  refine ⟨_, by kernel_rfl, by kernel_rfl, ?_, (shape_move a1 a7 a8).1, ?_, of_decide_eq_true (by kernel_rfl), by simp only [List.length_cons, List.length_nil]; omega, by simp⟩
  · kernel_rfl
  · intro k
    obtain rfl | ⟨m1, m2⟩ := em2 a2 eT; rotate_left; · simp [EqS, m1, m2]
    obtain rfl | ⟨m1, m2⟩ := em2 a4 eT; rotate_left; · simp [EqS, m1, m2]
    obtain rfl | ⟨m1, m2⟩ := em2 a5 []; rotate_left; · simp [EqS, m1, m2, List.length_pos_iff.2 m1]
    obtain rfl | ⟨m1, m2⟩ := em2 a9 []; rotate_left; · simp [EqS, m1, m2, List.length_pos_iff.2 m1]
    simp [EqS]
theorem fits_record (a1 a2 : ByteArray) (a4 : ByteArray) (a5 : List ByteArray) (a6 : Int) (a7 a8 : ByteArray) (a9 : List ByteArray) (h5 : a5.length ≤ 100000) (h9 : a9.length ≤ 100000) : Fits 1 a1 a2 1 a4 a5 a6 a7 a8 a9 (⟨(⟨#[114, 101, 99, 111, 114, 100]⟩ : ByteArray), 1, 1, 0, 2, false⟩ : S93) ([a1, a4]) := by
  refine ⟨_, by kernel_rfl, by kernel_rfl, ?_, (shape_record a1 a4).1, ?_, of_decide_eq_true (by kernel_rfl), by simp only [List.length_cons, List.length_nil]; omega, by simp⟩
  · kernel_rfl
  · intro k
    obtain rfl | ⟨m1, m2⟩ := em2 a2 eT; rotate_left; · simp [EqS, m1, m2]
    obtain rfl | ⟨m1, m2⟩ := em2 a7 eT; rotate_left; · simp [EqS, m1, m2]
    obtain rfl | ⟨m1, m2⟩ := em2 a8 eT; rotate_left; · simp [EqS, m1, m2]
    obtain rfl | ⟨m1, m2⟩ := em2 a9 []; rotate_left; · simp [EqS, m1, m2, List.length_pos_iff.2 m1]
    obtain rfl | ⟨m1, m2⟩ := em2 a6 0; rotate_left; · simp [EqS, m1, m2]
    obtain rfl | ⟨m1, m2⟩ := em2 a5 []; rotate_left; · simp [EqS, m1, m2, List.length_pos_iff.2 m1]
    simp [EqS]
theorem fits_unrecord (a1 a2 : ByteArray) (a4 : ByteArray) (a5 : List ByteArray) (a6 : Int) (a7 a8 : ByteArray) (a9 : List ByteArray) (h5 : a5.length ≤ 100000) (h9 : a9.length ≤ 100000) : Fits 1 a1 a2 2 a4 a5 a6 a7 a8 a9 (⟨(⟨#[117, 110, 114, 101, 99, 111, 114, 100]⟩ : ByteArray), 1, 2, 0, 2, false⟩ : S93) ([a1, a4]) := by
  refine ⟨_, by kernel_rfl, by kernel_rfl, ?_, (shape_unrecord a1 a4).1, ?_, of_decide_eq_true (by kernel_rfl), by simp only [List.length_cons, List.length_nil]; omega, by simp⟩
  · kernel_rfl
  · intro k
    obtain rfl | ⟨m1, m2⟩ := em2 a2 eT; rotate_left; · simp [EqS, m1, m2]
    obtain rfl | ⟨m1, m2⟩ := em2 a7 eT; rotate_left; · simp [EqS, m1, m2]
    obtain rfl | ⟨m1, m2⟩ := em2 a8 eT; rotate_left; · simp [EqS, m1, m2]
    obtain rfl | ⟨m1, m2⟩ := em2 a9 []; rotate_left; · simp [EqS, m1, m2, List.length_pos_iff.2 m1]
    obtain rfl | ⟨m1, m2⟩ := em2 a6 0; rotate_left; · simp [EqS, m1, m2]
    obtain rfl | ⟨m1, m2⟩ := em2 a5 []; rotate_left; · simp [EqS, m1, m2, List.length_pos_iff.2 m1]
    simp [EqS]
theorem fits_pull (a1 a2 : ByteArray) (a4 : ByteArray) (a5 : List ByteArray) (a6 : Int) (a7 a8 : ByteArray) (a9 : List ByteArray) (h5 : a5.length ≤ 100000) (h9 : a9.length ≤ 100000) : Fits 1 a1 a2 3 a4 a5 a6 a7 a8 a9 (⟨(⟨#[112, 117, 108, 108]⟩ : ByteArray), 1, 3, 0, 2, true⟩ : S93) (a1 :: a2 :: a5) := by
  refine ⟨_, by kernel_rfl, by kernel_rfl, ?_, (shape_pull a1 a2 a5 h5).1, ?_, of_decide_eq_true (by kernel_rfl), by simp only [List.length_cons, List.length_nil]; omega, by simp⟩
  · refine (show _ = if ([a1, a2] : List ByteArray).length + a5.length < 8796093022208 then some ([a1, a2] ++ a5) else none by kernel_rfl).trans (if_pos (by simp only [List.length_cons, List.length_nil]; omega))
  · intro k
    have hq : a5.length + 3 < 8796093022208 := by omega
    have hq2 : 3 + a5.length < 8796093022208 := by omega
    obtain rfl | ⟨m1, m2⟩ := em2 a4 eT; rotate_left; · simp [EqS, m1, m2, hq, hq2]
    obtain rfl | ⟨m1, m2⟩ := em2 a7 eT; rotate_left; · simp [EqS, m1, m2, hq, hq2]
    obtain rfl | ⟨m1, m2⟩ := em2 a8 eT; rotate_left; · simp [EqS, m1, m2, hq, hq2]
    obtain rfl | ⟨m1, m2⟩ := em2 a9 []; rotate_left; · simp [EqS, m1, m2, List.length_pos_iff.2 m1, hq, hq2]
    obtain rfl | ⟨m1, m2⟩ := em2 a6 0; rotate_left; · simp [EqS, m1, m2, hq, hq2]
    simp [EqS, hq, hq2]
theorem fits_unpull (a1 a2 : ByteArray) (a4 : ByteArray) (a5 : List ByteArray) (a6 : Int) (a7 a8 : ByteArray) (a9 : List ByteArray) (h5 : a5.length ≤ 100000) (h9 : a9.length ≤ 100000) : Fits 1 a1 a2 4 a4 a5 a6 a7 a8 a9 (⟨(⟨#[117, 110, 112, 117, 108, 108]⟩ : ByteArray), 1, 4, 0, 1, true⟩ : S93) (a1 :: a5) := by
  refine ⟨_, by kernel_rfl, by kernel_rfl, ?_, (shape_unpull a1 a5 h5).1, ?_, of_decide_eq_true (by kernel_rfl), by simp only [List.length_cons, List.length_nil]; omega, by simp⟩
  · refine (show _ = if ([a1] : List ByteArray).length + a5.length < 8796093022208 then some ([a1] ++ a5) else none by kernel_rfl).trans (if_pos (by simp only [List.length_cons, List.length_nil]; omega))
  · intro k
    have hq : a5.length + 2 < 8796093022208 := by omega
    have hq2 : 2 + a5.length < 8796093022208 := by omega
    obtain rfl | ⟨m1, m2⟩ := em2 a2 eT; rotate_left; · simp [EqS, m1, m2, hq, hq2]
    obtain rfl | ⟨m1, m2⟩ := em2 a7 eT; rotate_left; · simp [EqS, m1, m2, hq, hq2]
    obtain rfl | ⟨m1, m2⟩ := em2 a8 eT; rotate_left; · simp [EqS, m1, m2, hq, hq2]
    obtain rfl | ⟨m1, m2⟩ := em2 a9 []; rotate_left; · simp [EqS, m1, m2, List.length_pos_iff.2 m1, hq, hq2]
    obtain rfl | ⟨m1, m2⟩ := em2 a6 0; rotate_left; · simp [EqS, m1, m2, hq, hq2]
    obtain rfl | ⟨m1, m2⟩ := em2 a4 eT; rotate_left; · simp [EqS, m1, m2, hq, hq2]
    simp [EqS, hq, hq2]
theorem fits_revert (a1 a2 : ByteArray) (a4 : ByteArray) (a5 : List ByteArray) (a6 : Int) (a7 a8 : ByteArray) (a9 : List ByteArray) (h5 : a5.length ≤ 100000) (h9 : a9.length ≤ 100000) : Fits 1 a1 a2 5 a4 a5 a6 a7 a8 a9 (⟨(⟨#[114, 101, 118, 101, 114, 116]⟩ : ByteArray), 1, 5, 0, 1, false⟩ : S93) ([a1]) := by
  refine ⟨_, by kernel_rfl, by kernel_rfl, ?_, (shape_revert a1).1, ?_, of_decide_eq_true (by kernel_rfl), by simp only [List.length_cons, List.length_nil]; omega, by simp⟩
  · kernel_rfl
  · intro k
    obtain rfl | ⟨m1, m2⟩ := em2 a2 eT; rotate_left; · simp [EqS, m1, m2]
    obtain rfl | ⟨m1, m2⟩ := em2 a7 eT; rotate_left; · simp [EqS, m1, m2]
    obtain rfl | ⟨m1, m2⟩ := em2 a8 eT; rotate_left; · simp [EqS, m1, m2]
    obtain rfl | ⟨m1, m2⟩ := em2 a9 []; rotate_left; · simp [EqS, m1, m2, List.length_pos_iff.2 m1]
    obtain rfl | ⟨m1, m2⟩ := em2 a6 0; rotate_left; · simp [EqS, m1, m2]
    obtain rfl | ⟨m1, m2⟩ := em2 a5 []; rotate_left; · simp [EqS, m1, m2, List.length_pos_iff.2 m1]
    obtain rfl | ⟨m1, m2⟩ := em2 a4 eT; rotate_left; · simp [EqS, m1, m2]
    simp [EqS]
theorem fits_resolve (a1 a2 : ByteArray) (a4 : ByteArray) (a5 : List ByteArray) (a6 : Int) (a7 a8 : ByteArray) (a9 : List ByteArray) (h5 : a5.length ≤ 100000) (h9 : a9.length ≤ 100000) : Fits 1 a1 a2 6 a4 a5 a6 a7 a8 a9 (⟨(⟨#[114, 101, 115, 111, 108, 118, 101]⟩ : ByteArray), 1, 6, 0, 1, false⟩ : S93) ([a1]) := by
  refine ⟨_, by kernel_rfl, by kernel_rfl, ?_, (shape_resolve a1).1, ?_, of_decide_eq_true (by kernel_rfl), by simp only [List.length_cons, List.length_nil]; omega, by simp⟩
  · kernel_rfl
  · intro k
    obtain rfl | ⟨m1, m2⟩ := em2 a2 eT; rotate_left; · simp [EqS, m1, m2]
    obtain rfl | ⟨m1, m2⟩ := em2 a7 eT; rotate_left; · simp [EqS, m1, m2]
    obtain rfl | ⟨m1, m2⟩ := em2 a8 eT; rotate_left; · simp [EqS, m1, m2]
    obtain rfl | ⟨m1, m2⟩ := em2 a9 []; rotate_left; · simp [EqS, m1, m2, List.length_pos_iff.2 m1]
    obtain rfl | ⟨m1, m2⟩ := em2 a6 0; rotate_left; · simp [EqS, m1, m2]
    obtain rfl | ⟨m1, m2⟩ := em2 a5 []; rotate_left; · simp [EqS, m1, m2, List.length_pos_iff.2 m1]
    obtain rfl | ⟨m1, m2⟩ := em2 a4 eT; rotate_left; · simp [EqS, m1, m2]
    simp [EqS]
theorem line_other (a0 : Int) (a1 a2 : ByteArray) (a3 : Int) (a4 : ByteArray) (a5 : List ByteArray) (a6 : Int) (a7 a8 : ByteArray) (a9 : List ByteArray) (n0 : ¬ a0 = 0) (n1 : ¬ a0 = 1) (n2 : ¬ a0 = 2) (n3 : ¬ a0 = 3) (n4 : ¬ a0 = 4) (n5 : ¬ a0 = 5) (n6 : ¬ a0 = 6) (n7 : ¬ a0 = 7) :
    (findS (stepP a0 a3 a6) shapesL).2 = false ∧ ∀ k, rafterref35_Line.f (k + 20) a0 a1 a2 a3 a4 a5 a6 a7 a8 a9 = some [] := by
  have m0 : ¬ (0 : Int) = a0 := fun e => n0 e.symm
  have m1 : ¬ (1 : Int) = a0 := fun e => n1 e.symm
  have m2 : ¬ (2 : Int) = a0 := fun e => n2 e.symm
  have m3 : ¬ (3 : Int) = a0 := fun e => n3 e.symm
  have m4 : ¬ (4 : Int) = a0 := fun e => n4 e.symm
  have m5 : ¬ (5 : Int) = a0 := fun e => n5 e.symm
  have m6 : ¬ (6 : Int) = a0 := fun e => n6 e.symm
  have m7 : ¬ (7 : Int) = a0 := fun e => n7 e.symm
  refine ⟨by simp [findS, shapesL, cmd_shapes.f, stepP, m0, m1, m2, m3, m4, m5, m6, m7], fun k => ?_⟩
  have hr : a0 < 0 ∨ a0 > 7 := by omega
  by_cases c : a0 < 0
  · simp [n1, n7, c]
  · have c' : 7 < a0 := by omega
    simp [n1, n7, c, c']
theorem line_edit (a1 a2 : ByteArray) (a4 : ByteArray) (a5 : List ByteArray) (a6 : Int) (a7 a8 : ByteArray) (a9 : List ByteArray) (n0 : ¬ a6 = 0) (n1 : ¬ a6 = 1) (n2 : ¬ a6 = 2) (n3 : ¬ a6 = 3) :
    (findS (stepP 1 0 a6) shapesL).2 = false ∧ ∀ k, rafterref35_Line.f (k + 20) 1 a1 a2 0 a4 a5 a6 a7 a8 a9 = some [] := by
  have m0 : ¬ (0 : Int) = a6 := fun e => n0 e.symm
  have m1 : ¬ (1 : Int) = a6 := fun e => n1 e.symm
  have m2 : ¬ (2 : Int) = a6 := fun e => n2 e.symm
  have m3 : ¬ (3 : Int) = a6 := fun e => n3 e.symm
  exact ⟨by simp [findS, shapesL, cmd_shapes.f, stepP, m0, m1, m2, m3], fun k => by simp [n0, n1, n2, n3]⟩
theorem line_call (a1 a2 : ByteArray) (a3 : Int) (a4 : ByteArray) (a5 : List ByteArray) (a6 : Int) (a7 a8 : ByteArray) (a9 : List ByteArray) (n0 : ¬ a3 = 0) (n1 : ¬ a3 = 1) (n2 : ¬ a3 = 2) (n3 : ¬ a3 = 3) (n4 : ¬ a3 = 4) (n5 : ¬ a3 = 5) (n6 : ¬ a3 = 6) :
    (findS (stepP 1 a3 a6) shapesL).2 = false ∧ ∀ k, rafterref35_Line.f (k + 20) 1 a1 a2 a3 a4 a5 a6 a7 a8 a9 = some [] := by
  have m0 : ¬ (0 : Int) = a3 := fun e => n0 e.symm
  have m1 : ¬ (1 : Int) = a3 := fun e => n1 e.symm
  have m2 : ¬ (2 : Int) = a3 := fun e => n2 e.symm
  have m3 : ¬ (3 : Int) = a3 := fun e => n3 e.symm
  have m4 : ¬ (4 : Int) = a3 := fun e => n4 e.symm
  have m5 : ¬ (5 : Int) = a3 := fun e => n5 e.symm
  have m6 : ¬ (6 : Int) = a3 := fun e => n6 e.symm
  exact ⟨by simp [findS, shapesL, cmd_shapes.f, stepP, m0, m1, m2, m3, m4, m5, m6], fun k => by simp [n0, n1, n2, n3, n4, n5, n6]⟩
theorem step_fits (a0 : Int) (a1 a2 : ByteArray) (a3 : Int) (a4 : ByteArray) (a5 : List ByteArray) (a6 : Int) (a7 a8 : ByteArray) (a9 : List ByteArray) (h5 : a5.length ≤ 100000) (h9 : a9.length ≤ 100000) :
    (∃ s l, Fits a0 a1 a2 a3 a4 a5 a6 a7 a8 a9 s l) ∨ ((findS (stepP a0 a3 a6) shapesL).2 = false ∧ ∀ k, rafterref35_Line.f (k + 20) a0 a1 a2 a3 a4 a5 a6 a7 a8 a9 = some []) := by
  by_cases k0 : a0 = 0
  · subst k0; exact .inl ⟨_, _, fits_init a1 a2 a3 a4 a5 a6 a7 a8 a9 h5 h9⟩
  by_cases k2 : a0 = 2
  · subst k2; exact .inl ⟨_, _, fits_log a1 a2 a3 a4 a5 a6 a7 a8 a9 h5 h9⟩
  by_cases k3 : a0 = 3
  · subst k3; exact .inl ⟨_, _, fits_new a1 a2 a3 a4 a5 a6 a7 a8 a9 h5 h9⟩
  by_cases k4 : a0 = 4
  · subst k4; exact .inl ⟨_, _, fits_conflicts a1 a2 a3 a4 a5 a6 a7 a8 a9 h5 h9⟩
  by_cases k5 : a0 = 5
  · subst k5; exact .inl ⟨_, _, fits_show a1 a2 a3 a4 a5 a6 a7 a8 a9 h5 h9⟩
  by_cases k6 : a0 = 6
  · subst k6; exact .inl ⟨_, _, fits_check a1 a2 a3 a4 a5 a6 a7 a8 a9 h5 h9⟩
  by_cases k7 : a0 = 7
  · subst k7; exact .inl ⟨_, _, fits_power a1 a2 a3 a4 a5 a6 a7 a8 a9 h5 h9⟩
  by_cases k1 : a0 = 1
  case neg => exact .inr (line_other a0 a1 a2 a3 a4 a5 a6 a7 a8 a9 k0 k1 k2 k3 k4 k5 k6 k7)
  subst k1
  by_cases c0 : a3 = 0
  · subst c0
    by_cases e0 : a6 = 0
    · subst e0; exact .inl ⟨_, _, fits_mkdir a1 a2 a4 a5 a7 a8 a9 h5 h9⟩
    by_cases e1 : a6 = 1
    · subst e1; exact .inl ⟨_, _, fits_write a1 a2 a4 a5 a7 a8 a9 h5 h9⟩
    by_cases e2 : a6 = 2
    · subst e2; exact .inl ⟨_, _, fits_remove a1 a2 a4 a5 a7 a8 a9 h5 h9⟩
    by_cases e3 : a6 = 3
    · subst e3; exact .inl ⟨_, _, fits_move a1 a2 a4 a5 a7 a8 a9 h5 h9⟩
    exact .inr (line_edit a1 a2 a4 a5 a6 a7 a8 a9 e0 e1 e2 e3)
  by_cases c1 : a3 = 1
  · subst c1; exact .inl ⟨_, _, fits_record a1 a2 a4 a5 a6 a7 a8 a9 h5 h9⟩
  by_cases c2 : a3 = 2
  · subst c2; exact .inl ⟨_, _, fits_unrecord a1 a2 a4 a5 a6 a7 a8 a9 h5 h9⟩
  by_cases c3 : a3 = 3
  · subst c3; exact .inl ⟨_, _, fits_pull a1 a2 a4 a5 a6 a7 a8 a9 h5 h9⟩
  by_cases c4 : a3 = 4
  · subst c4; exact .inl ⟨_, _, fits_unpull a1 a2 a4 a5 a6 a7 a8 a9 h5 h9⟩
  by_cases c5 : a3 = 5
  · subst c5; exact .inl ⟨_, _, fits_revert a1 a2 a4 a5 a6 a7 a8 a9 h5 h9⟩
  by_cases c6 : a3 = 6
  · subst c6; exact .inl ⟨_, _, fits_resolve a1 a2 a4 a5 a6 a7 a8 a9 h5 h9⟩
  exact .inr (line_call a1 a2 a3 a4 a5 a6 a7 a8 a9 c0 c1 c2 c3 c4 c5 c6)

/-! ### cmd.Check, cmd.Verb, cmd.Text -/
section
variable {a0 : Int} {a1 a2 : ByteArray} {a3 : Int} {a4 : ByteArray} {a5 : List ByteArray} {a6 : Int} {a7 a8 : ByteArray} {a9 : List ByteArray} {s : S93} {l : List ByteArray}
theorem shapeOf_fit (h : findS (stepP a0 a3 a6) shapesL = (s, true)) : cmd_shapeOf.f a0 a1 a2 a3 a4 a5 a6 a7 a8 a9 = some (s.f0, s.f1, s.f2, s.f3, s.f4, s.f5, true) := by
  simp only [cmd_shapeOf.f, h]
theorem check_fit (h5 : a5.length ≤ 100000) (h9 : a9.length ≤ 100000) (x : TStepT) (h : findS (stepP a0 a3 a6) shapesL = (s, true)) (ht : cmd_texts.f 20 a0 a1 a2 a3 a4 a5 a6 a7 a8 a9 s.f0 = some l) (hf : cmd_fill.f s.f0 s.f1 s.f2 s.f3 s.f4 s.f5 l = some x) :
    Ev (fun k => cmd_Check.f k a0 a1 a2 a3 a4 a5 a6 a7 a8 a9) (if EqS x (a0, a1, a2, a3, a4, a5, a6, a7, a8, a9) then 0 else 2) := by
  obtain ⟨x0, x1, x2, x3, x4, x5, x6, x7, x8, x9⟩ := x
  have hs := same_ev x0 a0 x1 a1 x2 a2 x3 a3 x4 a4 x5 a5 x6 a6 x7 a7 x8 a8 x9 a9 (by omega) (by omega)
  have htx : Ev (fun k => cmd_texts.f k a0 a1 a2 a3 a4 a5 a6 a7 a8 a9 s.f0) l := Ev.of (fun k => cmd_texts.mono _ _ _ _ _ _ _ _ _ _ _ k) (k := 20) ht
  unfold cmd_Check.f
  rw [shapeOf_fit h]
  refine Ev.bind_now (Ev.pos rfl (Ev.bind htx ?_))
  dsimp only
  rw [hf]
  refine Ev.bind_now (Ev.bind hs ?_)
  by_cases e : EqS (x0, x1, x2, x3, x4, x5, x6, x7, x8, x9) (a0, a1, a2, a3, a4, a5, a6, a7, a8, a9)
  · rw [if_pos e]
    exact Ev.pos (decide_eq_true e) (Ev.now _)
  · rw [if_neg e]
    exact Ev.neg (fun h => e (of_decide_eq_true h)) (Ev.now _)
theorem check_none (h : (findS (stepP a0 a3 a6) shapesL).2 = false) : Ev (fun k => cmd_Check.f k a0 a1 a2 a3 a4 a5 a6 a7 a8 a9) 2 := by
  unfold cmd_Check.f cmd_shapeOf.f
  refine Ev.bind_now (Ev.neg ?_ (Ev.now _))
  rw [h]; decide
theorem verb_fit (h : findS (stepP a0 a3 a6) shapesL = (s, true)) : cmd_Verb.f a0 a1 a2 a3 a4 a5 a6 a7 a8 a9 = some s.f0 := by
  unfold cmd_Verb.f
  rw [shapeOf_fit h]
  rfl
theorem join_32 (l : List ByteArray) (h : (joinL 32 (l.map ByteArray.toList)).length ≤ 1000000000) (h2 : l.length ≤ 1000000) : strings_Join.f l (⟨#[32]⟩ : ByteArray) = some (B (joinL 32 (l.map ByteArray.toList))) := by
  have e : joinT l (⟨#[32]⟩ : ByteArray) = joinL 32 (l.map ByteArray.toList) := by
    rw [joinT, show (⟨#[32]⟩ : ByteArray).toList = [32] from toList_B [32]]
    cases l.map ByteArray.toList with
    | nil => rfl
    | cons x r => rw [Go.Lib.join_cons, joinL_flat]; rfl
  unfold strings_Join.f
  rw [e, if_pos ⟨by omega, by omega⟩]
def lineL (v : ByteArray) (l : List ByteArray) : List UInt8 := joinL 32 (v.toList :: l.map fun t => wordL t.toList)
theorem words_loop (l : List ByteArray) (v : ByteArray) (hl : l.length ≤ 90000) (hx : ∀ t ∈ l, t.size ≤ 300000) (hj : (lineL v l).length ≤ 1048576) : ∀ (t : List ByteArray) (i : Nat), l.drop i = t →
    Ev (fun k => cmd_Text.l0 k (v :: (l.take i).map fun t => B (wordL t.toList)) l (l.length : Int) (i : Int)) (B (lineL v l), 0)
  | [], i, ht => by
    have hge := List.drop_eq_nil_iff.1 ht
    refine Ev.step (f := fun k => some (B (lineL v l), (0 : Int))) (fun k => ?_) (Ev.now _)
    have e : (v :: (l.take i).map fun t => B (wordL t.toList)).map ByteArray.toList = v.toList :: l.map fun t => wordL t.toList := by
      rw [List.take_of_length_le hge, List.map_cons, List.map_map]
      simp [Function.comp_def]
    simp only [cmd_Text.l0]
    rw [if_neg (by omega), join_32 _ (by rw [e]; exact Nat.le_trans hj (by omega)) (by rw [List.length_cons, List.length_map, List.length_take]; omega), e, Option.bind_some, if_neg (by have hj' : (joinL 32 (v.toList :: l.map fun t => wordL t.toList)).length ≤ 1048576 := hj; rw [size_B]; omega)]
    rfl
  | x :: t, i, ht => by
    have hlt := drop_cons_lt ht
    have hw : wrap64 ((i : Int) + 1) = ((i + 1 : Nat) : Int) := by rw [wrap64_in (by omega) (by omega)]; omega
    have hxm : x ∈ l := by
      have : x ∈ l.drop i := by rw [ht]; exact List.mem_cons_self
      exact List.mem_of_mem_drop this
    have ih := words_loop l v hl hx hj t (i + 1) (drop_cons_succ ht)
    have e : (v :: (l.take (i + 1)).map fun t => B (wordL t.toList)) = (v :: (l.take i).map fun t => B (wordL t.toList)) ++ [B (wordL x.toList)] := by
      have : l[i] = x := by
        rw [List.drop_eq_getElem_cons hlt] at ht
        exact (List.cons.inj ht).1
      rw [List.take_succ_eq_append_getElem hlt, List.map_append, this]
      rfl
    rw [e] at ih
    have hwd := word_ev x (by have := hx x hxm; omega)
    obtain ⟨N, hN0⟩ := hwd
    have hN : ∀ k, N ≤ k → cmd_Word.f k x = some (B (wordL x.toList)) := hN0
    obtain ⟨M, hM⟩ := ih
    refine ⟨max N M + 1, fun k hk => ?_⟩
    obtain ⟨j, rfl⟩ : ∃ j, k = j + 1 := ⟨k - 1, by omega⟩
    simp only [cmd_Text.l0]
    rw [if_pos (by omega), if_pos (by omega), if_pos (by omega), rdOf_cons ht, hN j (by omega), Option.bind_some, if_pos (by rw [List.length_cons, List.length_map, List.length_take]; omega), hw]
    exact hM j (by omega)
theorem text_fit (h5 : a5.length ≤ 100000) (h9 : a9.length ≤ 100000) (hl : l.length ≤ 90000) (hx : ∀ t ∈ l, t.size ≤ 300000) (hj : (lineL s.f0 l).length ≤ 1048576) (h : findS (stepP a0 a3 a6) shapesL = (s, true)) (ht : cmd_texts.f 20 a0 a1 a2 a3 a4 a5 a6 a7 a8 a9 s.f0 = some l) (hf : cmd_fill.f s.f0 s.f1 s.f2 s.f3 s.f4 s.f5 l = some (a0, a1, a2, a3, a4, a5, a6, a7, a8, a9)) :
    Ev (fun k => cmd_Text.f k a0 a1 a2 a3 a4 a5 a6 a7 a8 a9) (B (lineL s.f0 l), 0) := by
  have hc := check_fit h5 h9 _ h ht hf
  rw [if_pos ⟨rfl, rfl, rfl, rfl, rfl, rfl, rfl, rfl, rfl, rfl⟩] at hc
  have htx : Ev (fun k => cmd_texts.f k a0 a1 a2 a3 a4 a5 a6 a7 a8 a9 s.f0) l := Ev.of (fun k => cmd_texts.mono _ _ _ _ _ _ _ _ _ _ _ k) (k := 20) ht
  unfold cmd_Text.f
  refine Ev.bind hc (Ev.pos rfl ?_)
  rw [verb_fit h]
  exact Ev.bind_now (Ev.bind htx (words_loop l s.f0 hl hx hj l 0 rfl))
theorem text_no (hc : Ev (fun k => cmd_Check.f k a0 a1 a2 a3 a4 a5 a6 a7 a8 a9) 2) : Ev (fun k => cmd_Text.f k a0 a1 a2 a3 a4 a5 a6 a7 a8 a9) ((⟨#[]⟩ : ByteArray), 2) := by
  unfold cmd_Text.f
  exact Ev.bind hc (Ev.neg (by decide) (Ev.now _))
end
theorem unall_map : ∀ m : List (List UInt8), unall (m.map wordL) = some m
  | [] => rfl
  | x :: m => by rw [List.map_cons, unall, read_word, if_pos rfl, unall_map m]; rfl
/-- What the line of a shape and its texts is read as. -/
theorem parse_line (s : S93) (l : List ByteArray) (x : TStepT) (hv : findS (verbP s.f0) shapesL = (s, true)) (hf : cmd_fill.f s.f0 s.f1 s.f2 s.f3 s.f4 s.f5 l = some x) (h32 : (32 : UInt8) ∉ s.f0.toList) (h1 : s.f4 ≤ (l.length : Int)) (h2 : ¬ (s.f4 < (l.length : Int) ∧ s.f5 = false))
    (hl : l.length ≤ 90000) (hx : ∀ t ∈ l, t.size ≤ 90000) (hj : (lineL s.f0 l).length ≤ 1048576) :
    Ev (fun k => cmd_Parse.f k (B (lineL s.f0 l))) (x.1, x.2.1, x.2.2.1, x.2.2.2.1, x.2.2.2.2.1, x.2.2.2.2.2.1, x.2.2.2.2.2.2.1, x.2.2.2.2.2.2.2.1, x.2.2.2.2.2.2.2.2.1, x.2.2.2.2.2.2.2.2.2, 0) := by
  have hsp := split_ev 32 (B (lineL s.f0 l)) (by rw [size_B]; omega)
  have e : splitL 32 (B (lineL s.f0 l)).toList = s.f0.toList :: l.map fun t => wordL t.toList := by
    rw [toList_B, lineL]
    refine splitL_joinL 32 _ (by simp) fun y hy => ?_
    rcases List.mem_cons.1 hy with e | hy
    · rw [e]; exact h32
    · obtain ⟨t, _, rfl⟩ := List.mem_map.1 hy
      exact word_free _
  rw [e, List.map_cons, B_toList] at hsp
  have em : (l.map fun t => wordL t.toList) = (l.map ByteArray.toList).map wordL := by rw [List.map_map]; rfl
  have hpr := parseRest_ev (l.map fun t => wordL t.toList) [] (fun w h => by
    obtain ⟨t, ht, rfl⟩ := List.mem_map.1 h
    have := word_length t.toList
    have := hx t ht
    rw [toList_length] at *
    omega) (by rw [List.length_map, List.length_nil]; omega)
  rw [em, unall_map] at hpr
  have eb : (l.map ByteArray.toList).map B = l := by rw [List.map_map]; simp [Function.comp_def]
  replace hpr : Ev (fun k => parseRest k (((l.map ByteArray.toList).map wordL).map B) []) (l, (0 : Int)) := by
    have h := hpr
    dsimp only at h
    rw [eb, List.nil_append] at h
    exact h
  unfold cmd_Parse.f
  refine Ev.neg (by rw [size_B]; omega) (Ev.bind hsp ?_)
  dsimp only
  unfold cmd_Parse.rest
  rw [em]
  refine Ev.bind hpr (Ev.pos rfl ?_)
  rw [hv]
  unfold cmd_Parse.fin
  refine Ev.neg (fun h => ?_) ?_
  · rcases h with h | h | h
    · cases h
    · dsimp only at h; omega
    · exact h2 h
  · dsimp only
    rw [hf]
    exact Ev.now _
end Go.Proofs.YtloibeefopdhpaaDoor.Plain
set_option linter.unusedVariables false
namespace Go.Proofs.YtloibeefopdhpaaDoor.Plain
open Go.RowKit Go.Proofs.YtloibeefopdhpaaDoor.G Go.Proofs.YtloibeefopdhpaaDoorW.PrintWords Go.Proofs.YtloibeefopdhpaaDoorW.PrintLast Go.Proofs.YtloibeefopdhpaaDoorW.PrintMore

theorem light_loop (l : List ByteArray) (hl : l.length ≤ 9223372036854775806) : ∀ (t : List ByteArray) (i : Nat), l.drop i = t → Ev (fun k => rafterlaw03_Light.l0 k l (i : Int)) (t.all (fun s => decide (s.size ≤ 300)) && decide (l.length ≤ 60))
  | [], i, ht => by
    have hge := List.drop_eq_nil_iff.1 ht
    refine Ev.step (f := fun k => some _) (fun k => ?_) (Ev.now _)
    simp only [rafterlaw03_Light.l0]
    rw [if_neg (by omega)]
    congr 1
    rw [List.all_nil, Bool.true_and, Bool.eq_iff_iff]
    simp only [decide_eq_true_eq]
    omega
  | x :: t, i, ht => by
    have hlt := drop_cons_lt ht
    have hw : wrap64 ((i : Int) + 1) = ((i + 1 : Nat) : Int) := by rw [wrap64_in (by omega) (by omega)]; omega
    rw [List.all_cons]
    by_cases h : x.size ≤ 300
    · rw [decide_eq_true h, Bool.true_and]
      refine Ev.step (fun k => ?_) (light_loop l hl t (i + 1) (drop_cons_succ ht))
      simp only [rafterlaw03_Light.l0]
      rw [if_pos (by omega), if_pos (by omega), rdOf_cons ht, if_neg (by omega), hw]
    · rw [decide_eq_false h, Bool.false_and, Bool.false_and]
      refine Ev.step (f := fun k => some false) (fun k => ?_) (Ev.now _)
      simp only [rafterlaw03_Light.l0]
      rw [if_pos (by omega), if_pos (by omega), rdOf_cons ht, if_pos (by omega)]
/-- An edit that is light. -/
def LightE (p q : ByteArray) (l : List ByteArray) : Prop := p.size ≤ 300 ∧ q.size ≤ 300 ∧ (∀ s ∈ l, s.size ≤ 300) ∧ l.length ≤ 60
theorem few_ev (e : S30) (hl : e.f3.length ≤ 9223372036854775806) : ∃ b, Ev (fun k => rafterlaw22_Few.f k [e]) b ∧ (b = true → LightE e.f1 e.f2 e.f3) := by
  have h0 : rd_T30 [e] 0 = e := rfl
  have w0 : wrap64 ((0 : Int) + 1) = 1 := by rw [wrap64_in (by decide) (by decide)]; rfl
  by_cases h1 : e.f1.size ≤ 300
  case neg =>
    refine ⟨false, Ev.step (f := fun k => some false) (fun k => ?_) (Ev.now _), fun h => by cases h⟩
    simp only [rafterlaw22_Few.f, rafterlaw22_Few.l0, h0]
    rw [if_pos (by simp), if_pos (by decide), if_pos (by omega)]
  by_cases h2 : e.f2.size ≤ 300
  case neg =>
    refine ⟨false, Ev.step (f := fun k => some false) (fun k => ?_) (Ev.now _), fun h => by cases h⟩
    simp only [rafterlaw22_Few.f, rafterlaw22_Few.l0, h0]
    rw [if_pos (by simp), if_pos (by decide), if_neg (by omega), if_pos (by omega)]
  have h3 : Ev (fun k => rafterlaw03_Light.f k e.f3) (e.f3.all (fun s => decide (s.size ≤ 300)) && decide (e.f3.length ≤ 60)) := light_loop e.f3 hl _ 0 rfl
  have hend : Ev (fun k => rafterlaw22_Few.l0 k [e] 1) true := Ev.step (f := fun k => some true) (fun k => by simp only [rafterlaw22_Few.l0]; rw [if_neg (by simp)]; rfl) (Ev.now _)
  refine ⟨e.f3.all (fun s => decide (s.size ≤ 300)) && decide (e.f3.length ≤ 60), Ev.step (f := fun k => (rafterlaw03_Light.f k e.f3).bind fun t => if t = true then rafterlaw22_Few.l0 k [e] 1 else some false) (fun k => ?_) ?_, fun h => ?_⟩
  · simp only [rafterlaw22_Few.f, rafterlaw22_Few.l0, h0]
    rw [if_pos (by simp), if_pos (by decide), if_neg (by omega), if_neg (by omega), w0]
  · refine Ev.bind h3 ?_
    cases hb : e.f3.all (fun s => decide (s.size ≤ 300)) && decide (e.f3.length ≤ 60) with
    | true => exact Ev.pos rfl hend
    | false => exact Ev.neg (by decide) (Ev.now _)
  · rw [Bool.and_eq_true, List.all_eq_true] at h
    exact ⟨h1, h2, fun s hs => of_decide_eq_true (h.1 s hs), of_decide_eq_true h.2⟩
theorem names_ev (a0 : Int) (a1 : ByteArray) (l : List ByteArray) (e0 : Int) (e1 e2 : ByteArray) (e3 : List ByteArray) (hl : l.length ≤ 9223372036854775806) (he : e3.length ≤ 9223372036854775806) : ∀ (t : List ByteArray) (i : Nat), l.drop i = t →
    ∃ b, Ev (fun k => rafterlaw34_Light.l0 k (i : Int) a0 a1 l e0 e1 e2 e3) b ∧ (b = true → (∀ s ∈ t, s.size ≤ 100) ∧ LightE e1 e2 e3)
  | [], i, ht => by
    have hge := List.drop_eq_nil_iff.1 ht
    obtain ⟨b, hb, hp⟩ := few_ev ⟨e0, e1, e2, e3⟩ he
    refine ⟨b, Ev.step (f := fun k => (rafterlaw22_Few.f k [⟨e0, e1, e2, e3⟩]).bind fun t => some t) (fun k => ?_) (Ev.bind hb (Ev.now _)), fun h => ⟨fun s hs => (by cases hs), hp h⟩⟩
    simp only [rafterlaw34_Light.l0]
    rw [if_neg (by omega)]
  | x :: t, i, ht => by
    have hlt := drop_cons_lt ht
    have hw : wrap64 ((i : Int) + 1) = ((i + 1 : Nat) : Int) := by rw [wrap64_in (by omega) (by omega)]; omega
    by_cases h : x.size ≤ 100
    · obtain ⟨b, hb, hp⟩ := names_ev a0 a1 l e0 e1 e2 e3 hl he t (i + 1) (drop_cons_succ ht)
      refine ⟨b, Ev.step (fun k => ?_) hb, fun h' => ⟨fun s hs => ?_, (hp h').2⟩⟩
      · simp only [rafterlaw34_Light.l0]
        rw [if_pos (by omega), if_pos (by omega), rdOf_cons ht, if_neg (by omega), hw]
      · rcases List.mem_cons.1 hs with e | hs
        · rw [e]; exact h
        · exact (hp h').1 s hs
    · refine ⟨false, Ev.step (f := fun k => some false) (fun k => ?_) (Ev.now _), fun h' => by cases h'⟩
      simp only [rafterlaw34_Light.l0]
      rw [if_pos (by omega), if_pos (by omega), rdOf_cons ht, if_pos (by omega)]
/-- A step that is light. -/
def LightX (x : S34) : Prop := x.f1.size ≤ 100 ∧ x.f2.size ≤ 100 ∧ x.f3.f1.size ≤ 100 ∧ x.f3.f2.length ≤ 20 ∧ (∀ s ∈ x.f3.f2, s.size ≤ 100) ∧ LightE x.f3.f3.f1 x.f3.f3.f2 x.f3.f3.f3
theorem call_ev (a0 : Int) (a1 : ByteArray) (l : List ByteArray) (e0 : Int) (e1 e2 : ByteArray) (e3 : List ByteArray) (hl : l.length ≤ 9223372036854775806) (he : e3.length ≤ 9223372036854775806) :
    ∃ b, Ev (fun k => rafterlaw34_Light.f k a0 a1 l e0 e1 e2 e3) b ∧ (b = true → a1.size ≤ 100 ∧ l.length ≤ 20 ∧ (∀ s ∈ l, s.size ≤ 100) ∧ LightE e1 e2 e3) := by
  have hno : Ev (fun k => rafterlaw34_Light.j0 k true a0 a1 l e0 e1 e2 e3) false := Ev.step (f := fun k => some false) (fun k => by simp [rafterlaw34_Light.j0]) (Ev.now _)
  unfold rafterlaw34_Light.f
  by_cases h1 : a1.size ≤ 100
  case neg => exact ⟨false, Ev.pos (by omega) hno, fun h => by cases h⟩
  by_cases h2 : l.length ≤ 20
  case neg => exact ⟨false, Ev.neg (by omega) (by rw [decide_eq_true (show (l.length : Int) > 20 by omega)]; exact hno), fun h => by cases h⟩
  obtain ⟨b, hb, hp⟩ := names_ev a0 a1 l e0 e1 e2 e3 hl he l 0 rfl
  refine ⟨b, Ev.neg (by omega) ?_, fun h => ⟨h1, h2, hp h⟩⟩
  rw [decide_eq_false (show ¬ (l.length : Int) > 20 by omega)]
  refine Ev.step (fun k => ?_) hb
  simp [rafterlaw34_Light.j0]
theorem step_ev (x : S34) (l : List S34) (i : Nat) (hi : (i : Int) < (l.length : Int)) (hi2 : i < 100) (hx : rd_T34 l (i : Int) = x) (h5 : x.f3.f2.length ≤ 9223372036854775806) (h9 : x.f3.f3.f3.length ≤ 9223372036854775806) (Q : Prop)
    (hn : ∃ b, Ev (fun k => rafterlaw35_Light.l0 k l ((i + 1 : Nat) : Int)) b ∧ (b = true → Q)) : ∃ b, Ev (fun k => rafterlaw35_Light.l0 k l (i : Int)) b ∧ (b = true → LightX x ∧ Q) := by
  have hw : wrap64 ((i : Int) + 1) = ((i + 1 : Nat) : Int) := by rw [wrap64_in (by omega) (by omega)]; omega
  by_cases h1 : x.f1.size ≤ 100
  case neg =>
    refine ⟨false, Ev.step (f := fun k => some false) (fun k => ?_) (Ev.now _), fun h => by cases h⟩
    simp only [rafterlaw35_Light.l0, hx]
    rw [if_pos hi, if_pos (by omega), if_pos (by omega)]
  by_cases h2 : x.f2.size ≤ 100
  case neg =>
    refine ⟨false, Ev.step (f := fun k => some false) (fun k => ?_) (Ev.now _), fun h => by cases h⟩
    simp only [rafterlaw35_Light.l0, hx]
    rw [if_pos hi, if_pos (by omega), if_neg (by omega), if_pos (by omega)]
  obtain ⟨c, hc, hp⟩ := call_ev x.f3.f0 x.f3.f1 x.f3.f2 x.f3.f3.f0 x.f3.f3.f1 x.f3.f3.f2 x.f3.f3.f3 h5 h9
  obtain ⟨b, hb, hq⟩ := hn
  cases c with
  | false =>
    refine ⟨false, Ev.step (f := fun k => (rafterlaw34_Light.f k x.f3.f0 x.f3.f1 x.f3.f2 x.f3.f3.f0 x.f3.f3.f1 x.f3.f3.f2 x.f3.f3.f3).bind fun t => if t = true then rafterlaw35_Light.l0 k l ((i + 1 : Nat) : Int) else some false) (fun k => ?_) (Ev.bind hc (Ev.neg (by decide) (Ev.now _))), fun h => by cases h⟩
    simp only [rafterlaw35_Light.l0, hx]
    rw [if_pos hi, if_pos (by omega), if_neg (by omega), if_neg (by omega), hw]
  | true =>
    refine ⟨b, Ev.step (f := fun k => (rafterlaw34_Light.f k x.f3.f0 x.f3.f1 x.f3.f2 x.f3.f3.f0 x.f3.f3.f1 x.f3.f3.f2 x.f3.f3.f3).bind fun t => if t = true then rafterlaw35_Light.l0 k l ((i + 1 : Nat) : Int) else some false) (fun k => ?_) (Ev.bind hc (Ev.pos rfl hb)), fun h => ⟨⟨h1, h2, hp rfl⟩, hq h⟩⟩
    simp only [rafterlaw35_Light.l0, hx]
    rw [if_pos hi, if_pos (by omega), if_neg (by omega), if_neg (by omega), hw]
theorem light_two (x y : S34) (h5 : x.f3.f2.length ≤ 9223372036854775806) (h9 : x.f3.f3.f3.length ≤ 9223372036854775806) (g5 : y.f3.f2.length ≤ 9223372036854775806) (g9 : y.f3.f3.f3.length ≤ 9223372036854775806) :
    ∃ b, Ev (fun k => rafterlaw35_Light.f k [x, y]) b ∧ (b = true → LightX x ∧ LightX y ∧ True) := by
  have hend : ∃ b, Ev (fun k => rafterlaw35_Light.l0 k [x, y] ((1 + 1 : Nat) : Int)) b ∧ (b = true → True) :=
    ⟨true, Ev.step (f := fun k => some true) (fun k => by simp only [rafterlaw35_Light.l0]; rw [if_neg (by simp)]; rfl) (Ev.now _), fun _ => trivial⟩
  exact step_ev x [x, y] 0 (by simp) (by omega) rfl h5 h9 _ (step_ev y [x, y] 1 (by simp) (by omega) rfl g5 g9 _ hend)
theorem joinL_bound (n : Nat) : ∀ (l : List (List UInt8)), (∀ w ∈ l, w.length ≤ n) → (joinL 32 l).length ≤ l.length * (n + 1)
  | [], _ => by simp [joinL]
  | [x], h => by
    have := h x (by simp)
    simp only [joinL, List.length_cons, List.length_nil]
    omega
  | x :: y :: l, h => by
    have h1 := h x (by simp)
    have h2 := joinL_bound n (y :: l) (fun w hw => h w (by simp [List.mem_cons.1 hw]))
    rw [joinL_cons 32 x (by simp), List.length_append, List.length_cons]
    simp only [List.length_cons] at *
    have : (l.length + 1 + 1) * (n + 1) = (l.length + 1) * (n + 1) + (n + 1) := by rw [Nat.add_mul (l.length + 1) 1, Nat.one_mul]
    omega
theorem line_bound (v : ByteArray) (l : List ByteArray) (hv : v.size ≤ 20) (hl : l.length ≤ 100) (hx : ∀ t ∈ l, t.size ≤ 300) : (lineL v l).length ≤ 1048576 := by
  have := joinL_bound 1000 (v.toList :: l.map fun t => wordL t.toList) (fun w hw => by
    rcases List.mem_cons.1 hw with e | hw
    · rw [e, toList_length]; omega
    · obtain ⟨t, ht, rfl⟩ := List.mem_map.1 hw
      have h1 := word_length t.toList
      have h2 := hx t ht
      rw [toList_length] at h1
      omega)
  rw [List.length_cons, List.length_map] at this
  have h2 : (l.length + 1) * 1001 ≤ 101 * 1001 := Nat.mul_le_mul_right _ (by omega)
  exact Nat.le_trans this (Nat.le_trans h2 (by decide))
theorem ite_out {α : Type} {c : Prop} [Decidable c] {A B : Option α} {l : α} {P : Prop} (h : (if c then A else B) = some l) (ha : A = some l → P) (hb : B = some l → P) : P := by
  by_cases hc : c
  · rw [if_pos hc] at h; exact ha h
  · rw [if_neg hc] at h; exact hb h
/-- The texts of a light step that has a shape are few and short. -/
theorem texts_bound {a0 : Int} {a1 a2 : ByteArray} {a3 : Int} {a4 : ByteArray} {a5 : List ByteArray} {a6 : Int} {a7 a8 : ByteArray} {a9 : List ByteArray} {v : ByteArray} {l : List ByteArray} (h : cmd_texts.f 20 a0 a1 a2 a3 a4 a5 a6 a7 a8 a9 v = some l)
    (h1 : a1.size ≤ 300) (h2 : a2.size ≤ 300) (h4 : a4.size ≤ 300) (h5 : ∀ s ∈ a5, s.size ≤ 300) (h7 : a7.size ≤ 300) (h8 : a8.size ≤ 300) (h9 : ∀ s ∈ a9, s.size ≤ 300) (l5 : a5.length ≤ 90) (l9 : a9.length ≤ 90) : l.length ≤ 100 ∧ ∀ t ∈ l, t.size ≤ 300 := by
  have one : ∀ l' : List ByteArray, some l' = some l → (l'.length ≤ 100 ∧ ∀ t ∈ l', t.size ≤ 300) → l.length ≤ 100 ∧ ∀ t ∈ l, t.size ≤ 300 := fun l' e p => by injection e with e; rw [← e]; exact p
  have app : ∀ (p q : List ByteArray), some (p ++ q) = some l → p.length ≤ 3 → (∀ t ∈ p, t.size ≤ 300) → q.length ≤ 90 → (∀ t ∈ q, t.size ≤ 300) → l.length ≤ 100 ∧ ∀ t ∈ l, t.size ≤ 300 := fun p q e a b c d =>
    one _ e ⟨by rw [List.length_append]; omega, fun t ht => (List.mem_append.1 ht).elim (b t) (d t)⟩
  unfold cmd_texts.f at h
  simp only [cmd_texts.j0, cmd_texts.j1, Option.bind_some] at h
  repeat' refine ite_out h (fun h => ?_) (fun h => ?_)
  all_goals first
    | exact app [a1, a7] a9 h (by simp) (by simp [*]) l9 h9
    | exact app [a1, a2] a5 h (by simp) (by simp [*]) l5 h5
    | exact app [a1] a5 h (by simp) (by simp [*]) l5 h5
    | exact one _ h ⟨by simp, by simp [*]⟩
    | cases h
end Go.Proofs.YtloibeefopdhpaaDoor.Plain
namespace Go.Proofs.YtloibeefopdhpaaDoor.Pure
open Go.RowKit Go.Proofs.YtloibeefopdhpaaDoor.G Go.Proofs.YtloibeefopdhpaaDoor.Plain Go.Proofs.YtloibeefopdhpaaDoorW.PrintWords Go.Proofs.YtloibeefopdhpaaDoorW.PrintLast Go.Proofs.YtloibeefopdhpaaDoorW.PrintMore
theorem texts_of (x y : S34) (h5 : x.f3.f2.length ≤ 9223372036854775806) (h9 : x.f3.f3.f3.length ≤ 9223372036854775806) (g5 : y.f3.f2.length ≤ 9223372036854775806) (g9 : y.f3.f3.f3.length ≤ 9223372036854775806) :
    Ev (fun k => rafterlaw35_CmdTexts.f k x.f0 x.f1 x.f2 x.f3.f0 x.f3.f1 x.f3.f2 x.f3.f3.f0 x.f3.f3.f1 x.f3.f3.f2 x.f3.f3.f3 y.f0 y.f1 y.f2 y.f3.f0 y.f3.f1 y.f3.f2 y.f3.f3.f0 y.f3.f3.f1 y.f3.f3.f2 y.f3.f3.f3) true := by
  obtain ⟨b, hb, hp⟩ := light_two x y h5 h9 g5 g9
  obtain ⟨a0, a1, a2, a3, a4, a5, a6, a7, a8, a9⟩ := x
  obtain ⟨b0, b1, b2, b3, b4, b5, b6, b7, b8, b9⟩ := y
  dsimp only at *
  unfold rafterlaw35_CmdTexts.f
  refine Ev.bind hb ?_
  cases b with
  | false => exact Ev.neg (by decide) awake35
  | true =>
    obtain ⟨⟨x1, x2, x4, x5, x5s, x7, x8, x9s, x9⟩, ⟨y1, y2, y4, y5, y5s, y7, y8, y9s, y9⟩, _⟩ := hp rfl
    dsimp only at x1 x2 x4 x5 x5s x7 x8 x9s x9 y1 y2 y4 y5 y5s y7 y8 y9s y9
    refine Ev.pos rfl ?_
    have hs1 := same_ev a0 b0 a1 b1 a2 b2 a3 b3 a4 b4 a5 b5 a6 b6 a7 b7 a8 b8 a9 b9 (by omega) (by omega)
    have hs2 := refSame_ev a0 b0 a1 b1 a2 b2 a3 b3 a4 b4 a5 b5 a6 b6 a7 b7 a8 b8 a9 b9 (by omega) (by omega)
    have hline : ∀ L, (∀ k, rafterref35_Line.f (k + 20) a0 a1 a2 a3 a4 a5 a6 a7 a8 a9 = some L) → Ev (fun k => rafterref35_Line.f k a0 a1 a2 a3 a4 a5 a6 a7 a8 a9) L := fun L h => ⟨20, fun k hk => by
      obtain ⟨j, rfl⟩ : ∃ j, k = j + 20 := ⟨k - 20, by omega⟩
      exact h j⟩
    have hnone : (∀ k, rafterref35_Line.f (k + 20) a0 a1 a2 a3 a4 a5 a6 a7 a8 a9 = some []) → Ev (fun k => cmd_Check.f k a0 a1 a2 a3 a4 a5 a6 a7 a8 a9) 2 →
        Ev (fun k => (rafterref35_Line.f k a0 a1 a2 a3 a4 a5 a6 a7 a8 a9).bind fun L => (cmd_Text.f k a0 a1 a2 a3 a4 a5 a6 a7 a8 a9).bind fun T => (cmd_Same.f k a0 a1 a2 a3 a4 a5 a6 a7 a8 a9 b0 b1 b2 b3 b4 b5 b6 b7 b8 b9).bind fun s1 => (rafterref35_Same.f k a0 a1 a2 a3 a4 a5 a6 a7 a8 a9 b0 b1 b2 b3 b4 b5 b6 b7 b8 b9).bind fun s2 => (cmd_Check.f k a0 a1 a2 a3 a4 a5 a6 a7 a8 a9).bind fun c => if s1 = s2 ∧ (c == 0) = decide ((L.length : Int) > 0) then (if L.length = 0 then (rafterlaw35_awake.f k).bind fun a => if a = true ∧ T.1.toList = [] ∧ T.2 = 2 ∧ c = 2 then some true else none else (cmd_Parse.f k T.1).bind fun z => (rafterlaw35_awake.f k).bind fun a => (rafterref35_Text.f k L).bind fun R => (rafterref35_Same.f k z.1 z.2.1 z.2.2.1 z.2.2.2.1 z.2.2.2.2.1 z.2.2.2.2.2.1 z.2.2.2.2.2.2.1 z.2.2.2.2.2.2.2.1 z.2.2.2.2.2.2.2.2.1 z.2.2.2.2.2.2.2.2.2.1 a0 a1 a2 a3 a4 a5 a6 a7 a8 a9).bind fun s3 => (cmd_Verb.f a0 a1 a2 a3 a4 a5 a6 a7 a8 a9).bind fun v => if a = true ∧ T.2 = 0 ∧ T.1.toList = R.toList ∧ z.2.2.2.2.2.2.2.2.2.2 = 0 ∧ s3 = true ∧ v.toList = (rdOf ByteArray.empty L 0).toList then some true else none) else none) true := fun hl hc => by
      refine Ev.bind (hline [] hl) (Ev.bind (text_no hc) (Ev.bind hs1 (Ev.bind hs2 (Ev.bind hc (Ev.pos ⟨rfl, by decide⟩ (Ev.pos rfl (Ev.bind awake35 (Ev.pos ⟨rfl, toList_B [], rfl, rfl⟩ (Ev.now _)))))))))
    rcases step_fits a0 a1 a2 a3 a4 a5 a6 a7 a8 a9 (by omega) (by omega) with ⟨s, l, X, f1, f2, f3, f4, f5, ⟨f6, f7⟩, f8, f9⟩ | ⟨f1, f2⟩
    case inr => exact hnone f2 (check_none f1)
    have hc := check_fit (by omega) (by omega) X f1 f3 f4
    by_cases hX : EqS X (a0, a1, a2, a3, a4, a5, a6, a7, a8, a9)
    case neg =>
      simp only [if_neg hX] at f5
      rw [if_neg hX] at hc
      exact hnone f5 hc
    simp only [if_pos hX] at f5
    rw [if_pos hX] at hc
    obtain rfl : X = (a0, a1, a2, a3, a4, a5, a6, a7, a8, a9) := by
      obtain ⟨X0, X1, X2, X3, X4, X5, X6, X7, X8, X9⟩ := X
      obtain ⟨e0, e1, e2, e3, e4, e5, e6, e7, e8, e9⟩ := hX
      dsimp only at e0 e1 e2 e3 e4 e5 e6 e7 e8 e9
      rw [e0, e1, e2, e3, e4, e5, e6, e7, e8, e9]
    obtain ⟨hl, hx⟩ := texts_bound f3 (by omega) (by omega) (by omega) (fun t ht => by have := x5s t ht; omega) x7 x8 x9s (by omega) (by omega)
    have hj := line_bound s.f0 l f7 hl hx
    have htx := text_fit (by omega) (by omega) (by omega) (fun t ht => by have := hx t ht; omega) hj f1 f3 f4
    have hpr := parse_line s l _ f2 f4 f6 f8 f9 (by omega) (fun t ht => by have := hx t ht; omega) hj
    have hrt := refText_ev s.f0 l (by omega) (by omega) (fun t ht => by have := hx t ht; omega)
    have hs3 := refSame_ev a0 a0 a1 a1 a2 a2 a3 a3 a4 a4 a5 a5 a6 a6 a7 a7 a8 a8 a9 a9 (by omega) (by omega)
    rw [decide_eq_true ⟨rfl, rfl, rfl, rfl, rfl, rfl, rfl, rfl, rfl, rfl⟩] at hs3
    refine Ev.bind (hline _ f5) (Ev.bind htx (Ev.bind hs1 (Ev.bind hs2 (Ev.bind hc (Ev.pos ⟨rfl, ?_⟩ (Ev.neg (by simp) (Ev.bind hpr (Ev.bind awake35 (Ev.bind hrt (Ev.bind hs3 ?_))))))))))
    · rw [List.length_cons, decide_eq_true (by omega)]
      rfl
    · rw [verb_fit f1]
      exact Ev.bind_now (Ev.pos ⟨rfl, rfl, by rw [toList_B, toList_B]; rfl, rfl, rfl, rfl⟩ (Ev.now _))
theorem CmdTexts (x0 x1 : S34) (ok0 : (Lit.int .i64 x0.f0).wf = true ∧ x0.f1.size ≤ 140737488351232 ∧ x0.f2.size ≤ 140737488351232 ∧ (Lit.int .i64 x0.f3.f0).wf = true ∧ x0.f3.f1.size ≤ 140737488351232 ∧ ((∀ x ∈ x0.f3.f2, x.size ≤ 140737488351232) ∧ x0.f3.f2.length * 16 ≤ 140737488351232 ∧ x0.f3.f2.length ≤ 9223372036854775807) ∧ (Lit.int .i64 x0.f3.f3.f0).wf = true ∧ x0.f3.f3.f1.size ≤ 140737488351232 ∧ x0.f3.f3.f2.size ≤ 140737488351232 ∧ (∀ x ∈ x0.f3.f3.f3, x.size ≤ 140737488351232) ∧ x0.f3.f3.f3.length * 16 ≤ 140737488351232 ∧ x0.f3.f3.f3.length ≤ 9223372036854775807) (ok1 : (Lit.int .i64 x1.f0).wf = true ∧ x1.f1.size ≤ 140737488351232 ∧ x1.f2.size ≤ 140737488351232 ∧ (Lit.int .i64 x1.f3.f0).wf = true ∧ x1.f3.f1.size ≤ 140737488351232 ∧ ((∀ x ∈ x1.f3.f2, x.size ≤ 140737488351232) ∧ x1.f3.f2.length * 16 ≤ 140737488351232 ∧ x1.f3.f2.length ≤ 9223372036854775807) ∧ (Lit.int .i64 x1.f3.f3.f0).wf = true ∧ x1.f3.f3.f1.size ≤ 140737488351232 ∧ x1.f3.f3.f2.size ≤ 140737488351232 ∧ (∀ x ∈ x1.f3.f3.f3, x.size ≤ 140737488351232) ∧ x1.f3.f3.f3.length * 16 ≤ 140737488351232 ∧ x1.f3.f3.f3.length ≤ 9223372036854775807) :
    ∃ k, rafterlaw35_CmdTexts.f k x0.f0 x0.f1 x0.f2 x0.f3.f0 x0.f3.f1 x0.f3.f2 x0.f3.f3.f0 x0.f3.f3.f1 x0.f3.f3.f2 x0.f3.f3.f3 x1.f0 x1.f1 x1.f2 x1.f3.f0 x1.f3.f1 x1.f3.f2 x1.f3.f3.f0 x1.f3.f3.f1 x1.f3.f3.f2 x1.f3.f3.f3 = some true := by
  obtain ⟨_, _, _, _, _, ⟨_, p1, _⟩, _, _, _, _, p2, _⟩ := ok0
  obtain ⟨_, _, _, _, _, ⟨_, q1, _⟩, _, _, _, _, q2, _⟩ := ok1
  obtain ⟨N, hN⟩ := texts_of x0 x1 (by omega) (by omega) (by omega) (by omega)
  exact ⟨N, hN N (Nat.le_refl _)⟩
end Go.Proofs.YtloibeefopdhpaaDoor.Pure
