-- Printed by a program of this session (wip/tools/own_print.sh), on the model of the kit's print; Lean checks it.
import Derived.Test.YtloibeefopdhpaaDoorG18
namespace Go.Proofs.YtloibeefopdhpaaDoor.G
open Go.RowKit Go.Proofs.YtloibeefopdhpaaDoorW.PrintWords Go.Proofs.YtloibeefopdhpaaDoorW.PrintLast Go.Proofs.YtloibeefopdhpaaDoorW.PrintMore
attribute [local go_sem] max2_int min2_int max_two min_two max_three min_three max_four min_four   -- for this text's walks alone
set_option linter.unusedVariables false
set_option linter.unusedSimpArgs false

/-- A function's code, and parts of it by their place. -/
def cp (f : Func) : Code := match f.body with | some c => c | none => .skip
def cl : Code → Code
  | .seq a _ | .cond _ a _ | .loop a | .block _ a | .scope a => a
  | c => c
def cr : Code → Code
  | .seq _ b | .cond _ _ b => b
  | c => c
/-! ### rafterref35_Line: function 17 -/
mutual
def rafterref35_Line.j0 : Nat → ByteArray → Bool → Int → ByteArray → ByteArray → Int → ByteArray → List ByteArray → Int → ByteArray → ByteArray → List ByteArray → Int → ByteArray → List ByteArray → Int → ByteArray → ByteArray → List ByteArray → Option (List ByteArray)
  | 0, _, _, _, _, _, _, _, _, _, _, _, _, _, _, _, _, _, _, _ => none
  | k + 1, x4, x33, x824000, x824001, x824002, x824003, x824004, x824005, x824006, x824007, x824008, x824009, x825000, x825001, x825002, x825003, x825004, x825005, x825006 => if x33 = true then ((some (([(⟨#[112, 117, 108, 108]⟩ : ByteArray), x4, x824002] : List ByteArray) : List ByteArray)).bind fun y826 => (if y826.length + x825002.length < 8796093022208 then (some (y826 ++ x825002)) else (none))) else (if x824002.toList = ([] : List UInt8) then (if x824000 = 1 then (if x825000 = 0 then (if x825001.toList = ([] : List UInt8) then (rafterref35_Line.j1 k x4 ((x825002.length : Int) == 0) x824000 x824001 x824002 x824003 x824004 x824005 x824006 x824007 x824008 x824009 x825000 x825001 x825002 x825003 x825004 x825005 x825006) else (rafterref35_Line.j1 k x4 false x824000 x824001 x824002 x824003 x824004 x824005 x824006 x824007 x824008 x824009 x825000 x825001 x825002 x825003 x825004 x825005 x825006)) else (rafterref35_Line.j1 k x4 false x824000 x824001 x824002 x824003 x824004 x824005 x824006 x824007 x824008 x824009 x825000 x825001 x825002 x825003 x825004 x825005 x825006)) else (rafterref35_Line.j1 k x4 false x824000 x824001 x824002 x824003 x824004 x824005 x824006 x824007 x824008 x824009 x825000 x825001 x825002 x825003 x825004 x825005 x825006)) else (some ([] : List ByteArray)))
def rafterref35_Line.j1 : Nat → ByteArray → Bool → Int → ByteArray → ByteArray → Int → ByteArray → List ByteArray → Int → ByteArray → ByteArray → List ByteArray → Int → ByteArray → List ByteArray → Int → ByteArray → ByteArray → List ByteArray → Option (List ByteArray)
  | 0, _, _, _, _, _, _, _, _, _, _, _, _, _, _, _, _, _, _, _ => none
  | k + 1, x4, x62, x824000, x824001, x824002, x824003, x824004, x824005, x824006, x824007, x824008, x824009, x825000, x825001, x825002, x825003, x825004, x825005, x825006 => if x62 = true then ((rafterref35_edit.f k x4 x825003 x825004 x825005 x825006).bind fun t832 => (some t832)) else ((rafterref35_none.f x825003 x825004 x825005 x825006).bind fun t835 => (if t835 = true then (rafterref35_Line.j2 k x4 (x825003 != 0) x824000 x824001 x824002 x824003 x824004 x824005 x824006 x824007 x824008 x824009 x825000 x825001 x825002 x825003 x825004 x825005 x825006) else (rafterref35_Line.j2 k x4 true x824000 x824001 x824002 x824003 x824004 x824005 x824006 x824007 x824008 x824009 x825000 x825001 x825002 x825003 x825004 x825005 x825006)))
def rafterref35_Line.j2 : Nat → ByteArray → Bool → Int → ByteArray → ByteArray → Int → ByteArray → List ByteArray → Int → ByteArray → ByteArray → List ByteArray → Int → ByteArray → List ByteArray → Int → ByteArray → ByteArray → List ByteArray → Option (List ByteArray)
  | 0, _, _, _, _, _, _, _, _, _, _, _, _, _, _, _, _, _, _, _ => none
  | k + 1, x4, x76, x824000, x824001, x824002, x824003, x824004, x824005, x824006, x824007, x824008, x824009, x825000, x825001, x825002, x825003, x825004, x825005, x825006 => if x76 = true then (some ([] : List ByteArray)) else (if x824000 = 1 then (if x825000 = 4 then (rafterref35_Line.j3 k x4 (x825001.toList == ([] : List UInt8)) x824000 x824001 x824002 x824003 x824004 x824005 x824006 x824007 x824008 x824009 x825000 x825001 x825002 x825003 x825004 x825005 x825006) else (rafterref35_Line.j3 k x4 false x824000 x824001 x824002 x824003 x824004 x824005 x824006 x824007 x824008 x824009 x825000 x825001 x825002 x825003 x825004 x825005 x825006)) else (rafterref35_Line.j3 k x4 false x824000 x824001 x824002 x824003 x824004 x824005 x824006 x824007 x824008 x824009 x825000 x825001 x825002 x825003 x825004 x825005 x825006))
def rafterref35_Line.j3 : Nat → ByteArray → Bool → Int → ByteArray → ByteArray → Int → ByteArray → List ByteArray → Int → ByteArray → ByteArray → List ByteArray → Int → ByteArray → List ByteArray → Int → ByteArray → ByteArray → List ByteArray → Option (List ByteArray)
  | 0, _, _, _, _, _, _, _, _, _, _, _, _, _, _, _, _, _, _, _ => none
  | k + 1, x4, x89, x824000, x824001, x824002, x824003, x824004, x824005, x824006, x824007, x824008, x824009, x825000, x825001, x825002, x825003, x825004, x825005, x825006 => if x89 = true then ((some (([(⟨#[117, 110, 112, 117, 108, 108]⟩ : ByteArray), x4] : List ByteArray) : List ByteArray)).bind fun y836 => (if y836.length + x825002.length < 8796093022208 then (some (y836 ++ x825002)) else (none))) else (if (x825002.length : Int) > 0 then (some ([] : List ByteArray)) else (if x824000 = 1 then (rafterref35_Line.j4 k x4 (x825000 == 1) x824000 x824001 x824002 x824003 x824004 x824005 x824006 x824007 x824008 x824009 x825000 x825001 x825002 x825003 x825004 x825005 x825006) else (rafterref35_Line.j4 k x4 false x824000 x824001 x824002 x824003 x824004 x824005 x824006 x824007 x824008 x824009 x825000 x825001 x825002 x825003 x825004 x825005 x825006)))
def rafterref35_Line.j4 : Nat → ByteArray → Bool → Int → ByteArray → ByteArray → Int → ByteArray → List ByteArray → Int → ByteArray → ByteArray → List ByteArray → Int → ByteArray → List ByteArray → Int → ByteArray → ByteArray → List ByteArray → Option (List ByteArray)
  | 0, _, _, _, _, _, _, _, _, _, _, _, _, _, _, _, _, _, _, _ => none
  | k + 1, x4, x106, x824000, x824001, x824002, x824003, x824004, x824005, x824006, x824007, x824008, x824009, x825000, x825001, x825002, x825003, x825004, x825005, x825006 => if x106 = true then (some (([(⟨#[114, 101, 99, 111, 114, 100]⟩ : ByteArray), x4, x825001] : List ByteArray))) else (if x824000 = 1 then (rafterref35_Line.j5 k x4 (x825000 == 2) x824000 x824001 x824002 x824003 x824004 x824005 x824006 x824007 x824008 x824009 x825000 x825001 x825002 x825003 x825004 x825005 x825006) else (rafterref35_Line.j5 k x4 false x824000 x824001 x824002 x824003 x824004 x824005 x824006 x824007 x824008 x824009 x825000 x825001 x825002 x825003 x825004 x825005 x825006))
def rafterref35_Line.j5 : Nat → ByteArray → Bool → Int → ByteArray → ByteArray → Int → ByteArray → List ByteArray → Int → ByteArray → ByteArray → List ByteArray → Int → ByteArray → List ByteArray → Int → ByteArray → ByteArray → List ByteArray → Option (List ByteArray)
  | 0, _, _, _, _, _, _, _, _, _, _, _, _, _, _, _, _, _, _, _ => none
  | k + 1, x4, x118, x824000, x824001, x824002, x824003, x824004, x824005, x824006, x824007, x824008, x824009, x825000, x825001, x825002, x825003, x825004, x825005, x825006 => if x118 = true then (some (([(⟨#[117, 110, 114, 101, 99, 111, 114, 100]⟩ : ByteArray), x4, x825001] : List ByteArray))) else (if x825001.toList = ([] : List UInt8) then (if x824000 = 1 then (rafterref35_Line.j6 k x4 (x825000 == 5) x824000 x824001 x824002 x824003 x824004 x824005 x824006 x824007 x824008 x824009 x825000 x825001 x825002 x825003 x825004 x825005 x825006) else (rafterref35_Line.j6 k x4 false x824000 x824001 x824002 x824003 x824004 x824005 x824006 x824007 x824008 x824009 x825000 x825001 x825002 x825003 x825004 x825005 x825006)) else (some ([] : List ByteArray)))
def rafterref35_Line.j6 : Nat → ByteArray → Bool → Int → ByteArray → ByteArray → Int → ByteArray → List ByteArray → Int → ByteArray → ByteArray → List ByteArray → Int → ByteArray → List ByteArray → Int → ByteArray → ByteArray → List ByteArray → Option (List ByteArray)
  | 0, _, _, _, _, _, _, _, _, _, _, _, _, _, _, _, _, _, _, _ => none
  | k + 1, x4, x133, x824000, x824001, x824002, x824003, x824004, x824005, x824006, x824007, x824008, x824009, x825000, x825001, x825002, x825003, x825004, x825005, x825006 => if x133 = true then (some (([(⟨#[114, 101, 118, 101, 114, 116]⟩ : ByteArray), x4] : List ByteArray))) else (if x824000 = 1 then (rafterref35_Line.j7 k x4 (x825000 == 6) x824000 x824001 x824002 x824003 x824004 x824005 x824006 x824007 x824008 x824009 x825000 x825001 x825002 x825003 x825004 x825005 x825006) else (rafterref35_Line.j7 k x4 false x824000 x824001 x824002 x824003 x824004 x824005 x824006 x824007 x824008 x824009 x825000 x825001 x825002 x825003 x825004 x825005 x825006))
def rafterref35_Line.j7 : Nat → ByteArray → Bool → Int → ByteArray → ByteArray → Int → ByteArray → List ByteArray → Int → ByteArray → ByteArray → List ByteArray → Int → ByteArray → List ByteArray → Int → ByteArray → ByteArray → List ByteArray → Option (List ByteArray)
  | 0, _, _, _, _, _, _, _, _, _, _, _, _, _, _, _, _, _, _, _ => none
  | k + 1, x4, x143, x824000, x824001, x824002, x824003, x824004, x824005, x824006, x824007, x824008, x824009, x825000, x825001, x825002, x825003, x825004, x825005, x825006 => if x143 = true then (some (([(⟨#[114, 101, 115, 111, 108, 118, 101]⟩ : ByteArray), x4] : List ByteArray))) else (if x824000 = 1 then (rafterref35_Line.j8 k x4 true x824000 x824001 x824002 x824003 x824004 x824005 x824006 x824007 x824008 x824009) else (if x825000 = 0 then (if x824000 < 0 then (rafterref35_Line.j8 k x4 true x824000 x824001 x824002 x824003 x824004 x824005 x824006 x824007 x824008 x824009) else (rafterref35_Line.j8 k x4 (decide (x824000 > 7)) x824000 x824001 x824002 x824003 x824004 x824005 x824006 x824007 x824008 x824009)) else (rafterref35_Line.j8 k x4 true x824000 x824001 x824002 x824003 x824004 x824005 x824006 x824007 x824008 x824009)))
def rafterref35_Line.j8 : Nat → ByteArray → Bool → Int → ByteArray → ByteArray → Int → ByteArray → List ByteArray → Int → ByteArray → ByteArray → List ByteArray → Option (List ByteArray)
  | 0, _, _, _, _, _, _, _, _, _, _, _, _ => none
  | k + 1, x4, x163, x824000, x824001, x824002, x824003, x824004, x824005, x824006, x824007, x824008, x824009 => if x163 = true then (some ([] : List ByteArray)) else (if x824000 = 7 then (rafterref35_Line.j9 k x4 (x4.toList == ([] : List UInt8)) x824000 x824001 x824002 x824003 x824004 x824005 x824006 x824007 x824008 x824009) else (rafterref35_Line.j9 k x4 false x824000 x824001 x824002 x824003 x824004 x824005 x824006 x824007 x824008 x824009))
def rafterref35_Line.j9 : Nat → ByteArray → Bool → Int → ByteArray → ByteArray → Int → ByteArray → List ByteArray → Int → ByteArray → ByteArray → List ByteArray → Option (List ByteArray)
  | 0, _, _, _, _, _, _, _, _, _, _, _, _ => none
  | k + 1, x4, x170, x824000, x824001, x824002, x824003, x824004, x824005, x824006, x824007, x824008, x824009 => if x170 = true then (some (([(⟨#[112, 111, 119, 101, 114]⟩ : ByteArray)] : List ByteArray))) else (if x824000 = 7 then (some ([] : List ByteArray)) else ((some (([(⟨#[105, 110, 105, 116]⟩ : ByteArray), (⟨#[]⟩ : ByteArray), (⟨#[108, 111, 103]⟩ : ByteArray), (⟨#[110, 101, 119]⟩ : ByteArray), (⟨#[99, 111, 110, 102, 108, 105, 99, 116, 115]⟩ : ByteArray), (⟨#[115, 104, 111, 119]⟩ : ByteArray), (⟨#[99, 104, 101, 99, 107]⟩ : ByteArray)] : List ByteArray) : List ByteArray)).bind fun y857 => (if 0 ≤ x824000 then (if x824000 < (y857.length : Int) then (some (([rdOf ByteArray.empty y857 x824000, x4] : List ByteArray))) else (none)) else (none))))
end
def rafterref35_Line.f (k : Nat) (a0_0 : Int) (a0_1 : ByteArray) (a0_2 : ByteArray) (a0_3 : Int) (a0_4 : ByteArray) (l0_5 : List ByteArray) (a0_6 : Int) (a0_7 : ByteArray) (a0_8 : ByteArray) (l0_9 : List ByteArray) : Option (List ByteArray) := if a0_0 = 1 then (if a0_3 = 3 then (if a0_4.toList = ([] : List UInt8) then ((rafterref35_none.f a0_6 a0_7 a0_8 l0_9).bind fun t825 => (if t825 = true then (rafterref35_Line.j0 k a0_1 (a0_6 == 0) a0_0 a0_1 a0_2 a0_3 a0_4 l0_5 a0_6 a0_7 a0_8 l0_9 a0_3 a0_4 l0_5 a0_6 a0_7 a0_8 l0_9) else (rafterref35_Line.j0 k a0_1 false a0_0 a0_1 a0_2 a0_3 a0_4 l0_5 a0_6 a0_7 a0_8 l0_9 a0_3 a0_4 l0_5 a0_6 a0_7 a0_8 l0_9))) else (rafterref35_Line.j0 k a0_1 false a0_0 a0_1 a0_2 a0_3 a0_4 l0_5 a0_6 a0_7 a0_8 l0_9 a0_3 a0_4 l0_5 a0_6 a0_7 a0_8 l0_9)) else (rafterref35_Line.j0 k a0_1 false a0_0 a0_1 a0_2 a0_3 a0_4 l0_5 a0_6 a0_7 a0_8 l0_9 a0_3 a0_4 l0_5 a0_6 a0_7 a0_8 l0_9)) else (rafterref35_Line.j0 k a0_1 false a0_0 a0_1 a0_2 a0_3 a0_4 l0_5 a0_6 a0_7 a0_8 l0_9 a0_3 a0_4 l0_5 a0_6 a0_7 a0_8 l0_9)
theorem rafterref35_Line.mono_l : ∀ k, (∀ y0 y1 y2 y3 y4 y5 y6 y7 y8 y9 y10 y11 y12 y13 y14 y15 y16 y17 y18, LeO (rafterref35_Line.j0 k y0 y1 y2 y3 y4 y5 y6 y7 y8 y9 y10 y11 y12 y13 y14 y15 y16 y17 y18) (rafterref35_Line.j0 (k + 1) y0 y1 y2 y3 y4 y5 y6 y7 y8 y9 y10 y11 y12 y13 y14 y15 y16 y17 y18)) ∧ (∀ y0 y1 y2 y3 y4 y5 y6 y7 y8 y9 y10 y11 y12 y13 y14 y15 y16 y17 y18, LeO (rafterref35_Line.j1 k y0 y1 y2 y3 y4 y5 y6 y7 y8 y9 y10 y11 y12 y13 y14 y15 y16 y17 y18) (rafterref35_Line.j1 (k + 1) y0 y1 y2 y3 y4 y5 y6 y7 y8 y9 y10 y11 y12 y13 y14 y15 y16 y17 y18)) ∧ (∀ y0 y1 y2 y3 y4 y5 y6 y7 y8 y9 y10 y11 y12 y13 y14 y15 y16 y17 y18, LeO (rafterref35_Line.j2 k y0 y1 y2 y3 y4 y5 y6 y7 y8 y9 y10 y11 y12 y13 y14 y15 y16 y17 y18) (rafterref35_Line.j2 (k + 1) y0 y1 y2 y3 y4 y5 y6 y7 y8 y9 y10 y11 y12 y13 y14 y15 y16 y17 y18)) ∧ (∀ y0 y1 y2 y3 y4 y5 y6 y7 y8 y9 y10 y11 y12 y13 y14 y15 y16 y17 y18, LeO (rafterref35_Line.j3 k y0 y1 y2 y3 y4 y5 y6 y7 y8 y9 y10 y11 y12 y13 y14 y15 y16 y17 y18) (rafterref35_Line.j3 (k + 1) y0 y1 y2 y3 y4 y5 y6 y7 y8 y9 y10 y11 y12 y13 y14 y15 y16 y17 y18)) ∧ (∀ y0 y1 y2 y3 y4 y5 y6 y7 y8 y9 y10 y11 y12 y13 y14 y15 y16 y17 y18, LeO (rafterref35_Line.j4 k y0 y1 y2 y3 y4 y5 y6 y7 y8 y9 y10 y11 y12 y13 y14 y15 y16 y17 y18) (rafterref35_Line.j4 (k + 1) y0 y1 y2 y3 y4 y5 y6 y7 y8 y9 y10 y11 y12 y13 y14 y15 y16 y17 y18)) ∧ (∀ y0 y1 y2 y3 y4 y5 y6 y7 y8 y9 y10 y11 y12 y13 y14 y15 y16 y17 y18, LeO (rafterref35_Line.j5 k y0 y1 y2 y3 y4 y5 y6 y7 y8 y9 y10 y11 y12 y13 y14 y15 y16 y17 y18) (rafterref35_Line.j5 (k + 1) y0 y1 y2 y3 y4 y5 y6 y7 y8 y9 y10 y11 y12 y13 y14 y15 y16 y17 y18)) ∧ (∀ y0 y1 y2 y3 y4 y5 y6 y7 y8 y9 y10 y11 y12 y13 y14 y15 y16 y17 y18, LeO (rafterref35_Line.j6 k y0 y1 y2 y3 y4 y5 y6 y7 y8 y9 y10 y11 y12 y13 y14 y15 y16 y17 y18) (rafterref35_Line.j6 (k + 1) y0 y1 y2 y3 y4 y5 y6 y7 y8 y9 y10 y11 y12 y13 y14 y15 y16 y17 y18)) ∧ (∀ y0 y1 y2 y3 y4 y5 y6 y7 y8 y9 y10 y11 y12 y13 y14 y15 y16 y17 y18, LeO (rafterref35_Line.j7 k y0 y1 y2 y3 y4 y5 y6 y7 y8 y9 y10 y11 y12 y13 y14 y15 y16 y17 y18) (rafterref35_Line.j7 (k + 1) y0 y1 y2 y3 y4 y5 y6 y7 y8 y9 y10 y11 y12 y13 y14 y15 y16 y17 y18)) ∧ (∀ y0 y1 y2 y3 y4 y5 y6 y7 y8 y9 y10 y11, LeO (rafterref35_Line.j8 k y0 y1 y2 y3 y4 y5 y6 y7 y8 y9 y10 y11) (rafterref35_Line.j8 (k + 1) y0 y1 y2 y3 y4 y5 y6 y7 y8 y9 y10 y11)) ∧ (∀ y0 y1 y2 y3 y4 y5 y6 y7 y8 y9 y10 y11, LeO (rafterref35_Line.j9 k y0 y1 y2 y3 y4 y5 y6 y7 y8 y9 y10 y11) (rafterref35_Line.j9 (k + 1) y0 y1 y2 y3 y4 y5 y6 y7 y8 y9 y10 y11))
  | 0 => ⟨fun _ _ _ _ _ _ _ _ _ _ _ _ _ _ _ _ _ _ _ r h => by simp [rafterref35_Line.j0] at h, fun _ _ _ _ _ _ _ _ _ _ _ _ _ _ _ _ _ _ _ r h => by simp [rafterref35_Line.j1] at h, fun _ _ _ _ _ _ _ _ _ _ _ _ _ _ _ _ _ _ _ r h => by simp [rafterref35_Line.j2] at h, fun _ _ _ _ _ _ _ _ _ _ _ _ _ _ _ _ _ _ _ r h => by simp [rafterref35_Line.j3] at h, fun _ _ _ _ _ _ _ _ _ _ _ _ _ _ _ _ _ _ _ r h => by simp [rafterref35_Line.j4] at h, fun _ _ _ _ _ _ _ _ _ _ _ _ _ _ _ _ _ _ _ r h => by simp [rafterref35_Line.j5] at h, fun _ _ _ _ _ _ _ _ _ _ _ _ _ _ _ _ _ _ _ r h => by simp [rafterref35_Line.j6] at h, fun _ _ _ _ _ _ _ _ _ _ _ _ _ _ _ _ _ _ _ r h => by simp [rafterref35_Line.j7] at h, fun _ _ _ _ _ _ _ _ _ _ _ _ r h => by simp [rafterref35_Line.j8] at h, fun _ _ _ _ _ _ _ _ _ _ _ _ r h => by simp [rafterref35_Line.j9] at h⟩
  | k + 1 => by
    obtain ⟨ih0, ih1, ih2, ih3, ih4, ih5, ih6, ih7, ih8, ih9⟩ := rafterref35_Line.mono_l k
    refine ⟨?_, ?_, ?_, ?_, ?_, ?_, ?_, ?_, ?_, ?_⟩
    · intro y0 y1 y2 y3 y4 y5 y6 y7 y8 y9 y10 y11 y12 y13 y14 y15 y16 y17 y18
      unfold rafterref35_Line.j0
      repeat' first
      | (with_reducible exact ih0 _ _ _ _ _ _ _ _ _ _ _ _ _ _ _ _ _ _ _)
      | (with_reducible exact ih1 _ _ _ _ _ _ _ _ _ _ _ _ _ _ _ _ _ _ _)
      | (with_reducible exact ih2 _ _ _ _ _ _ _ _ _ _ _ _ _ _ _ _ _ _ _)
      | (with_reducible exact ih3 _ _ _ _ _ _ _ _ _ _ _ _ _ _ _ _ _ _ _)
      | (with_reducible exact ih4 _ _ _ _ _ _ _ _ _ _ _ _ _ _ _ _ _ _ _)
      | (with_reducible exact ih5 _ _ _ _ _ _ _ _ _ _ _ _ _ _ _ _ _ _ _)
      | (with_reducible exact ih6 _ _ _ _ _ _ _ _ _ _ _ _ _ _ _ _ _ _ _)
      | (with_reducible exact ih7 _ _ _ _ _ _ _ _ _ _ _ _ _ _ _ _ _ _ _)
      | (with_reducible exact ih8 _ _ _ _ _ _ _ _ _ _ _ _)
      | (with_reducible exact ih9 _ _ _ _ _ _ _ _ _ _ _ _)
      | (with_reducible exact rafterref35_edit.mono _ _ _ _ _ _)
      | (with_reducible exact LeO.refl _)
      | (with_reducible exact LeO.none _)
      | (with_reducible refine LeO.ite ?_ ?_)
      | (with_reducible refine LeO.bind ?_ (fun _ => ?_))
      | exact ih0 _ _ _ _ _ _ _ _ _ _ _ _ _ _ _ _ _ _ _
      | exact ih1 _ _ _ _ _ _ _ _ _ _ _ _ _ _ _ _ _ _ _
      | exact ih2 _ _ _ _ _ _ _ _ _ _ _ _ _ _ _ _ _ _ _
      | exact ih3 _ _ _ _ _ _ _ _ _ _ _ _ _ _ _ _ _ _ _
      | exact ih4 _ _ _ _ _ _ _ _ _ _ _ _ _ _ _ _ _ _ _
      | exact ih5 _ _ _ _ _ _ _ _ _ _ _ _ _ _ _ _ _ _ _
      | exact ih6 _ _ _ _ _ _ _ _ _ _ _ _ _ _ _ _ _ _ _
      | exact ih7 _ _ _ _ _ _ _ _ _ _ _ _ _ _ _ _ _ _ _
      | exact ih8 _ _ _ _ _ _ _ _ _ _ _ _
      | exact ih9 _ _ _ _ _ _ _ _ _ _ _ _
      | exact rafterref35_edit.mono _ _ _ _ _ _
      | exact LeO.none _
      | refine LeO.ite ?_ ?_
      | refine LeO.bind ?_ (fun _ => ?_)
    · intro y0 y1 y2 y3 y4 y5 y6 y7 y8 y9 y10 y11 y12 y13 y14 y15 y16 y17 y18
      unfold rafterref35_Line.j1
      repeat' first
      | (with_reducible exact ih0 _ _ _ _ _ _ _ _ _ _ _ _ _ _ _ _ _ _ _)
      | (with_reducible exact ih1 _ _ _ _ _ _ _ _ _ _ _ _ _ _ _ _ _ _ _)
      | (with_reducible exact ih2 _ _ _ _ _ _ _ _ _ _ _ _ _ _ _ _ _ _ _)
      | (with_reducible exact ih3 _ _ _ _ _ _ _ _ _ _ _ _ _ _ _ _ _ _ _)
      | (with_reducible exact ih4 _ _ _ _ _ _ _ _ _ _ _ _ _ _ _ _ _ _ _)
      | (with_reducible exact ih5 _ _ _ _ _ _ _ _ _ _ _ _ _ _ _ _ _ _ _)
      | (with_reducible exact ih6 _ _ _ _ _ _ _ _ _ _ _ _ _ _ _ _ _ _ _)
      | (with_reducible exact ih7 _ _ _ _ _ _ _ _ _ _ _ _ _ _ _ _ _ _ _)
      | (with_reducible exact ih8 _ _ _ _ _ _ _ _ _ _ _ _)
      | (with_reducible exact ih9 _ _ _ _ _ _ _ _ _ _ _ _)
      | (with_reducible exact rafterref35_edit.mono _ _ _ _ _ _)
      | (with_reducible exact LeO.refl _)
      | (with_reducible exact LeO.none _)
      | (with_reducible refine LeO.ite ?_ ?_)
      | (with_reducible refine LeO.bind ?_ (fun _ => ?_))
      | exact ih0 _ _ _ _ _ _ _ _ _ _ _ _ _ _ _ _ _ _ _
      | exact ih1 _ _ _ _ _ _ _ _ _ _ _ _ _ _ _ _ _ _ _
      | exact ih2 _ _ _ _ _ _ _ _ _ _ _ _ _ _ _ _ _ _ _
      | exact ih3 _ _ _ _ _ _ _ _ _ _ _ _ _ _ _ _ _ _ _
      | exact ih4 _ _ _ _ _ _ _ _ _ _ _ _ _ _ _ _ _ _ _
      | exact ih5 _ _ _ _ _ _ _ _ _ _ _ _ _ _ _ _ _ _ _
      | exact ih6 _ _ _ _ _ _ _ _ _ _ _ _ _ _ _ _ _ _ _
      | exact ih7 _ _ _ _ _ _ _ _ _ _ _ _ _ _ _ _ _ _ _
      | exact ih8 _ _ _ _ _ _ _ _ _ _ _ _
      | exact ih9 _ _ _ _ _ _ _ _ _ _ _ _
      | exact rafterref35_edit.mono _ _ _ _ _ _
      | exact LeO.none _
      | refine LeO.ite ?_ ?_
      | refine LeO.bind ?_ (fun _ => ?_)
    · intro y0 y1 y2 y3 y4 y5 y6 y7 y8 y9 y10 y11 y12 y13 y14 y15 y16 y17 y18
      unfold rafterref35_Line.j2
      repeat' first
      | (with_reducible exact ih0 _ _ _ _ _ _ _ _ _ _ _ _ _ _ _ _ _ _ _)
      | (with_reducible exact ih1 _ _ _ _ _ _ _ _ _ _ _ _ _ _ _ _ _ _ _)
      | (with_reducible exact ih2 _ _ _ _ _ _ _ _ _ _ _ _ _ _ _ _ _ _ _)
      | (with_reducible exact ih3 _ _ _ _ _ _ _ _ _ _ _ _ _ _ _ _ _ _ _)
      | (with_reducible exact ih4 _ _ _ _ _ _ _ _ _ _ _ _ _ _ _ _ _ _ _)
      | (with_reducible exact ih5 _ _ _ _ _ _ _ _ _ _ _ _ _ _ _ _ _ _ _)
      | (with_reducible exact ih6 _ _ _ _ _ _ _ _ _ _ _ _ _ _ _ _ _ _ _)
      | (with_reducible exact ih7 _ _ _ _ _ _ _ _ _ _ _ _ _ _ _ _ _ _ _)
      | (with_reducible exact ih8 _ _ _ _ _ _ _ _ _ _ _ _)
      | (with_reducible exact ih9 _ _ _ _ _ _ _ _ _ _ _ _)
      | (with_reducible exact rafterref35_edit.mono _ _ _ _ _ _)
      | (with_reducible exact LeO.refl _)
      | (with_reducible exact LeO.none _)
      | (with_reducible refine LeO.ite ?_ ?_)
      | (with_reducible refine LeO.bind ?_ (fun _ => ?_))
      | exact ih0 _ _ _ _ _ _ _ _ _ _ _ _ _ _ _ _ _ _ _
      | exact ih1 _ _ _ _ _ _ _ _ _ _ _ _ _ _ _ _ _ _ _
      | exact ih2 _ _ _ _ _ _ _ _ _ _ _ _ _ _ _ _ _ _ _
      | exact ih3 _ _ _ _ _ _ _ _ _ _ _ _ _ _ _ _ _ _ _
      | exact ih4 _ _ _ _ _ _ _ _ _ _ _ _ _ _ _ _ _ _ _
      | exact ih5 _ _ _ _ _ _ _ _ _ _ _ _ _ _ _ _ _ _ _
      | exact ih6 _ _ _ _ _ _ _ _ _ _ _ _ _ _ _ _ _ _ _
      | exact ih7 _ _ _ _ _ _ _ _ _ _ _ _ _ _ _ _ _ _ _
      | exact ih8 _ _ _ _ _ _ _ _ _ _ _ _
      | exact ih9 _ _ _ _ _ _ _ _ _ _ _ _
      | exact rafterref35_edit.mono _ _ _ _ _ _
      | exact LeO.none _
      | refine LeO.ite ?_ ?_
      | refine LeO.bind ?_ (fun _ => ?_)
    · intro y0 y1 y2 y3 y4 y5 y6 y7 y8 y9 y10 y11 y12 y13 y14 y15 y16 y17 y18
      unfold rafterref35_Line.j3
      repeat' first
      | (with_reducible exact ih0 _ _ _ _ _ _ _ _ _ _ _ _ _ _ _ _ _ _ _)
      | (with_reducible exact ih1 _ _ _ _ _ _ _ _ _ _ _ _ _ _ _ _ _ _ _)
      | (with_reducible exact ih2 _ _ _ _ _ _ _ _ _ _ _ _ _ _ _ _ _ _ _)
      | (with_reducible exact ih3 _ _ _ _ _ _ _ _ _ _ _ _ _ _ _ _ _ _ _)
      | (with_reducible exact ih4 _ _ _ _ _ _ _ _ _ _ _ _ _ _ _ _ _ _ _)
      | (with_reducible exact ih5 _ _ _ _ _ _ _ _ _ _ _ _ _ _ _ _ _ _ _)
      | (with_reducible exact ih6 _ _ _ _ _ _ _ _ _ _ _ _ _ _ _ _ _ _ _)
      | (with_reducible exact ih7 _ _ _ _ _ _ _ _ _ _ _ _ _ _ _ _ _ _ _)
      | (with_reducible exact ih8 _ _ _ _ _ _ _ _ _ _ _ _)
      | (with_reducible exact ih9 _ _ _ _ _ _ _ _ _ _ _ _)
      | (with_reducible exact rafterref35_edit.mono _ _ _ _ _ _)
      | (with_reducible exact LeO.refl _)
      | (with_reducible exact LeO.none _)
      | (with_reducible refine LeO.ite ?_ ?_)
      | (with_reducible refine LeO.bind ?_ (fun _ => ?_))
      | exact ih0 _ _ _ _ _ _ _ _ _ _ _ _ _ _ _ _ _ _ _
      | exact ih1 _ _ _ _ _ _ _ _ _ _ _ _ _ _ _ _ _ _ _
      | exact ih2 _ _ _ _ _ _ _ _ _ _ _ _ _ _ _ _ _ _ _
      | exact ih3 _ _ _ _ _ _ _ _ _ _ _ _ _ _ _ _ _ _ _
      | exact ih4 _ _ _ _ _ _ _ _ _ _ _ _ _ _ _ _ _ _ _
      | exact ih5 _ _ _ _ _ _ _ _ _ _ _ _ _ _ _ _ _ _ _
      | exact ih6 _ _ _ _ _ _ _ _ _ _ _ _ _ _ _ _ _ _ _
      | exact ih7 _ _ _ _ _ _ _ _ _ _ _ _ _ _ _ _ _ _ _
      | exact ih8 _ _ _ _ _ _ _ _ _ _ _ _
      | exact ih9 _ _ _ _ _ _ _ _ _ _ _ _
      | exact rafterref35_edit.mono _ _ _ _ _ _
      | exact LeO.none _
      | refine LeO.ite ?_ ?_
      | refine LeO.bind ?_ (fun _ => ?_)
    · intro y0 y1 y2 y3 y4 y5 y6 y7 y8 y9 y10 y11 y12 y13 y14 y15 y16 y17 y18
      unfold rafterref35_Line.j4
      repeat' first
      | (with_reducible exact ih0 _ _ _ _ _ _ _ _ _ _ _ _ _ _ _ _ _ _ _)
      | (with_reducible exact ih1 _ _ _ _ _ _ _ _ _ _ _ _ _ _ _ _ _ _ _)
      | (with_reducible exact ih2 _ _ _ _ _ _ _ _ _ _ _ _ _ _ _ _ _ _ _)
      | (with_reducible exact ih3 _ _ _ _ _ _ _ _ _ _ _ _ _ _ _ _ _ _ _)
      | (with_reducible exact ih4 _ _ _ _ _ _ _ _ _ _ _ _ _ _ _ _ _ _ _)
      | (with_reducible exact ih5 _ _ _ _ _ _ _ _ _ _ _ _ _ _ _ _ _ _ _)
      | (with_reducible exact ih6 _ _ _ _ _ _ _ _ _ _ _ _ _ _ _ _ _ _ _)
      | (with_reducible exact ih7 _ _ _ _ _ _ _ _ _ _ _ _ _ _ _ _ _ _ _)
      | (with_reducible exact ih8 _ _ _ _ _ _ _ _ _ _ _ _)
      | (with_reducible exact ih9 _ _ _ _ _ _ _ _ _ _ _ _)
      | (with_reducible exact rafterref35_edit.mono _ _ _ _ _ _)
      | (with_reducible exact LeO.refl _)
      | (with_reducible exact LeO.none _)
      | (with_reducible refine LeO.ite ?_ ?_)
      | (with_reducible refine LeO.bind ?_ (fun _ => ?_))
      | exact ih0 _ _ _ _ _ _ _ _ _ _ _ _ _ _ _ _ _ _ _
      | exact ih1 _ _ _ _ _ _ _ _ _ _ _ _ _ _ _ _ _ _ _
      | exact ih2 _ _ _ _ _ _ _ _ _ _ _ _ _ _ _ _ _ _ _
      | exact ih3 _ _ _ _ _ _ _ _ _ _ _ _ _ _ _ _ _ _ _
      | exact ih4 _ _ _ _ _ _ _ _ _ _ _ _ _ _ _ _ _ _ _
      | exact ih5 _ _ _ _ _ _ _ _ _ _ _ _ _ _ _ _ _ _ _
      | exact ih6 _ _ _ _ _ _ _ _ _ _ _ _ _ _ _ _ _ _ _
      | exact ih7 _ _ _ _ _ _ _ _ _ _ _ _ _ _ _ _ _ _ _
      | exact ih8 _ _ _ _ _ _ _ _ _ _ _ _
      | exact ih9 _ _ _ _ _ _ _ _ _ _ _ _
      | exact rafterref35_edit.mono _ _ _ _ _ _
      | exact LeO.none _
      | refine LeO.ite ?_ ?_
      | refine LeO.bind ?_ (fun _ => ?_)
    · intro y0 y1 y2 y3 y4 y5 y6 y7 y8 y9 y10 y11 y12 y13 y14 y15 y16 y17 y18
      unfold rafterref35_Line.j5
      repeat' first
      | (with_reducible exact ih0 _ _ _ _ _ _ _ _ _ _ _ _ _ _ _ _ _ _ _)
      | (with_reducible exact ih1 _ _ _ _ _ _ _ _ _ _ _ _ _ _ _ _ _ _ _)
      | (with_reducible exact ih2 _ _ _ _ _ _ _ _ _ _ _ _ _ _ _ _ _ _ _)
      | (with_reducible exact ih3 _ _ _ _ _ _ _ _ _ _ _ _ _ _ _ _ _ _ _)
      | (with_reducible exact ih4 _ _ _ _ _ _ _ _ _ _ _ _ _ _ _ _ _ _ _)
      | (with_reducible exact ih5 _ _ _ _ _ _ _ _ _ _ _ _ _ _ _ _ _ _ _)
      | (with_reducible exact ih6 _ _ _ _ _ _ _ _ _ _ _ _ _ _ _ _ _ _ _)
      | (with_reducible exact ih7 _ _ _ _ _ _ _ _ _ _ _ _ _ _ _ _ _ _ _)
      | (with_reducible exact ih8 _ _ _ _ _ _ _ _ _ _ _ _)
      | (with_reducible exact ih9 _ _ _ _ _ _ _ _ _ _ _ _)
      | (with_reducible exact rafterref35_edit.mono _ _ _ _ _ _)
      | (with_reducible exact LeO.refl _)
      | (with_reducible exact LeO.none _)
      | (with_reducible refine LeO.ite ?_ ?_)
      | (with_reducible refine LeO.bind ?_ (fun _ => ?_))
      | exact ih0 _ _ _ _ _ _ _ _ _ _ _ _ _ _ _ _ _ _ _
      | exact ih1 _ _ _ _ _ _ _ _ _ _ _ _ _ _ _ _ _ _ _
      | exact ih2 _ _ _ _ _ _ _ _ _ _ _ _ _ _ _ _ _ _ _
      | exact ih3 _ _ _ _ _ _ _ _ _ _ _ _ _ _ _ _ _ _ _
      | exact ih4 _ _ _ _ _ _ _ _ _ _ _ _ _ _ _ _ _ _ _
      | exact ih5 _ _ _ _ _ _ _ _ _ _ _ _ _ _ _ _ _ _ _
      | exact ih6 _ _ _ _ _ _ _ _ _ _ _ _ _ _ _ _ _ _ _
      | exact ih7 _ _ _ _ _ _ _ _ _ _ _ _ _ _ _ _ _ _ _
      | exact ih8 _ _ _ _ _ _ _ _ _ _ _ _
      | exact ih9 _ _ _ _ _ _ _ _ _ _ _ _
      | exact rafterref35_edit.mono _ _ _ _ _ _
      | exact LeO.none _
      | refine LeO.ite ?_ ?_
      | refine LeO.bind ?_ (fun _ => ?_)
    · intro y0 y1 y2 y3 y4 y5 y6 y7 y8 y9 y10 y11 y12 y13 y14 y15 y16 y17 y18
      unfold rafterref35_Line.j6
      repeat' first
      | (with_reducible exact ih0 _ _ _ _ _ _ _ _ _ _ _ _ _ _ _ _ _ _ _)
      | (with_reducible exact ih1 _ _ _ _ _ _ _ _ _ _ _ _ _ _ _ _ _ _ _)
      | (with_reducible exact ih2 _ _ _ _ _ _ _ _ _ _ _ _ _ _ _ _ _ _ _)
      | (with_reducible exact ih3 _ _ _ _ _ _ _ _ _ _ _ _ _ _ _ _ _ _ _)
      | (with_reducible exact ih4 _ _ _ _ _ _ _ _ _ _ _ _ _ _ _ _ _ _ _)
      | (with_reducible exact ih5 _ _ _ _ _ _ _ _ _ _ _ _ _ _ _ _ _ _ _)
      | (with_reducible exact ih6 _ _ _ _ _ _ _ _ _ _ _ _ _ _ _ _ _ _ _)
      | (with_reducible exact ih7 _ _ _ _ _ _ _ _ _ _ _ _ _ _ _ _ _ _ _)
      | (with_reducible exact ih8 _ _ _ _ _ _ _ _ _ _ _ _)
      | (with_reducible exact ih9 _ _ _ _ _ _ _ _ _ _ _ _)
      | (with_reducible exact rafterref35_edit.mono _ _ _ _ _ _)
      | (with_reducible exact LeO.refl _)
      | (with_reducible exact LeO.none _)
      | (with_reducible refine LeO.ite ?_ ?_)
      | (with_reducible refine LeO.bind ?_ (fun _ => ?_))
      | exact ih0 _ _ _ _ _ _ _ _ _ _ _ _ _ _ _ _ _ _ _
      | exact ih1 _ _ _ _ _ _ _ _ _ _ _ _ _ _ _ _ _ _ _
      | exact ih2 _ _ _ _ _ _ _ _ _ _ _ _ _ _ _ _ _ _ _
      | exact ih3 _ _ _ _ _ _ _ _ _ _ _ _ _ _ _ _ _ _ _
      | exact ih4 _ _ _ _ _ _ _ _ _ _ _ _ _ _ _ _ _ _ _
      | exact ih5 _ _ _ _ _ _ _ _ _ _ _ _ _ _ _ _ _ _ _
      | exact ih6 _ _ _ _ _ _ _ _ _ _ _ _ _ _ _ _ _ _ _
      | exact ih7 _ _ _ _ _ _ _ _ _ _ _ _ _ _ _ _ _ _ _
      | exact ih8 _ _ _ _ _ _ _ _ _ _ _ _
      | exact ih9 _ _ _ _ _ _ _ _ _ _ _ _
      | exact rafterref35_edit.mono _ _ _ _ _ _
      | exact LeO.none _
      | refine LeO.ite ?_ ?_
      | refine LeO.bind ?_ (fun _ => ?_)
    · intro y0 y1 y2 y3 y4 y5 y6 y7 y8 y9 y10 y11 y12 y13 y14 y15 y16 y17 y18
      unfold rafterref35_Line.j7
      repeat' first
      | (with_reducible exact ih0 _ _ _ _ _ _ _ _ _ _ _ _ _ _ _ _ _ _ _)
      | (with_reducible exact ih1 _ _ _ _ _ _ _ _ _ _ _ _ _ _ _ _ _ _ _)
      | (with_reducible exact ih2 _ _ _ _ _ _ _ _ _ _ _ _ _ _ _ _ _ _ _)
      | (with_reducible exact ih3 _ _ _ _ _ _ _ _ _ _ _ _ _ _ _ _ _ _ _)
      | (with_reducible exact ih4 _ _ _ _ _ _ _ _ _ _ _ _ _ _ _ _ _ _ _)
      | (with_reducible exact ih5 _ _ _ _ _ _ _ _ _ _ _ _ _ _ _ _ _ _ _)
      | (with_reducible exact ih6 _ _ _ _ _ _ _ _ _ _ _ _ _ _ _ _ _ _ _)
      | (with_reducible exact ih7 _ _ _ _ _ _ _ _ _ _ _ _ _ _ _ _ _ _ _)
      | (with_reducible exact ih8 _ _ _ _ _ _ _ _ _ _ _ _)
      | (with_reducible exact ih9 _ _ _ _ _ _ _ _ _ _ _ _)
      | (with_reducible exact rafterref35_edit.mono _ _ _ _ _ _)
      | (with_reducible exact LeO.refl _)
      | (with_reducible exact LeO.none _)
      | (with_reducible refine LeO.ite ?_ ?_)
      | (with_reducible refine LeO.bind ?_ (fun _ => ?_))
      | exact ih0 _ _ _ _ _ _ _ _ _ _ _ _ _ _ _ _ _ _ _
      | exact ih1 _ _ _ _ _ _ _ _ _ _ _ _ _ _ _ _ _ _ _
      | exact ih2 _ _ _ _ _ _ _ _ _ _ _ _ _ _ _ _ _ _ _
      | exact ih3 _ _ _ _ _ _ _ _ _ _ _ _ _ _ _ _ _ _ _
      | exact ih4 _ _ _ _ _ _ _ _ _ _ _ _ _ _ _ _ _ _ _
      | exact ih5 _ _ _ _ _ _ _ _ _ _ _ _ _ _ _ _ _ _ _
      | exact ih6 _ _ _ _ _ _ _ _ _ _ _ _ _ _ _ _ _ _ _
      | exact ih7 _ _ _ _ _ _ _ _ _ _ _ _ _ _ _ _ _ _ _
      | exact ih8 _ _ _ _ _ _ _ _ _ _ _ _
      | exact ih9 _ _ _ _ _ _ _ _ _ _ _ _
      | exact rafterref35_edit.mono _ _ _ _ _ _
      | exact LeO.none _
      | refine LeO.ite ?_ ?_
      | refine LeO.bind ?_ (fun _ => ?_)
    · intro y0 y1 y2 y3 y4 y5 y6 y7 y8 y9 y10 y11
      unfold rafterref35_Line.j8
      repeat' first
      | (with_reducible exact ih0 _ _ _ _ _ _ _ _ _ _ _ _ _ _ _ _ _ _ _)
      | (with_reducible exact ih1 _ _ _ _ _ _ _ _ _ _ _ _ _ _ _ _ _ _ _)
      | (with_reducible exact ih2 _ _ _ _ _ _ _ _ _ _ _ _ _ _ _ _ _ _ _)
      | (with_reducible exact ih3 _ _ _ _ _ _ _ _ _ _ _ _ _ _ _ _ _ _ _)
      | (with_reducible exact ih4 _ _ _ _ _ _ _ _ _ _ _ _ _ _ _ _ _ _ _)
      | (with_reducible exact ih5 _ _ _ _ _ _ _ _ _ _ _ _ _ _ _ _ _ _ _)
      | (with_reducible exact ih6 _ _ _ _ _ _ _ _ _ _ _ _ _ _ _ _ _ _ _)
      | (with_reducible exact ih7 _ _ _ _ _ _ _ _ _ _ _ _ _ _ _ _ _ _ _)
      | (with_reducible exact ih8 _ _ _ _ _ _ _ _ _ _ _ _)
      | (with_reducible exact ih9 _ _ _ _ _ _ _ _ _ _ _ _)
      | (with_reducible exact rafterref35_edit.mono _ _ _ _ _ _)
      | (with_reducible exact LeO.refl _)
      | (with_reducible exact LeO.none _)
      | (with_reducible refine LeO.ite ?_ ?_)
      | (with_reducible refine LeO.bind ?_ (fun _ => ?_))
      | exact ih0 _ _ _ _ _ _ _ _ _ _ _ _ _ _ _ _ _ _ _
      | exact ih1 _ _ _ _ _ _ _ _ _ _ _ _ _ _ _ _ _ _ _
      | exact ih2 _ _ _ _ _ _ _ _ _ _ _ _ _ _ _ _ _ _ _
      | exact ih3 _ _ _ _ _ _ _ _ _ _ _ _ _ _ _ _ _ _ _
      | exact ih4 _ _ _ _ _ _ _ _ _ _ _ _ _ _ _ _ _ _ _
      | exact ih5 _ _ _ _ _ _ _ _ _ _ _ _ _ _ _ _ _ _ _
      | exact ih6 _ _ _ _ _ _ _ _ _ _ _ _ _ _ _ _ _ _ _
      | exact ih7 _ _ _ _ _ _ _ _ _ _ _ _ _ _ _ _ _ _ _
      | exact ih8 _ _ _ _ _ _ _ _ _ _ _ _
      | exact ih9 _ _ _ _ _ _ _ _ _ _ _ _
      | exact rafterref35_edit.mono _ _ _ _ _ _
      | exact LeO.none _
      | refine LeO.ite ?_ ?_
      | refine LeO.bind ?_ (fun _ => ?_)
    · intro y0 y1 y2 y3 y4 y5 y6 y7 y8 y9 y10 y11
      unfold rafterref35_Line.j9
      repeat' first
      | (with_reducible exact ih0 _ _ _ _ _ _ _ _ _ _ _ _ _ _ _ _ _ _ _)
      | (with_reducible exact ih1 _ _ _ _ _ _ _ _ _ _ _ _ _ _ _ _ _ _ _)
      | (with_reducible exact ih2 _ _ _ _ _ _ _ _ _ _ _ _ _ _ _ _ _ _ _)
      | (with_reducible exact ih3 _ _ _ _ _ _ _ _ _ _ _ _ _ _ _ _ _ _ _)
      | (with_reducible exact ih4 _ _ _ _ _ _ _ _ _ _ _ _ _ _ _ _ _ _ _)
      | (with_reducible exact ih5 _ _ _ _ _ _ _ _ _ _ _ _ _ _ _ _ _ _ _)
      | (with_reducible exact ih6 _ _ _ _ _ _ _ _ _ _ _ _ _ _ _ _ _ _ _)
      | (with_reducible exact ih7 _ _ _ _ _ _ _ _ _ _ _ _ _ _ _ _ _ _ _)
      | (with_reducible exact ih8 _ _ _ _ _ _ _ _ _ _ _ _)
      | (with_reducible exact ih9 _ _ _ _ _ _ _ _ _ _ _ _)
      | (with_reducible exact rafterref35_edit.mono _ _ _ _ _ _)
      | (with_reducible exact LeO.refl _)
      | (with_reducible exact LeO.none _)
      | (with_reducible refine LeO.ite ?_ ?_)
      | (with_reducible refine LeO.bind ?_ (fun _ => ?_))
      | exact ih0 _ _ _ _ _ _ _ _ _ _ _ _ _ _ _ _ _ _ _
      | exact ih1 _ _ _ _ _ _ _ _ _ _ _ _ _ _ _ _ _ _ _
      | exact ih2 _ _ _ _ _ _ _ _ _ _ _ _ _ _ _ _ _ _ _
      | exact ih3 _ _ _ _ _ _ _ _ _ _ _ _ _ _ _ _ _ _ _
      | exact ih4 _ _ _ _ _ _ _ _ _ _ _ _ _ _ _ _ _ _ _
      | exact ih5 _ _ _ _ _ _ _ _ _ _ _ _ _ _ _ _ _ _ _
      | exact ih6 _ _ _ _ _ _ _ _ _ _ _ _ _ _ _ _ _ _ _
      | exact ih7 _ _ _ _ _ _ _ _ _ _ _ _ _ _ _ _ _ _ _
      | exact ih8 _ _ _ _ _ _ _ _ _ _ _ _
      | exact ih9 _ _ _ _ _ _ _ _ _ _ _ _
      | exact rafterref35_edit.mono _ _ _ _ _ _
      | exact LeO.none _
      | refine LeO.ite ?_ ?_
      | refine LeO.bind ?_ (fun _ => ?_)
theorem rafterref35_Line.mono : ∀ a0 a1 a2 a3 a4 a5 a6 a7 a8 a9 k, LeO (rafterref35_Line.f k a0 a1 a2 a3 a4 a5 a6 a7 a8 a9) (rafterref35_Line.f (k + 1) a0 a1 a2 a3 a4 a5 a6 a7 a8 a9) := by
  intro a0 a1 a2 a3 a4 a5 a6 a7 a8 a9 k
  obtain ⟨ih0, ih1, ih2, ih3, ih4, ih5, ih6, ih7, ih8, ih9⟩ := rafterref35_Line.mono_l k
  unfold rafterref35_Line.f
  repeat' first
      | (with_reducible exact ih0 _ _ _ _ _ _ _ _ _ _ _ _ _ _ _ _ _ _ _)
      | (with_reducible exact ih1 _ _ _ _ _ _ _ _ _ _ _ _ _ _ _ _ _ _ _)
      | (with_reducible exact ih2 _ _ _ _ _ _ _ _ _ _ _ _ _ _ _ _ _ _ _)
      | (with_reducible exact ih3 _ _ _ _ _ _ _ _ _ _ _ _ _ _ _ _ _ _ _)
      | (with_reducible exact ih4 _ _ _ _ _ _ _ _ _ _ _ _ _ _ _ _ _ _ _)
      | (with_reducible exact ih5 _ _ _ _ _ _ _ _ _ _ _ _ _ _ _ _ _ _ _)
      | (with_reducible exact ih6 _ _ _ _ _ _ _ _ _ _ _ _ _ _ _ _ _ _ _)
      | (with_reducible exact ih7 _ _ _ _ _ _ _ _ _ _ _ _ _ _ _ _ _ _ _)
      | (with_reducible exact ih8 _ _ _ _ _ _ _ _ _ _ _ _)
      | (with_reducible exact ih9 _ _ _ _ _ _ _ _ _ _ _ _)
      | (with_reducible exact rafterref35_edit.mono _ _ _ _ _ _)
      | (with_reducible exact LeO.refl _)
      | (with_reducible exact LeO.none _)
      | (with_reducible refine LeO.ite ?_ ?_)
      | (with_reducible refine LeO.bind ?_ (fun _ => ?_))
      | exact ih0 _ _ _ _ _ _ _ _ _ _ _ _ _ _ _ _ _ _ _
      | exact ih1 _ _ _ _ _ _ _ _ _ _ _ _ _ _ _ _ _ _ _
      | exact ih2 _ _ _ _ _ _ _ _ _ _ _ _ _ _ _ _ _ _ _
      | exact ih3 _ _ _ _ _ _ _ _ _ _ _ _ _ _ _ _ _ _ _
      | exact ih4 _ _ _ _ _ _ _ _ _ _ _ _ _ _ _ _ _ _ _
      | exact ih5 _ _ _ _ _ _ _ _ _ _ _ _ _ _ _ _ _ _ _
      | exact ih6 _ _ _ _ _ _ _ _ _ _ _ _ _ _ _ _ _ _ _
      | exact ih7 _ _ _ _ _ _ _ _ _ _ _ _ _ _ _ _ _ _ _
      | exact ih8 _ _ _ _ _ _ _ _ _ _ _ _
      | exact ih9 _ _ _ _ _ _ _ _ _ _ _ _
      | exact rafterref35_edit.mono _ _ _ _ _ _
      | exact LeO.none _
      | refine LeO.ite ?_ ?_
      | refine LeO.bind ?_ (fun _ => ?_)
set_option maxHeartbeats 100000000 in
set_option maxRecDepth 100000 in
theorem rafterref35_Line.part21 {k : Nat}
  {a0_0 : Int}
  {a0_1 a0_2 : ByteArray}
  {a0_3 : Int}
  {a0_4 : ByteArray}
  {A0_5 : Option Addr}
  {c0_5 : Nat}
  {l0_5 : List ByteArray}
  {a0_6 : Int}
  {a0_7 a0_8 : ByteArray}
  {A0_9 : Option Addr}
  {c0_9 : Nat}
  {l0_9 r : List ByteArray}
  {w : World}
  {gb823 : Nat}
  (GW823 : Aside0 (w.heap.size ≤ gb823))
  (GE823 : Aside0 (w.heap.size ≤ gb823))
  {gb824 : Nat}
  (GW824 : Aside0 (w.heap.size ≤ gb824))
  (GE824 : Aside0 (w.heap.size ≤ gb824))
  (NB823_824 : Aside0 (gb823 ≠ gb824))
  (NB824_823 : Aside0 (gb824 ≠ gb823))
  {kj1 : Nat}
  (HJ1 : Aside0 (kj1 + 1 ≤ k))
  {kj39 : Nat}
  (HJ39 : Aside0 (kj39 + 1 ≤ kj1))
  {kj61 : Nat}
  (HJ61 : Aside0 (kj61 + 1 ≤ kj39))
  {kj72 : Nat}
  (HJ72 : Aside0 (kj72 + 1 ≤ kj61))
  {kj93 : Nat}
  (HJ93 : Aside0 (kj93 + 1 ≤ kj72))
  {wc : World}
  {u6 u7 u8 u9 u10 u11 u12 u13 u14 u15 u16 u17 u18 u19 u20 u21 u22 u23 u24 u25 u26 u27 u28 u29 u30 u31 u32 u33 u34 u35 u36 u37 u38 u39 u40 u41 u42 u43 u44 u45 u46 u47 u48 u49 u50 u51 u52 u53 u54 u55 u56 u57 u58 u59 u60 u61 u62 u63 u64 u65 u66 u67 u68 u69 u70 u71 u72 u73 u74 u75 u76 u77 u78 u79 u80 u81 u82 u83 u84 u85 u86 u87 u88 u89 u90 u91 u92 u93 u94 u95 u96 u97 u98 u99 u100 u101 u102 u103 u104 u105 u106 u107 u108 u109 u110 u111 u112 u113 u114 u115 u116 u117 u119 u120 u121 u122 u126 u127 u128 u129 u130 u131 u132 u133 u134 u135 u136 u137 u138 u139 u140 u141 u142 u143 u144 u145 u146 u147 u148 u149 u150 u151 u152 u153 u154 u155 u156 u157 u158 u159 u160 u161 u162 u163 u164 u165 u166 u167 u168 u169 u170 u171 u172 u173 u174 u175 u176 u177 u178 u179 u180 u181 u182 : Value}
  (BK823 : Aside0 (wc.heap[gb823]? = some (Obj.cells #[Value.int IntKind.i64 a0_0, Value.string a0_1, Value.string a0_2, Value.int IntKind.i64 a0_3, Value.string a0_4, Value.slice A0_5 l0_5.length c0_5, Value.int IntKind.i64 a0_6, Value.string a0_7, Value.string a0_8, Value.slice A0_9 l0_9.length c0_9] 34)))
  (BK824 : Aside0 (wc.heap[gb824]? = some (Obj.cells #[Value.int IntKind.i64 a0_3, Value.string a0_4, Value.slice A0_5 l0_5.length c0_5, Value.int IntKind.i64 a0_6, Value.string a0_7, Value.string a0_8, Value.slice A0_9 l0_9.length c0_9] 32)))
  (HB : Aside0 (Below w.heap.size w wc))
  {kj107 : Nat}
  (HJ107 : Aside0 (kj107 + 1 ≤ kj93))
  (c120b0 : (a0_4.toList == []) = true)
  (c120b1 : (a0_4.toList != []) = false)
  (HC121 : Aside0 ((if a0_0 = 1 then j6 kj107 a0_1 (a0_3 == 5) a0_0 a0_1 a0_2 a0_3 a0_4 l0_5 a0_6 a0_7 a0_8 l0_9 a0_3 a0_4 l0_5 a0_6 a0_7 a0_8 l0_9 else j6 kj107 a0_1 false a0_0 a0_1 a0_2 a0_3 a0_4 l0_5 a0_6 a0_7 a0_8 l0_9 a0_3 a0_4 l0_5 a0_6 a0_7 a0_8 l0_9) = some r))
  (hcz123_0 : wc.cell? { block := gb824, off := 0 } = some (Value.int IntKind.i64 a0_3))
  (hcz123_1 : wc.cell? { block := gb824, off := 1 } = some (Value.string a0_4))
  (hcz123_2 : wc.cell? { block := gb824, off := 2 } = some (Value.slice A0_5 l0_5.length c0_5))
  (hcz123_3 : wc.cell? { block := gb824, off := 3 } = some (Value.int IntKind.i64 a0_6))
  (hcz123_4 : wc.cell? { block := gb824, off := 4 } = some (Value.string a0_7))
  (hcz123_5 : wc.cell? { block := gb824, off := 5 } = some (Value.string a0_8))
  (hcz123_6 : wc.cell? { block := gb824, off := 6 } = some (Value.slice A0_9 l0_9.length c0_9))
  (hfz123_0 : wc.frozen? { block := gb824, off := 0 } = false)
  (hfz123_1 : wc.frozen? { block := gb824, off := 1 } = false)
  (hfz123_2 : wc.frozen? { block := gb824, off := 2 } = false)
  (hfz123_3 : wc.frozen? { block := gb824, off := 3 } = false)
  (hfz123_4 : wc.frozen? { block := gb824, off := 4 } = false)
  (hfz123_5 : wc.frozen? { block := gb824, off := 5 } = false)
  (hfz123_6 : wc.frozen? { block := gb824, off := 6 } = false)
  {K_x1 : Act → World → Prop}
  {Qp_x : Exit → Act → World → Prop}
  (hQ_ : Qp_x = bodyPost Tryd.prog Tryd.f17 fun e w' => ∃ v0_, e = Ending.returned v0_ ∧ Kd.string.R 9 w' w.heap.size (fun x => True) v0_ r ∧ Below w.heap.size w w')
  (a_x1 : ∀ (a : Act) (w : World), Code.wp Tryd.prog (cr (cr (cr (cr (cr (cr (cr (cr (cr (cr (cr (cr (cr (cp Tryd.f17)))))))))))))) Qp_x a w → K_x1 a w)
  {K_x : Act → World → Prop}
  (a_x : ∀ (a : Act) (w : World), Code.wp Tryd.prog (cr (cl (cr (cr (cr (cr (cr (cr (cr (cr (cr (cr (cr (cr (cp Tryd.f17))))))))))))))) (Exit.then K_x1 Qp_x) a w → K_x a w) :
  Code.wp Tryd.prog (cl (cl (cr (cr (cr (cr (cr (cr (cr (cr (cr (cr (cr (cr (cp Tryd.f17))))))))))))))) (Exit.then K_x (Exit.then K_x1 Qp_x)) { tmps := List.toArray ((Value.agg #[Value.int IntKind.i64 a0_0, Value.string a0_1, Value.string a0_2, Value.int IntKind.i64 a0_3, Value.string a0_4, Value.slice A0_5 l0_5.length c0_5, Value.int IntKind.i64 a0_6, Value.string a0_7, Value.string a0_8, Value.slice A0_9 l0_9.length c0_9]) :: (Value.pointer (some { block := gb823, off := 0 })) :: (Value.slice none 0 0) :: (Value.pointer (some { block := gb824, off := 0 })) :: (Value.string a0_1) :: undef :: u6 :: u7 :: u8 :: u9 :: u10 :: u11 :: u12 :: u13 :: u14 :: u15 :: u16 :: u17 :: u18 :: u19 :: u20 :: u21 :: u22 :: u23 :: u24 :: u25 :: u26 :: u27 :: u28 :: u29 :: u30 :: u31 :: u32 :: u33 :: u34 :: u35 :: u36 :: u37 :: u38 :: u39 :: u40 :: u41 :: u42 :: u43 :: u44 :: u45 :: u46 :: u47 :: u48 :: u49 :: u50 :: u51 :: u52 :: u53 :: u54 :: u55 :: u56 :: u57 :: u58 :: u59 :: u60 :: u61 :: u62 :: u63 :: u64 :: u65 :: u66 :: u67 :: u68 :: u69 :: u70 :: u71 :: u72 :: u73 :: u74 :: u75 :: u76 :: u77 :: u78 :: u79 :: u80 :: u81 :: u82 :: u83 :: u84 :: u85 :: u86 :: u87 :: u88 :: u89 :: u90 :: u91 :: u92 :: u93 :: u94 :: u95 :: u96 :: u97 :: u98 :: u99 :: u100 :: u101 :: u102 :: u103 :: u104 :: u105 :: u106 :: u107 :: u108 :: u109 :: u110 :: u111 :: u112 :: u113 :: u114 :: u115 :: u116 :: u117 :: (Value.bool false) :: u119 :: u120 :: u121 :: u122 :: (Value.pointer (some { block := gb824, off := 1 })) :: (Value.string a0_4) :: (Value.bool false) :: u126 :: u127 :: u128 :: u129 :: u130 :: u131 :: u132 :: u133 :: u134 :: u135 :: u136 :: u137 :: u138 :: u139 :: u140 :: u141 :: u142 :: u143 :: u144 :: u145 :: u146 :: u147 :: u148 :: u149 :: u150 :: u151 :: u152 :: u153 :: u154 :: u155 :: u156 :: u157 :: u158 :: u159 :: u160 :: u161 :: u162 :: u163 :: u164 :: u165 :: u166 :: u167 :: u168 :: u169 :: u170 :: u171 :: u172 :: u173 :: u174 :: u175 :: u176 :: u177 :: u178 :: u179 :: u180 :: u181 :: u182 :: []), defers := [] } wc := by
  dsimp only [cp, cl, cr, Tryd.f17] at a_x1 a_x ⊢
  subst hQ_
  go_cut [133] (fun v133 wc => ∃ (kq : Nat) (x133_120 : Bool), v133 = .bool x133_120 ∧ Aside0 (rafterref35_Line.j6 kq a0_1 x133_120 a0_0 a0_1 a0_2 a0_3 a0_4 l0_5 a0_6 a0_7 a0_8 l0_9 a0_3 a0_4 l0_5 a0_6 a0_7 a0_8 l0_9 = some r) ∧ Aside0 (kq ≤ kj107) ∧ Aside0 (wc.heap[gb823]? = some (.cells #[.int .i64 a0_0, .string a0_1, .string a0_2, .int .i64 a0_3, .string a0_4, (.slice A0_5 l0_5.length c0_5), .int .i64 a0_6, .string a0_7, .string a0_8, (.slice A0_9 l0_9.length c0_9)] 34 (0, 0))) ∧ Aside0 (wc.heap[gb824]? = some (.cells #[.int .i64 a0_3, .string a0_4, (.slice A0_5 l0_5.length c0_5), .int .i64 a0_6, .string a0_7, .string a0_8, (.slice A0_9 l0_9.length c0_9)] 32 (0, 0))) ∧ Aside0 (Below w.heap.size w wc))
  case first =>
   have H := HC121.out
   clear HC121
   by_cases c124 : a0_0 = 1
   ·rw [if_pos c124] at H
    have c124b0 : (a0_0 == 1) = true := beq_iff_eq.mpr c124
    have c124b1 : (a0_0 != 1) = false := bne_eq_false_iff_eq.mpr c124
    clear c124
    (first | rw [c124b0] | (simp only [i64_w, i32_w]; rw [c124b0]) | rw [c124b1] | rw [c124b2] | skip)
    have H' := Aside0.mk H
    clear H
    have hnb125 := NB823_824.out
    have hnc125 := NB824_823.out
    obtain ⟨hcz126_0, hcz126_1, hcz126_2, hcz126_3, hcz126_4, hcz126_5, hcz126_6, hcz126_7, hcz126_8, hcz126_9, hfz126_0, hfz126_1, hfz126_2, hfz126_3, hfz126_4, hfz126_5, hfz126_6, hfz126_7, hfz126_8, hfz126_9⟩ := cells10 BK823.out
    obtain ⟨hcz127_0, hcz127_1, hcz127_2, hcz127_3, hcz127_4, hcz127_5, hcz127_6, hfz127_0, hfz127_1, hfz127_2, hfz127_3, hfz127_4, hfz127_5, hfz127_6⟩ := cells7 BK824.out
    go_wp2
    go_meet
    case rel => exact ⟨_, ((a0_3 == 5)), (by first | rfl | (simp; done) | (simp [*]; done)), H', ⟨by have := HJ1.out; have := HJ39.out; have := HJ61.out; have := HJ72.out; have := HJ93.out; have := HJ107.out; first | omega | exact Nat.le_refl _⟩, ⟨by (with_reducible repeat (first | refine blk_drewN ?_ _ | refine blk_drew ?_ | refine blk_alloc ?_ _)); exact BK823.out⟩, ⟨by (with_reducible repeat (first | refine blk_drewN ?_ _ | refine blk_drew ?_ | refine blk_alloc ?_ _)); exact BK824.out⟩, ⟨by repeat (first | (with_reducible first | exact HB.out | apply below_alloc | apply pw_below_drewN | apply below_drew1 | refine below_set ?_ GE823.out | refine below_set ?_ GE824.out) | exact HB.out)⟩⟩
   ·rw [if_neg c124] at H
    have c124b0 : (a0_0 == 1) = false := beq_eq_false_iff_ne.mpr c124
    have c124b1 : (a0_0 != 1) = true := bne_iff_ne.mpr c124
    (first | rw [c124b0] | (simp only [i64_w, i32_w]; rw [c124b0]) | rw [c124b1] | rw [c124b2] | skip)
    have H' := Aside0.mk H
    clear H
    have hnb128 := NB823_824.out
    have hnc128 := NB824_823.out
    obtain ⟨hcz129_0, hcz129_1, hcz129_2, hcz129_3, hcz129_4, hcz129_5, hcz129_6, hcz129_7, hcz129_8, hcz129_9, hfz129_0, hfz129_1, hfz129_2, hfz129_3, hfz129_4, hfz129_5, hfz129_6, hfz129_7, hfz129_8, hfz129_9⟩ := cells10 BK823.out
    go_wp2
    go_meet
    case rel => exact ⟨_, (false), (by first | rfl | (simp; done) | (simp [*]; done)), H', ⟨by have := HJ1.out; have := HJ39.out; have := HJ61.out; have := HJ72.out; have := HJ93.out; have := HJ107.out; first | omega | exact Nat.le_refl _⟩, ⟨by (with_reducible repeat (first | refine blk_drewN ?_ _ | refine blk_drew ?_ | refine blk_alloc ?_ _)); exact BK823.out⟩, ⟨by (with_reducible repeat (first | refine blk_drewN ?_ _ | refine blk_drew ?_ | refine blk_alloc ?_ _)); exact BK824.out⟩, ⟨by repeat (first | (with_reducible first | exact HB.out | apply below_alloc | apply pw_below_drewN | apply below_drew1 | refine below_set ?_ GE823.out | refine below_set ?_ GE824.out) | exact HB.out)⟩⟩
  case rest =>
   clear HC121
   try clear c115
   try clear c120
   try clear c120b0
   try clear c120b1
   try clear hcz123_0 hcz123_1 hcz123_2 hcz123_3 hcz123_4 hcz123_5 hcz123_6 hfz123_0 hfz123_1 hfz123_2 hfz123_3 hfz123_4 hfz123_5 hfz123_6
   try clear hcz7_0 hcz7_1 hcz7_2 hcz7_3 hcz7_4 hcz7_5 hcz7_6 hfz7_0 hfz7_1 hfz7_2 hfz7_3 hfz7_4 hfz7_5 hfz7_6
   try clear hcz8_0 hcz8_1 hcz8_2 hcz8_3 hcz8_4 hcz8_5 hcz8_6 hcz8_7 hcz8_8 hcz8_9 hfz8_0 hfz8_1 hfz8_2 hfz8_3 hfz8_4 hfz8_5 hfz8_6 hfz8_7 hfz8_8 hfz8_9
   try clear hcz96_0 hcz96_1 hcz96_2 hcz96_3 hcz96_4 hcz96_5 hcz96_6 hfz96_0 hfz96_1 hfz96_2 hfz96_3 hfz96_4 hfz96_5 hfz96_6
   try clear hfz42_0 hfz42_1 hfz42_2 hfz42_3 hfz42_4 hfz42_5 hfz42_6 hfz42_7 hfz42_8 hfz42_9
   try clear hfz4_0 hfz4_1 hfz4_2 hfz4_3 hfz4_4 hfz4_5 hfz4_6 hfz4_7 hfz4_8 hfz4_9
   obtain ⟨kq, x133_120, rfl, HA, HJ120, BK823, BK824, HB⟩ := hcut
   cases kq with
   | zero => exact absurd HA.out (by simp [rafterref35_Line.j6])
   | succ kj120 =>
    have H := HA.out
    clear HA
    simp only [rafterref35_Line.j6] at H
    by_cases c130 : x133_120 = true
    ·subst c130
     have H1 : (some (([(⟨#[114, 101, 118, 101, 114, 116]⟩ : ByteArray), a0_1] : List ByteArray))) = some r := by rw [if_pos rfl] at H; exact H
     clear H
     have H := H1
     clear H1
     obtain ⟨y848, hy848⟩ : ∃ y_ : List ByteArray, y_ = (([(⟨#[114, 101, 118, 101, 114, 116]⟩ : ByteArray), a0_1] : List ByteArray)) := ⟨_, rfl⟩
     replace H : (some y848) = some r := by first | (rw [hy848]; with_reducible exact H) | (have H2_ := (Option.bind_some _ _).symm.trans H; rw [hy848]; with_reducible exact H2_) | (have H2_ := (Option.bind_some _ _).symm.trans H; with_reducible exact H2_) | with_reducible exact H | (rw [hy848]; exact H) | exact H
     have Ny848 := Aside0.mk hy848
     clear hy848
     obtain rfl := Option.some.inj H
     go_wp2_with (first | ((with_reducible refine gate_dst (N := 135) rfl ?_); (try (refine gate_guard (by rfl) ?_; dsimp only)); refine Kd.R_lit Kd.string _ 9 ?hg (N := 135) ?hd (xs := ([(⟨#[114, 101, 118, 101, 114, 116]⟩ : ByteArray), a0_1] : List ByteArray)) (inner := [.string (⟨#[114, 101, 118, 101, 114, 116]⟩ : ByteArray), .string a0_1]) (ok := fun _ => True) (okp := fun _ => True) ?hr ?hp (fun _ hk => hk) trivial (Below.refl _ _) (Nat.le_refl _) (by simp) ?_; (case hd => rfl); (case hg => rfl); (case hr => first | (go_simp; done) | (go_simp; rfl)); (case hp => exact (Reps.one (show Kd.M Kd.string _ _ _ (⟨#[114, 101, 118, 101, 114, 116]⟩ : ByteArray) [.string (⟨#[114, 101, 118, 101, 114, 116]⟩ : ByteArray)] from rfl) (Reps.one (show Kd.M Kd.string _ _ _ a0_1 [.string a0_1] from rfl) (Reps.none _ _)))); intro v849 w131 ho132 hb hg_ hnew_; clear hg_ hnew_; (first | rw [← Ny848.out] at ho132 | (simp only [Int.reduceToNat] at ho132; rw [← Ny848.out] at ho132)); have n0_ := Aside0.mk (Kd.R_lower ho132 (below_size (by repeat (first | (with_reducible first | exact HB.out | apply below_alloc | apply pw_below_drewN | apply below_drew1 | refine below_set ?_ GE823.out | refine below_set ?_ GE824.out) | exact HB.out)))); have n1_ := Aside0.mk (blk_below (g := gb823) (o := .cells #[.int .i64 a0_0, .string a0_1, .string a0_2, .int .i64 a0_3, .string a0_4, .slice A0_5 l0_5.length c0_5, .int .i64 a0_6, .string a0_7, .string a0_8, .slice A0_9 l0_9.length c0_9] 34 (0, 0)) (by (with_reducible repeat (first | refine blk_drewN ?_ _ | refine blk_drew ?_ | refine blk_alloc ?_ _)); exact BK823.out) hb); have n2_ := Aside0.mk (blk_below (g := gb824) (o := .cells #[.int .i64 a0_3, .string a0_4, .slice A0_5 l0_5.length c0_5, .int .i64 a0_6, .string a0_7, .string a0_8, .slice A0_9 l0_9.length c0_9] 32 (0, 0)) (by (with_reducible repeat (first | refine blk_drewN ?_ _ | refine blk_drew ?_ | refine blk_alloc ?_ _)); exact BK824.out) hb); have n3_ := Aside0.mk (below_step (by repeat (first | (with_reducible first | exact HB.out | apply below_alloc | apply pw_below_drewN | apply below_drew1 | refine below_set ?_ GE823.out | refine below_set ?_ GE824.out) | exact HB.out)) hb); clear BK823; clear BK824; clear HB; have HO850 := n0_; have BK823 := n1_; have BK824 := n2_; have HB := n3_; clear n0_ n1_ n2_ n3_; clear hb ho132))
     go_ret
     exact ⟨_, by first | rfl | (simp [errW_none, errW_some] <;> rfl) | (simp [*, errW_none, errW_some] <;> rfl), by (with_reducible repeat (first | apply Kd.R_alloc | apply Kd.R_drewN | apply Kd.R_drew)); exact HO850.out, by repeat (first | (with_reducible first | exact HB.out | apply below_alloc | apply pw_below_drewN | apply below_drew1 | refine below_set ?_ GE823.out | refine below_set ?_ GE824.out) | exact HB.out)⟩
    ·replace c130 := Bool.eq_false_iff.mpr c130
     subst c130
     have H1 : (if a0_0 = 1 then (rafterref35_Line.j7 kj120 a0_1 (a0_3 == 6) a0_0 a0_1 a0_2 a0_3 a0_4 l0_5 a0_6 a0_7 a0_8 l0_9 a0_3 a0_4 l0_5 a0_6 a0_7 a0_8 l0_9) else (rafterref35_Line.j7 kj120 a0_1 false a0_0 a0_1 a0_2 a0_3 a0_4 l0_5 a0_6 a0_7 a0_8 l0_9 a0_3 a0_4 l0_5 a0_6 a0_7 a0_8 l0_9)) = some r := by rw [if_neg (show ¬ (false = true) by decide)] at H; exact H
     clear H
     have H := H1
     clear H1
     have HC133 := Aside0.mk H
     clear H
     go_upto_region 23 with (fail)
     go_cut [143] (fun v143 wc => ∃ (kq : Nat) (x143_132 : Bool), v143 = .bool x143_132 ∧ Aside0 (rafterref35_Line.j7 kq a0_1 x143_132 a0_0 a0_1 a0_2 a0_3 a0_4 l0_5 a0_6 a0_7 a0_8 l0_9 a0_3 a0_4 l0_5 a0_6 a0_7 a0_8 l0_9 = some r) ∧ Aside0 (kq ≤ kj120) ∧ Aside0 (wc.heap[gb823]? = some (.cells #[.int .i64 a0_0, .string a0_1, .string a0_2, .int .i64 a0_3, .string a0_4, (.slice A0_5 l0_5.length c0_5), .int .i64 a0_6, .string a0_7, .string a0_8, (.slice A0_9 l0_9.length c0_9)] 34 (0, 0))) ∧ Aside0 (wc.heap[gb824]? = some (.cells #[.int .i64 a0_3, .string a0_4, (.slice A0_5 l0_5.length c0_5), .int .i64 a0_6, .string a0_7, .string a0_8, (.slice A0_9 l0_9.length c0_9)] 32 (0, 0))) ∧ Aside0 (Below w.heap.size w wc))
     case first =>
      have H := HC133.out
      clear HC133
      by_cases c134 : a0_0 = 1
      ·rw [if_pos c134] at H
       have c134b0 : (a0_0 == 1) = true := beq_iff_eq.mpr c134
       have c134b1 : (a0_0 != 1) = false := bne_eq_false_iff_eq.mpr c134
       clear c134
       (first | rw [c134b0] | (simp only [i64_w, i32_w]; rw [c134b0]) | rw [c134b1] | rw [c134b2] | skip)
       have H' := Aside0.mk H
       clear H
       have hnb135 := NB823_824.out
       have hnc135 := NB824_823.out
       obtain ⟨hcz136_0, hcz136_1, hcz136_2, hcz136_3, hcz136_4, hcz136_5, hcz136_6, hcz136_7, hcz136_8, hcz136_9, hfz136_0, hfz136_1, hfz136_2, hfz136_3, hfz136_4, hfz136_5, hfz136_6, hfz136_7, hfz136_8, hfz136_9⟩ := cells10 BK823.out
       obtain ⟨hcz137_0, hcz137_1, hcz137_2, hcz137_3, hcz137_4, hcz137_5, hcz137_6, hfz137_0, hfz137_1, hfz137_2, hfz137_3, hfz137_4, hfz137_5, hfz137_6⟩ := cells7 BK824.out
       go_wp2
       go_meet
       case rel => exact ⟨_, ((a0_3 == 6)), (by first | rfl | (simp; done) | (simp [*]; done)), H', ⟨by have := HJ1.out; have := HJ39.out; have := HJ61.out; have := HJ72.out; have := HJ93.out; have := HJ107.out; have := HJ120.out; first | omega | exact Nat.le_refl _⟩, ⟨by (with_reducible repeat (first | refine blk_drewN ?_ _ | refine blk_drew ?_ | refine blk_alloc ?_ _)); exact BK823.out⟩, ⟨by (with_reducible repeat (first | refine blk_drewN ?_ _ | refine blk_drew ?_ | refine blk_alloc ?_ _)); exact BK824.out⟩, ⟨by repeat (first | (with_reducible first | exact HB.out | apply below_alloc | apply pw_below_drewN | apply below_drew1 | refine below_set ?_ GE823.out | refine below_set ?_ GE824.out) | exact HB.out)⟩⟩
      ·rw [if_neg c134] at H
       have c134b0 : (a0_0 == 1) = false := beq_eq_false_iff_ne.mpr c134
       have c134b1 : (a0_0 != 1) = true := bne_iff_ne.mpr c134
       (first | rw [c134b0] | (simp only [i64_w, i32_w]; rw [c134b0]) | rw [c134b1] | rw [c134b2] | skip)
       have H' := Aside0.mk H
       clear H
       have hnb138 := NB823_824.out
       have hnc138 := NB824_823.out
       obtain ⟨hcz139_0, hcz139_1, hcz139_2, hcz139_3, hcz139_4, hcz139_5, hcz139_6, hcz139_7, hcz139_8, hcz139_9, hfz139_0, hfz139_1, hfz139_2, hfz139_3, hfz139_4, hfz139_5, hfz139_6, hfz139_7, hfz139_8, hfz139_9⟩ := cells10 BK823.out
       go_wp2
       go_meet
       case rel => exact ⟨_, (false), (by first | rfl | (simp; done) | (simp [*]; done)), H', ⟨by have := HJ1.out; have := HJ39.out; have := HJ61.out; have := HJ72.out; have := HJ93.out; have := HJ107.out; have := HJ120.out; first | omega | exact Nat.le_refl _⟩, ⟨by (with_reducible repeat (first | refine blk_drewN ?_ _ | refine blk_drew ?_ | refine blk_alloc ?_ _)); exact BK823.out⟩, ⟨by (with_reducible repeat (first | refine blk_drewN ?_ _ | refine blk_drew ?_ | refine blk_alloc ?_ _)); exact BK824.out⟩, ⟨by repeat (first | (with_reducible first | exact HB.out | apply below_alloc | apply pw_below_drewN | apply below_drew1 | refine below_set ?_ GE823.out | refine below_set ?_ GE824.out) | exact HB.out)⟩⟩
     case rest =>
      clear HC133
      try clear c130
      try clear hcz7_0 hcz7_1 hcz7_2 hcz7_3 hcz7_4 hcz7_5 hcz7_6 hfz7_0 hfz7_1 hfz7_2 hfz7_3 hfz7_4 hfz7_5 hfz7_6
      try clear hcz8_0 hcz8_1 hcz8_2 hcz8_3 hcz8_4 hcz8_5 hcz8_6 hcz8_7 hcz8_8 hcz8_9 hfz8_0 hfz8_1 hfz8_2 hfz8_3 hfz8_4 hfz8_5 hfz8_6 hfz8_7 hfz8_8 hfz8_9
      try clear hcz96_0 hcz96_1 hcz96_2 hcz96_3 hcz96_4 hcz96_5 hcz96_6 hfz96_0 hfz96_1 hfz96_2 hfz96_3 hfz96_4 hfz96_5 hfz96_6
      try clear hfz123_0 hfz123_1 hfz123_2 hfz123_3 hfz123_4 hfz123_5 hfz123_6
      try clear hfz42_0 hfz42_1 hfz42_2 hfz42_3 hfz42_4 hfz42_5 hfz42_6 hfz42_7 hfz42_8 hfz42_9
      try clear hfz4_0 hfz4_1 hfz4_2 hfz4_3 hfz4_4 hfz4_5 hfz4_6 hfz4_7 hfz4_8 hfz4_9
      obtain ⟨kq, x143_132, rfl, HA, HJ132, BK823, BK824, HB⟩ := hcut
      cases kq with
      | zero => exact absurd HA.out (by simp [rafterref35_Line.j7])
      | succ kj132 =>
       have H := HA.out
       clear HA
       simp only [rafterref35_Line.j7] at H
       by_cases c140 : x143_132 = true
       ·subst c140
        have H1 : (some (([(⟨#[114, 101, 115, 111, 108, 118, 101]⟩ : ByteArray), a0_1] : List ByteArray))) = some r := by rw [if_pos rfl] at H; exact H
        clear H
        have H := H1
        clear H1
        obtain ⟨y851, hy851⟩ : ∃ y_ : List ByteArray, y_ = (([(⟨#[114, 101, 115, 111, 108, 118, 101]⟩ : ByteArray), a0_1] : List ByteArray)) := ⟨_, rfl⟩
        replace H : (some y851) = some r := by first | (rw [hy851]; with_reducible exact H) | (have H2_ := (Option.bind_some _ _).symm.trans H; rw [hy851]; with_reducible exact H2_) | (have H2_ := (Option.bind_some _ _).symm.trans H; with_reducible exact H2_) | with_reducible exact H | (rw [hy851]; exact H) | exact H
        have Ny851 := Aside0.mk hy851
        clear hy851
        obtain rfl := Option.some.inj H
        go_wp2_with (first | ((with_reducible refine gate_dst (N := 145) rfl ?_); (try (refine gate_guard (by rfl) ?_; dsimp only)); refine Kd.R_lit Kd.string _ 9 ?hg (N := 145) ?hd (xs := ([(⟨#[114, 101, 115, 111, 108, 118, 101]⟩ : ByteArray), a0_1] : List ByteArray)) (inner := [.string (⟨#[114, 101, 115, 111, 108, 118, 101]⟩ : ByteArray), .string a0_1]) (ok := fun _ => True) (okp := fun _ => True) ?hr ?hp (fun _ hk => hk) trivial (Below.refl _ _) (Nat.le_refl _) (by simp) ?_; (case hd => rfl); (case hg => rfl); (case hr => first | (go_simp; done) | (go_simp; rfl)); (case hp => exact (Reps.one (show Kd.M Kd.string _ _ _ (⟨#[114, 101, 115, 111, 108, 118, 101]⟩ : ByteArray) [.string (⟨#[114, 101, 115, 111, 108, 118, 101]⟩ : ByteArray)] from rfl) (Reps.one (show Kd.M Kd.string _ _ _ a0_1 [.string a0_1] from rfl) (Reps.none _ _)))); intro v852 w141 ho142 hb hg_ hnew_; clear hg_ hnew_; (first | rw [← Ny851.out] at ho142 | (simp only [Int.reduceToNat] at ho142; rw [← Ny851.out] at ho142)); have n0_ := Aside0.mk (Kd.R_lower ho142 (below_size (by repeat (first | (with_reducible first | exact HB.out | apply below_alloc | apply pw_below_drewN | apply below_drew1 | refine below_set ?_ GE823.out | refine below_set ?_ GE824.out) | exact HB.out)))); have n1_ := Aside0.mk (blk_below (g := gb823) (o := .cells #[.int .i64 a0_0, .string a0_1, .string a0_2, .int .i64 a0_3, .string a0_4, .slice A0_5 l0_5.length c0_5, .int .i64 a0_6, .string a0_7, .string a0_8, .slice A0_9 l0_9.length c0_9] 34 (0, 0)) (by (with_reducible repeat (first | refine blk_drewN ?_ _ | refine blk_drew ?_ | refine blk_alloc ?_ _)); exact BK823.out) hb); have n2_ := Aside0.mk (blk_below (g := gb824) (o := .cells #[.int .i64 a0_3, .string a0_4, .slice A0_5 l0_5.length c0_5, .int .i64 a0_6, .string a0_7, .string a0_8, .slice A0_9 l0_9.length c0_9] 32 (0, 0)) (by (with_reducible repeat (first | refine blk_drewN ?_ _ | refine blk_drew ?_ | refine blk_alloc ?_ _)); exact BK824.out) hb); have n3_ := Aside0.mk (below_step (by repeat (first | (with_reducible first | exact HB.out | apply below_alloc | apply pw_below_drewN | apply below_drew1 | refine below_set ?_ GE823.out | refine below_set ?_ GE824.out) | exact HB.out)) hb); clear BK823; clear BK824; clear HB; have HO853 := n0_; have BK823 := n1_; have BK824 := n2_; have HB := n3_; clear n0_ n1_ n2_ n3_; clear hb ho142))
        go_ret
        exact ⟨_, by first | rfl | (simp [errW_none, errW_some] <;> rfl) | (simp [*, errW_none, errW_some] <;> rfl), by (with_reducible repeat (first | apply Kd.R_alloc | apply Kd.R_drewN | apply Kd.R_drew)); exact HO853.out, by repeat (first | (with_reducible first | exact HB.out | apply below_alloc | apply pw_below_drewN | apply below_drew1 | refine below_set ?_ GE823.out | refine below_set ?_ GE824.out) | exact HB.out)⟩
       ·replace c140 := Bool.eq_false_iff.mpr c140
        subst c140
        have H1 : (if a0_0 = 1 then (rafterref35_Line.j8 kj132 a0_1 true a0_0 a0_1 a0_2 a0_3 a0_4 l0_5 a0_6 a0_7 a0_8 l0_9) else (if a0_3 = 0 then (if a0_0 < 0 then (rafterref35_Line.j8 kj132 a0_1 true a0_0 a0_1 a0_2 a0_3 a0_4 l0_5 a0_6 a0_7 a0_8 l0_9) else (rafterref35_Line.j8 kj132 a0_1 (decide (a0_0 > 7)) a0_0 a0_1 a0_2 a0_3 a0_4 l0_5 a0_6 a0_7 a0_8 l0_9)) else (rafterref35_Line.j8 kj132 a0_1 true a0_0 a0_1 a0_2 a0_3 a0_4 l0_5 a0_6 a0_7 a0_8 l0_9))) = some r := by rw [if_neg (show ¬ (false = true) by decide)] at H; exact H
        clear H
        have H := H1
        clear H1
        have HC143 := Aside0.mk H
        clear H
        go_upto_region 25 with (fail)
        go_cut [163] (fun v163 wc => ∃ (kq : Nat) (x163_142 : Bool), v163 = .bool x163_142 ∧ Aside0 (rafterref35_Line.j8 kq a0_1 x163_142 a0_0 a0_1 a0_2 a0_3 a0_4 l0_5 a0_6 a0_7 a0_8 l0_9 = some r) ∧ Aside0 (kq ≤ kj132) ∧ Aside0 (wc.heap[gb823]? = some (.cells #[.int .i64 a0_0, .string a0_1, .string a0_2, .int .i64 a0_3, .string a0_4, (.slice A0_5 l0_5.length c0_5), .int .i64 a0_6, .string a0_7, .string a0_8, (.slice A0_9 l0_9.length c0_9)] 34 (0, 0))) ∧ Aside0 (wc.heap[gb824]? = some (.cells #[.int .i64 a0_3, .string a0_4, (.slice A0_5 l0_5.length c0_5), .int .i64 a0_6, .string a0_7, .string a0_8, (.slice A0_9 l0_9.length c0_9)] 32 (0, 0))) ∧ Aside0 (Below w.heap.size w wc))
        case first =>
         have H := HC143.out
         clear HC143
         by_cases c144 : a0_0 = 1
         ·rw [if_pos c144] at H
          have c144b0 : (a0_0 == 1) = true := beq_iff_eq.mpr c144
          have c144b1 : (a0_0 != 1) = false := bne_eq_false_iff_eq.mpr c144
          clear c144
          (first | rw [c144b0] | (simp only [i64_w, i32_w]; rw [c144b0]) | rw [c144b1] | rw [c144b2] | skip)
          have H' := Aside0.mk H
          clear H
          have hnb145 := NB823_824.out
          have hnc145 := NB824_823.out
          obtain ⟨hcz146_0, hcz146_1, hcz146_2, hcz146_3, hcz146_4, hcz146_5, hcz146_6, hcz146_7, hcz146_8, hcz146_9, hfz146_0, hfz146_1, hfz146_2, hfz146_3, hfz146_4, hfz146_5, hfz146_6, hfz146_7, hfz146_8, hfz146_9⟩ := cells10 BK823.out
          go_wp2
          go_meet
          case rel => exact ⟨_, (true), (by first | rfl | (simp; done) | (simp [*]; done)), H', ⟨by have := HJ1.out; have := HJ39.out; have := HJ61.out; have := HJ72.out; have := HJ93.out; have := HJ107.out; have := HJ120.out; have := HJ132.out; first | omega | exact Nat.le_refl _⟩, ⟨by (with_reducible repeat (first | refine blk_drewN ?_ _ | refine blk_drew ?_ | refine blk_alloc ?_ _)); exact BK823.out⟩, ⟨by (with_reducible repeat (first | refine blk_drewN ?_ _ | refine blk_drew ?_ | refine blk_alloc ?_ _)); exact BK824.out⟩, ⟨by repeat (first | (with_reducible first | exact HB.out | apply below_alloc | apply pw_below_drewN | apply below_drew1 | refine below_set ?_ GE823.out | refine below_set ?_ GE824.out) | exact HB.out)⟩⟩
         ·rw [if_neg c144] at H
          have c144b0 : (a0_0 == 1) = false := beq_eq_false_iff_ne.mpr c144
          have c144b1 : (a0_0 != 1) = true := bne_iff_ne.mpr c144
          (first | rw [c144b0] | (simp only [i64_w, i32_w]; rw [c144b0]) | rw [c144b1] | rw [c144b2] | skip)
          by_cases c147 : a0_3 = 0
          ·rw [if_pos c147] at H
           have c147b0 : (a0_3 == 0) = true := beq_iff_eq.mpr c147
           have c147b1 : (a0_3 != 0) = false := bne_eq_false_iff_eq.mpr c147
           clear c147
           by_cases c148 : a0_0 < 0
           ·rw [if_pos c148] at H
            have c148b0 : decide (a0_0 < 0) = true := decide_eq_true c148
            clear c148
            have H' := Aside0.mk H
            clear H
            have hnb149 := NB823_824.out
            have hnc149 := NB824_823.out
            obtain ⟨hcz150_0, hcz150_1, hcz150_2, hcz150_3, hcz150_4, hcz150_5, hcz150_6, hcz150_7, hcz150_8, hcz150_9, hfz150_0, hfz150_1, hfz150_2, hfz150_3, hfz150_4, hfz150_5, hfz150_6, hfz150_7, hfz150_8, hfz150_9⟩ := cells10 BK823.out
            obtain ⟨hcz151_0, hcz151_1, hcz151_2, hcz151_3, hcz151_4, hcz151_5, hcz151_6, hfz151_0, hfz151_1, hfz151_2, hfz151_3, hfz151_4, hfz151_5, hfz151_6⟩ := cells7 BK824.out
            go_wp2
            go_meet
            case rel => exact ⟨_, (true), (by first | rfl | (simp; done) | (simp [*]; done)), H', ⟨by have := HJ1.out; have := HJ39.out; have := HJ61.out; have := HJ72.out; have := HJ93.out; have := HJ107.out; have := HJ120.out; have := HJ132.out; first | omega | exact Nat.le_refl _⟩, ⟨by (with_reducible repeat (first | refine blk_drewN ?_ _ | refine blk_drew ?_ | refine blk_alloc ?_ _)); exact BK823.out⟩, ⟨by (with_reducible repeat (first | refine blk_drewN ?_ _ | refine blk_drew ?_ | refine blk_alloc ?_ _)); exact BK824.out⟩, ⟨by repeat (first | (with_reducible first | exact HB.out | apply below_alloc | apply pw_below_drewN | apply below_drew1 | refine below_set ?_ GE823.out | refine below_set ?_ GE824.out) | exact HB.out)⟩⟩
           ·rw [if_neg c148] at H
            have c148b0 : decide (a0_0 < 0) = false := decide_eq_false c148
            clear c148
            have H' := Aside0.mk H
            clear H
            have hnb152 := NB823_824.out
            have hnc152 := NB824_823.out
            obtain ⟨hcz153_0, hcz153_1, hcz153_2, hcz153_3, hcz153_4, hcz153_5, hcz153_6, hcz153_7, hcz153_8, hcz153_9, hfz153_0, hfz153_1, hfz153_2, hfz153_3, hfz153_4, hfz153_5, hfz153_6, hfz153_7, hfz153_8, hfz153_9⟩ := cells10 BK823.out
            obtain ⟨hcz154_0, hcz154_1, hcz154_2, hcz154_3, hcz154_4, hcz154_5, hcz154_6, hfz154_0, hfz154_1, hfz154_2, hfz154_3, hfz154_4, hfz154_5, hfz154_6⟩ := cells7 BK824.out
            go_wp2
            go_meet
            case rel => exact ⟨_, (decide (a0_0 > 7)), (by first | rfl | (simp; done) | (simp [*]; done)), H', ⟨by have := HJ1.out; have := HJ39.out; have := HJ61.out; have := HJ72.out; have := HJ93.out; have := HJ107.out; have := HJ120.out; have := HJ132.out; first | omega | exact Nat.le_refl _⟩, ⟨by (with_reducible repeat (first | refine blk_drewN ?_ _ | refine blk_drew ?_ | refine blk_alloc ?_ _)); exact BK823.out⟩, ⟨by (with_reducible repeat (first | refine blk_drewN ?_ _ | refine blk_drew ?_ | refine blk_alloc ?_ _)); exact BK824.out⟩, ⟨by repeat (first | (with_reducible first | exact HB.out | apply below_alloc | apply pw_below_drewN | apply below_drew1 | refine below_set ?_ GE823.out | refine below_set ?_ GE824.out) | exact HB.out)⟩⟩
          ·rw [if_neg c147] at H
           have c147b0 : (a0_3 == 0) = false := beq_eq_false_iff_ne.mpr c147
           have c147b1 : (a0_3 != 0) = true := bne_iff_ne.mpr c147
           have H' := Aside0.mk H
           clear H
           have hnb155 := NB823_824.out
           have hnc155 := NB824_823.out
           obtain ⟨hcz156_0, hcz156_1, hcz156_2, hcz156_3, hcz156_4, hcz156_5, hcz156_6, hcz156_7, hcz156_8, hcz156_9, hfz156_0, hfz156_1, hfz156_2, hfz156_3, hfz156_4, hfz156_5, hfz156_6, hfz156_7, hfz156_8, hfz156_9⟩ := cells10 BK823.out
           obtain ⟨hcz157_0, hcz157_1, hcz157_2, hcz157_3, hcz157_4, hcz157_5, hcz157_6, hfz157_0, hfz157_1, hfz157_2, hfz157_3, hfz157_4, hfz157_5, hfz157_6⟩ := cells7 BK824.out
           go_wp2
           go_meet
           case rel => exact ⟨_, (true), (by first | rfl | (simp; done) | (simp [*]; done)), H', ⟨by have := HJ1.out; have := HJ39.out; have := HJ61.out; have := HJ72.out; have := HJ93.out; have := HJ107.out; have := HJ120.out; have := HJ132.out; first | omega | exact Nat.le_refl _⟩, ⟨by (with_reducible repeat (first | refine blk_drewN ?_ _ | refine blk_drew ?_ | refine blk_alloc ?_ _)); exact BK823.out⟩, ⟨by (with_reducible repeat (first | refine blk_drewN ?_ _ | refine blk_drew ?_ | refine blk_alloc ?_ _)); exact BK824.out⟩, ⟨by repeat (first | (with_reducible first | exact HB.out | apply below_alloc | apply pw_below_drewN | apply below_drew1 | refine below_set ?_ GE823.out | refine below_set ?_ GE824.out) | exact HB.out)⟩⟩
        case rest =>
         clear HC143
         try clear c140
         try clear hfz123_0 hfz123_1 hfz123_2 hfz123_3 hfz123_4 hfz123_5 hfz123_6
         try clear hfz42_0 hfz42_1 hfz42_2 hfz42_3 hfz42_4 hfz42_5 hfz42_6 hfz42_7 hfz42_8 hfz42_9
         try clear hfz4_0 hfz4_1 hfz4_2 hfz4_3 hfz4_4 hfz4_5 hfz4_6 hfz4_7 hfz4_8 hfz4_9
         try clear hfz7_0 hfz7_1 hfz7_2 hfz7_3 hfz7_4 hfz7_5 hfz7_6
         try clear hfz8_0 hfz8_1 hfz8_2 hfz8_3 hfz8_4 hfz8_5 hfz8_6 hfz8_7 hfz8_8 hfz8_9
         try clear hfz96_0 hfz96_1 hfz96_2 hfz96_3 hfz96_4 hfz96_5 hfz96_6
         obtain ⟨kq, x163_142, rfl, HA, HJ142, BK823, BK824, HB⟩ := hcut
         cases kq with
         | zero => exact absurd HA.out (by simp [rafterref35_Line.j8])
         | succ kj142 =>
          have H := HA.out
          clear HA
          simp only [rafterref35_Line.j8] at H
          by_cases c158 : x163_142 = true
          ·subst c158
           have H1 : (some ([] : List ByteArray)) = some r := by rw [if_pos rfl] at H; exact H
           clear H
           have H := H1
           clear H1
           obtain rfl := Option.some.inj H
           go_wp2
           go_ret
           exact ⟨_, by first | rfl | (simp [errW_none, errW_some] <;> rfl) | (simp [*, errW_none, errW_some] <;> rfl), by first | exact Kd.R_nil _ _ _ _ _ | exact Kd.N_nil _ _ _ _ _ | exact Kd.V_nil _ _ _ _ _ | exact Kd.Q_nil _ _ _ _ _ | exact Kd.S_nil _ _ _ _ _, by repeat (first | (with_reducible first | exact HB.out | apply below_alloc | apply pw_below_drewN | apply below_drew1 | refine below_set ?_ GE823.out | refine below_set ?_ GE824.out) | exact HB.out)⟩
          ·replace c158 := Bool.eq_false_iff.mpr c158
           subst c158
           have H1 : (if a0_0 = 7 then (rafterref35_Line.j9 kj142 a0_1 (a0_1.toList == ([] : List UInt8)) a0_0 a0_1 a0_2 a0_3 a0_4 l0_5 a0_6 a0_7 a0_8 l0_9) else (rafterref35_Line.j9 kj142 a0_1 false a0_0 a0_1 a0_2 a0_3 a0_4 l0_5 a0_6 a0_7 a0_8 l0_9)) = some r := by rw [if_neg (show ¬ (false = true) by decide)] at H; exact H
           clear H
           have H := H1
           clear H1
           have HC159 := Aside0.mk H
           clear H
           go_upto_region 27 with (fail)
           go_cut [170] (fun v170 wc => ∃ (kq : Nat) (x170_158 : Bool), v170 = .bool x170_158 ∧ Aside0 (rafterref35_Line.j9 kq a0_1 x170_158 a0_0 a0_1 a0_2 a0_3 a0_4 l0_5 a0_6 a0_7 a0_8 l0_9 = some r) ∧ Aside0 (kq ≤ kj142) ∧ Aside0 (wc.heap[gb823]? = some (.cells #[.int .i64 a0_0, .string a0_1, .string a0_2, .int .i64 a0_3, .string a0_4, (.slice A0_5 l0_5.length c0_5), .int .i64 a0_6, .string a0_7, .string a0_8, (.slice A0_9 l0_9.length c0_9)] 34 (0, 0))) ∧ Aside0 (wc.heap[gb824]? = some (.cells #[.int .i64 a0_3, .string a0_4, (.slice A0_5 l0_5.length c0_5), .int .i64 a0_6, .string a0_7, .string a0_8, (.slice A0_9 l0_9.length c0_9)] 32 (0, 0))) ∧ Aside0 (Below w.heap.size w wc))
           case first =>
            have H := HC159.out
            clear HC159
            by_cases c160 : a0_0 = 7
            ·rw [if_pos c160] at H
             have c160b0 : (a0_0 == 7) = true := beq_iff_eq.mpr c160
             have c160b1 : (a0_0 != 7) = false := bne_eq_false_iff_eq.mpr c160
             clear c160
             (first | rw [c160b0] | (simp only [i64_w, i32_w]; rw [c160b0]) | rw [c160b1] | rw [c160b2] | skip)
             have H' := Aside0.mk H
             clear H
             have hnb161 := NB823_824.out
             have hnc161 := NB824_823.out
             obtain ⟨hcz162_0, hcz162_1, hcz162_2, hcz162_3, hcz162_4, hcz162_5, hcz162_6, hcz162_7, hcz162_8, hcz162_9, hfz162_0, hfz162_1, hfz162_2, hfz162_3, hfz162_4, hfz162_5, hfz162_6, hfz162_7, hfz162_8, hfz162_9⟩ := cells10 BK823.out
             go_wp2
             go_meet
             case rel => exact ⟨_, ((a0_1.toList == ([] : List UInt8))), (by first | rfl | (simp; done) | (simp [*]; done)), H', ⟨by have := HJ1.out; have := HJ39.out; have := HJ61.out; have := HJ72.out; have := HJ93.out; have := HJ107.out; have := HJ120.out; have := HJ132.out; have := HJ142.out; first | omega | exact Nat.le_refl _⟩, ⟨by (with_reducible repeat (first | refine blk_drewN ?_ _ | refine blk_drew ?_ | refine blk_alloc ?_ _)); exact BK823.out⟩, ⟨by (with_reducible repeat (first | refine blk_drewN ?_ _ | refine blk_drew ?_ | refine blk_alloc ?_ _)); exact BK824.out⟩, ⟨by repeat (first | (with_reducible first | exact HB.out | apply below_alloc | apply pw_below_drewN | apply below_drew1 | refine below_set ?_ GE823.out | refine below_set ?_ GE824.out) | exact HB.out)⟩⟩
            ·rw [if_neg c160] at H
             have c160b0 : (a0_0 == 7) = false := beq_eq_false_iff_ne.mpr c160
             have c160b1 : (a0_0 != 7) = true := bne_iff_ne.mpr c160
             (first | rw [c160b0] | (simp only [i64_w, i32_w]; rw [c160b0]) | rw [c160b1] | rw [c160b2] | skip)
             have H' := Aside0.mk H
             clear H
             have hnb163 := NB823_824.out
             have hnc163 := NB824_823.out
             obtain ⟨hcz164_0, hcz164_1, hcz164_2, hcz164_3, hcz164_4, hcz164_5, hcz164_6, hcz164_7, hcz164_8, hcz164_9, hfz164_0, hfz164_1, hfz164_2, hfz164_3, hfz164_4, hfz164_5, hfz164_6, hfz164_7, hfz164_8, hfz164_9⟩ := cells10 BK823.out
             go_wp2
             go_meet
             case rel => exact ⟨_, (false), (by first | rfl | (simp; done) | (simp [*]; done)), H', ⟨by have := HJ1.out; have := HJ39.out; have := HJ61.out; have := HJ72.out; have := HJ93.out; have := HJ107.out; have := HJ120.out; have := HJ132.out; have := HJ142.out; first | omega | exact Nat.le_refl _⟩, ⟨by (with_reducible repeat (first | refine blk_drewN ?_ _ | refine blk_drew ?_ | refine blk_alloc ?_ _)); exact BK823.out⟩, ⟨by (with_reducible repeat (first | refine blk_drewN ?_ _ | refine blk_drew ?_ | refine blk_alloc ?_ _)); exact BK824.out⟩, ⟨by repeat (first | (with_reducible first | exact HB.out | apply below_alloc | apply pw_below_drewN | apply below_drew1 | refine below_set ?_ GE823.out | refine below_set ?_ GE824.out) | exact HB.out)⟩⟩
           case rest =>
            clear HC159
            try clear c158
            try clear hfz123_0 hfz123_1 hfz123_2 hfz123_3 hfz123_4 hfz123_5 hfz123_6
            try clear hfz42_0 hfz42_1 hfz42_2 hfz42_3 hfz42_4 hfz42_5 hfz42_6 hfz42_7 hfz42_8 hfz42_9
            try clear hfz4_0 hfz4_1 hfz4_2 hfz4_3 hfz4_4 hfz4_5 hfz4_6 hfz4_7 hfz4_8 hfz4_9
            try clear hfz7_0 hfz7_1 hfz7_2 hfz7_3 hfz7_4 hfz7_5 hfz7_6
            try clear hfz8_0 hfz8_1 hfz8_2 hfz8_3 hfz8_4 hfz8_5 hfz8_6 hfz8_7 hfz8_8 hfz8_9
            try clear hfz96_0 hfz96_1 hfz96_2 hfz96_3 hfz96_4 hfz96_5 hfz96_6
            obtain ⟨kq, x170_158, rfl, HA, HJ158, BK823, BK824, HB⟩ := hcut
            cases kq with
            | zero => exact absurd HA.out (by simp [rafterref35_Line.j9])
            | succ kj158 =>
             have H := HA.out
             clear HA
             simp only [rafterref35_Line.j9] at H
             by_cases c165 : x170_158 = true
             ·subst c165
              have H1 : (some (([(⟨#[112, 111, 119, 101, 114]⟩ : ByteArray)] : List ByteArray))) = some r := by rw [if_pos rfl] at H; exact H
              clear H
              have H := H1
              clear H1
              obtain ⟨y854, hy854⟩ : ∃ y_ : List ByteArray, y_ = (([(⟨#[112, 111, 119, 101, 114]⟩ : ByteArray)] : List ByteArray)) := ⟨_, rfl⟩
              replace H : (some y854) = some r := by first | (rw [hy854]; with_reducible exact H) | (have H2_ := (Option.bind_some _ _).symm.trans H; rw [hy854]; with_reducible exact H2_) | (have H2_ := (Option.bind_some _ _).symm.trans H; with_reducible exact H2_) | with_reducible exact H | (rw [hy854]; exact H) | exact H
              have Ny854 := Aside0.mk hy854
              clear hy854
              obtain rfl := Option.some.inj H
              go_wp2_with (first | ((with_reducible refine gate_dst (N := 171) rfl ?_); (try (refine gate_guard (by rfl) ?_; dsimp only)); refine Kd.R_lit Kd.string _ 9 ?hg (N := 171) ?hd (xs := ([(⟨#[112, 111, 119, 101, 114]⟩ : ByteArray)] : List ByteArray)) (inner := [.string (⟨#[112, 111, 119, 101, 114]⟩ : ByteArray)]) (ok := fun _ => True) (okp := fun _ => True) ?hr ?hp (fun _ hk => hk) trivial (Below.refl _ _) (Nat.le_refl _) (by simp) ?_; (case hd => rfl); (case hg => rfl); (case hr => first | (go_simp; done) | (go_simp; rfl)); (case hp => exact (Reps.one (show Kd.M Kd.string _ _ _ (⟨#[112, 111, 119, 101, 114]⟩ : ByteArray) [.string (⟨#[112, 111, 119, 101, 114]⟩ : ByteArray)] from rfl) (Reps.none _ _))); intro v855 w166 ho167 hb hg_ hnew_; clear hg_ hnew_; (first | rw [← Ny854.out] at ho167 | (simp only [Int.reduceToNat] at ho167; rw [← Ny854.out] at ho167)); have n0_ := Aside0.mk (Kd.R_lower ho167 (below_size (by repeat (first | (with_reducible first | exact HB.out | apply below_alloc | apply pw_below_drewN | apply below_drew1 | refine below_set ?_ GE823.out | refine below_set ?_ GE824.out) | exact HB.out)))); have n1_ := Aside0.mk (blk_below (g := gb823) (o := .cells #[.int .i64 a0_0, .string a0_1, .string a0_2, .int .i64 a0_3, .string a0_4, .slice A0_5 l0_5.length c0_5, .int .i64 a0_6, .string a0_7, .string a0_8, .slice A0_9 l0_9.length c0_9] 34 (0, 0)) (by (with_reducible repeat (first | refine blk_drewN ?_ _ | refine blk_drew ?_ | refine blk_alloc ?_ _)); exact BK823.out) hb); have n2_ := Aside0.mk (blk_below (g := gb824) (o := .cells #[.int .i64 a0_3, .string a0_4, .slice A0_5 l0_5.length c0_5, .int .i64 a0_6, .string a0_7, .string a0_8, .slice A0_9 l0_9.length c0_9] 32 (0, 0)) (by (with_reducible repeat (first | refine blk_drewN ?_ _ | refine blk_drew ?_ | refine blk_alloc ?_ _)); exact BK824.out) hb); have n3_ := Aside0.mk (below_step (by repeat (first | (with_reducible first | exact HB.out | apply below_alloc | apply pw_below_drewN | apply below_drew1 | refine below_set ?_ GE823.out | refine below_set ?_ GE824.out) | exact HB.out)) hb); clear BK823; clear BK824; clear HB; have HO856 := n0_; have BK823 := n1_; have BK824 := n2_; have HB := n3_; clear n0_ n1_ n2_ n3_; clear hb ho167))
              go_ret
              exact ⟨_, by first | rfl | (simp [errW_none, errW_some] <;> rfl) | (simp [*, errW_none, errW_some] <;> rfl), by (with_reducible repeat (first | apply Kd.R_alloc | apply Kd.R_drewN | apply Kd.R_drew)); exact HO856.out, by repeat (first | (with_reducible first | exact HB.out | apply below_alloc | apply pw_below_drewN | apply below_drew1 | refine below_set ?_ GE823.out | refine below_set ?_ GE824.out) | exact HB.out)⟩
             ·replace c165 := Bool.eq_false_iff.mpr c165
              subst c165
              have H1 : (if a0_0 = 7 then (some ([] : List ByteArray)) else ((some (([(⟨#[105, 110, 105, 116]⟩ : ByteArray), (⟨#[]⟩ : ByteArray), (⟨#[108, 111, 103]⟩ : ByteArray), (⟨#[110, 101, 119]⟩ : ByteArray), (⟨#[99, 111, 110, 102, 108, 105, 99, 116, 115]⟩ : ByteArray), (⟨#[115, 104, 111, 119]⟩ : ByteArray), (⟨#[99, 104, 101, 99, 107]⟩ : ByteArray)] : List ByteArray) : List ByteArray)).bind fun y857 => (if 0 ≤ a0_0 then (if a0_0 < (y857.length : Int) then (some (([rdOf ByteArray.empty y857 a0_0, a0_1] : List ByteArray))) else (none)) else (none)))) = some r := by rw [if_neg (show ¬ (false = true) by decide)] at H; exact H
              clear H
              have H := H1
              clear H1
              by_cases c168 : a0_0 = 7
              ·rw [if_pos c168] at H
               have c168b0 : (a0_0 == 7) = true := beq_iff_eq.mpr c168
               have c168b1 : (a0_0 != 7) = false := bne_eq_false_iff_eq.mpr c168
               clear c168
               obtain rfl := Option.some.inj H
               have hnb169 := NB823_824.out
               have hnc169 := NB824_823.out
               obtain ⟨hcz170_0, hcz170_1, hcz170_2, hcz170_3, hcz170_4, hcz170_5, hcz170_6, hcz170_7, hcz170_8, hcz170_9, hfz170_0, hfz170_1, hfz170_2, hfz170_3, hfz170_4, hfz170_5, hfz170_6, hfz170_7, hfz170_8, hfz170_9⟩ := cells10 BK823.out
               go_wp2
               go_ret
               exact ⟨_, by first | rfl | (simp [errW_none, errW_some] <;> rfl) | (simp [*, errW_none, errW_some] <;> rfl), by first | exact Kd.R_nil _ _ _ _ _ | exact Kd.N_nil _ _ _ _ _ | exact Kd.V_nil _ _ _ _ _ | exact Kd.Q_nil _ _ _ _ _ | exact Kd.S_nil _ _ _ _ _, by repeat (first | (with_reducible first | exact HB.out | apply below_alloc | apply pw_below_drewN | apply below_drew1 | refine below_set ?_ GE823.out | refine below_set ?_ GE824.out) | exact HB.out)⟩
              ·rw [if_neg c168] at H
               have c168b0 : (a0_0 == 7) = false := beq_eq_false_iff_ne.mpr c168
               have c168b1 : (a0_0 != 7) = true := bne_iff_ne.mpr c168
               obtain ⟨y857, hy857⟩ : ∃ y_ : List ByteArray, y_ = (([(⟨#[105, 110, 105, 116]⟩ : ByteArray), (⟨#[]⟩ : ByteArray), (⟨#[108, 111, 103]⟩ : ByteArray), (⟨#[110, 101, 119]⟩ : ByteArray), (⟨#[99, 111, 110, 102, 108, 105, 99, 116, 115]⟩ : ByteArray), (⟨#[115, 104, 111, 119]⟩ : ByteArray), (⟨#[99, 104, 101, 99, 107]⟩ : ByteArray)] : List ByteArray)) := ⟨_, rfl⟩
               replace H : (if 0 ≤ a0_0 then (if a0_0 < (y857.length : Int) then (some (([rdOf ByteArray.empty y857 a0_0, a0_1] : List ByteArray))) else (none)) else (none)) = some r := by first | (rw [hy857]; with_reducible exact H) | (have H2_ := (Option.bind_some _ _).symm.trans H; rw [hy857]; with_reducible exact H2_) | (have H2_ := (Option.bind_some _ _).symm.trans H; with_reducible exact H2_) | with_reducible exact H | (rw [hy857]; exact H) | exact H
               have Ny857 := Aside0.mk hy857
               clear hy857
               by_cases c171 : 0 ≤ a0_0
               ·rw [if_pos c171] at H
                have c171b0 : decide (0 ≤ a0_0) = true := decide_eq_true c171
                clear c171
                by_cases c172 : a0_0 < (y857.length : Int)
                ·rw [if_pos c172] at H
                 have c172b0 : decide (a0_0 < (y857.length : Int)) = true := decide_eq_true c172
                 clear c172
                 obtain ⟨y861, hy861⟩ : ∃ y_ : List ByteArray, y_ = (([rdOf ByteArray.empty y857 a0_0, a0_1] : List ByteArray)) := ⟨_, rfl⟩
                 replace H : (some y861) = some r := by first | (rw [hy861]; with_reducible exact H) | (have H2_ := (Option.bind_some _ _).symm.trans H; rw [hy861]; with_reducible exact H2_) | (have H2_ := (Option.bind_some _ _).symm.trans H; with_reducible exact H2_) | with_reducible exact H | (rw [hy861]; exact H) | exact H
                 have Ny861 := Aside0.mk hy861
                 clear hy861
                 obtain rfl := Option.some.inj H
                 have hnb173 := NB823_824.out
                 have hnc173 := NB824_823.out
                 obtain ⟨hcz174_0, hcz174_1, hcz174_2, hcz174_3, hcz174_4, hcz174_5, hcz174_6, hcz174_7, hcz174_8, hcz174_9, hfz174_0, hfz174_1, hfz174_2, hfz174_3, hfz174_4, hfz174_5, hfz174_6, hfz174_7, hfz174_8, hfz174_9⟩ := cells10 BK823.out
                 go_wp2_with (first | ((with_reducible refine gate_dst (N := 175) rfl ?_); (try (refine gate_guard (by rfl) ?_; dsimp only)); refine Kd.R_lit Kd.string _ 9 ?hg (N := 175) ?hd (xs := ([(⟨#[105, 110, 105, 116]⟩ : ByteArray), (⟨#[]⟩ : ByteArray), (⟨#[108, 111, 103]⟩ : ByteArray), (⟨#[110, 101, 119]⟩ : ByteArray), (⟨#[99, 111, 110, 102, 108, 105, 99, 116, 115]⟩ : ByteArray), (⟨#[115, 104, 111, 119]⟩ : ByteArray), (⟨#[99, 104, 101, 99, 107]⟩ : ByteArray)] : List ByteArray)) (inner := [.string (⟨#[105, 110, 105, 116]⟩ : ByteArray), .string (⟨#[]⟩ : ByteArray), .string (⟨#[108, 111, 103]⟩ : ByteArray), .string (⟨#[110, 101, 119]⟩ : ByteArray), .string (⟨#[99, 111, 110, 102, 108, 105, 99, 116, 115]⟩ : ByteArray), .string (⟨#[115, 104, 111, 119]⟩ : ByteArray), .string (⟨#[99, 104, 101, 99, 107]⟩ : ByteArray)]) (ok := fun _ => True) (okp := fun _ => True) ?hr ?hp (fun _ hk => hk) trivial (Below.refl _ _) (Nat.le_refl _) (by simp) ?_; (case hd => rfl); (case hg => rfl); (case hr => first | (go_simp; done) | (go_simp; rfl)); (case hp => exact (Reps.one (show Kd.M Kd.string _ _ _ (⟨#[105, 110, 105, 116]⟩ : ByteArray) [.string (⟨#[105, 110, 105, 116]⟩ : ByteArray)] from rfl) (Reps.one (show Kd.M Kd.string _ _ _ (⟨#[]⟩ : ByteArray) [.string (⟨#[]⟩ : ByteArray)] from rfl) (Reps.one (show Kd.M Kd.string _ _ _ (⟨#[108, 111, 103]⟩ : ByteArray) [.string (⟨#[108, 111, 103]⟩ : ByteArray)] from rfl) (Reps.one (show Kd.M Kd.string _ _ _ (⟨#[110, 101, 119]⟩ : ByteArray) [.string (⟨#[110, 101, 119]⟩ : ByteArray)] from rfl) (Reps.one (show Kd.M Kd.string _ _ _ (⟨#[99, 111, 110, 102, 108, 105, 99, 116, 115]⟩ : ByteArray) [.string (⟨#[99, 111, 110, 102, 108, 105, 99, 116, 115]⟩ : ByteArray)] from rfl) (Reps.one (show Kd.M Kd.string _ _ _ (⟨#[115, 104, 111, 119]⟩ : ByteArray) [.string (⟨#[115, 104, 111, 119]⟩ : ByteArray)] from rfl) (Reps.one (show Kd.M Kd.string _ _ _ (⟨#[99, 104, 101, 99, 107]⟩ : ByteArray) [.string (⟨#[99, 104, 101, 99, 107]⟩ : ByteArray)] from rfl) (Reps.none _ _))))))))); intro v858 w175 ho176 hb hg_ hnew_; clear hg_ hnew_; (first | rw [← Ny857.out] at ho176 | (simp only [Int.reduceToNat] at ho176; rw [← Ny857.out] at ho176)); have n0_ := Aside0.mk (Kd.R_lower ho176 (below_size (by repeat (first | (with_reducible first | exact HB.out | apply below_alloc | apply pw_below_drewN | apply below_drew1 | refine below_set ?_ GE823.out | refine below_set ?_ GE824.out) | exact HB.out)))); have n1_ := Aside0.mk (blk_below (g := gb823) (o := .cells #[.int .i64 a0_0, .string a0_1, .string a0_2, .int .i64 a0_3, .string a0_4, .slice A0_5 l0_5.length c0_5, .int .i64 a0_6, .string a0_7, .string a0_8, .slice A0_9 l0_9.length c0_9] 34 (0, 0)) (by (with_reducible repeat (first | refine blk_drewN ?_ _ | refine blk_drew ?_ | refine blk_alloc ?_ _)); exact BK823.out) hb); have n2_ := Aside0.mk (blk_below (g := gb824) (o := .cells #[.int .i64 a0_3, .string a0_4, .slice A0_5 l0_5.length c0_5, .int .i64 a0_6, .string a0_7, .string a0_8, .slice A0_9 l0_9.length c0_9] 32 (0, 0)) (by (with_reducible repeat (first | refine blk_drewN ?_ _ | refine blk_drew ?_ | refine blk_alloc ?_ _)); exact BK824.out) hb); have n3_ := Aside0.mk (below_step (by repeat (first | (with_reducible first | exact HB.out | apply below_alloc | apply pw_below_drewN | apply below_drew1 | refine below_set ?_ GE823.out | refine below_set ?_ GE824.out) | exact HB.out)) hb); clear BK823; clear BK824; clear HB; have HO859 := n0_; have BK823 := n1_; have BK824 := n2_; have HB := n3_; clear n0_ n1_ n2_ n3_; clear hb ho176; obtain ⟨hcz177_0, hcz177_1, hcz177_2, hcz177_3, hcz177_4, hcz177_5, hcz177_6, hcz177_7, hcz177_8, hcz177_9, hfz177_0, hfz177_1, hfz177_2, hfz177_3, hfz177_4, hfz177_5, hfz177_6, hfz177_7, hfz177_8, hfz177_9⟩ := cells10 BK823.out; obtain ⟨Ao178, co178, eo178⟩ := Kd.R_slice HO859.out; subst eo178; have p860 : 0 ≤ (a0_0 : Int) := of_decide_eq_true (by first | (with_reducible assumption) | assumption); have q860 : a0_0 < (y857.length : Int) := of_decide_eq_true (by first | (with_reducible assumption) | assumption); obtain ⟨ad860, e860, hx860_0⟩ := Kd.at_string (Kd.R_reads' HO859.out).2.2 a0_0 p860 q860; cases e860; replace p860 := eq_true p860; replace q860 := eq_true q860) | ((with_reducible refine gate_dst (N := 182) rfl ?_); (try (refine gate_guard (by rfl) ?_; dsimp only)); refine Kd.R_lit Kd.string _ 9 ?hg (N := 182) ?hd (xs := ([rdOf ByteArray.empty y857 a0_0, a0_1] : List ByteArray)) (inner := [.string (rdOf ByteArray.empty y857 a0_0), .string a0_1]) (ok := fun _ => True) (okp := fun _ => True) ?hr ?hp (fun _ hk => hk) trivial (Below.refl _ _) (Nat.le_refl _) (by simp) ?_; (case hd => rfl); (case hg => rfl); (case hr => first | (go_simp; done) | (go_simp; rfl)); (case hp => exact (Reps.one (show Kd.M Kd.string _ _ _ (rdOf ByteArray.empty y857 a0_0) [.string (rdOf ByteArray.empty y857 a0_0)] from rfl) (Reps.one (show Kd.M Kd.string _ _ _ a0_1 [.string a0_1] from rfl) (Reps.none _ _)))); intro v862 w179 ho180 hb hg_ hnew_; clear hg_ hnew_; (first | rw [← Ny861.out] at ho180 | (simp only [Int.reduceToNat] at ho180; rw [← Ny861.out] at ho180)); have n0_ := Aside0.mk (Kd.R_elder' (by (with_reducible repeat (first | apply Kd.R_alloc | apply Kd.R_drewN | apply Kd.R_drew)); exact HO859.out) (Kd.R_base ho180) hb); have n1_ := Aside0.mk (Kd.R_lower (Kd.R_new' ho180 (Kd.R_lt (by (with_reducible repeat (first | apply Kd.R_alloc | apply Kd.R_drewN | apply Kd.R_drew)); exact HO859.out))) (below_size (by repeat (first | (with_reducible first | exact HB.out | apply below_alloc | apply pw_below_drewN | apply below_drew1 | refine below_set ?_ GE823.out | refine below_set ?_ GE824.out) | exact HB.out)))); have n2_ := Aside0.mk (blk_below (g := gb823) (o := .cells #[.int .i64 a0_0, .string a0_1, .string a0_2, .int .i64 a0_3, .string a0_4, .slice A0_5 l0_5.length c0_5, .int .i64 a0_6, .string a0_7, .string a0_8, .slice A0_9 l0_9.length c0_9] 34 (0, 0)) (by (with_reducible repeat (first | refine blk_drewN ?_ _ | refine blk_drew ?_ | refine blk_alloc ?_ _)); exact BK823.out) hb); have n3_ := Aside0.mk (blk_below (g := gb824) (o := .cells #[.int .i64 a0_3, .string a0_4, .slice A0_5 l0_5.length c0_5, .int .i64 a0_6, .string a0_7, .string a0_8, .slice A0_9 l0_9.length c0_9] 32 (0, 0)) (by (with_reducible repeat (first | refine blk_drewN ?_ _ | refine blk_drew ?_ | refine blk_alloc ?_ _)); exact BK824.out) hb); have n4_ := Aside0.mk (below_step (by repeat (first | (with_reducible first | exact HB.out | apply below_alloc | apply pw_below_drewN | apply below_drew1 | refine below_set ?_ GE823.out | refine below_set ?_ GE824.out) | exact HB.out)) hb); clear HO859; clear BK823; clear BK824; clear HB; have HO859 := n0_; have HO863 := n1_; have BK823 := n2_; have BK824 := n3_; have HB := n4_; clear n0_ n1_ n2_ n3_ n4_; clear hb ho180))
                 go_ret
                 exact ⟨_, by first | rfl | (simp [errW_none, errW_some] <;> rfl) | (simp [*, errW_none, errW_some] <;> rfl), by (with_reducible repeat (first | apply Kd.R_alloc | apply Kd.R_drewN | apply Kd.R_drew)); exact Kd.R_mono HO863.out (fun _ hk => trivial), by repeat (first | (with_reducible first | exact HB.out | apply below_alloc | apply pw_below_drewN | apply below_drew1 | refine below_set ?_ GE823.out | refine below_set ?_ GE824.out) | exact HB.out)⟩
                ·rw [if_neg c172] at H
                 exact absurd H (by simp)
               ·rw [if_neg c171] at H
                exact absurd H (by simp)
set_option maxHeartbeats 100000000 in
set_option maxRecDepth 100000 in
theorem rafterref35_Line.part15 {k : Nat}
  {a0_0 : Int}
  {a0_1 a0_2 : ByteArray}
  {a0_3 : Int}
  {a0_4 : ByteArray}
  {A0_5 : Option Addr}
  {c0_5 : Nat}
  {l0_5 : List ByteArray}
  {a0_6 : Int}
  {a0_7 a0_8 : ByteArray}
  {A0_9 : Option Addr}
  {c0_9 : Nat}
  {l0_9 r : List ByteArray}
  {w : World}
  {gb823 : Nat}
  (GW823 : Aside0 (w.heap.size ≤ gb823))
  (GE823 : Aside0 (w.heap.size ≤ gb823))
  {gb824 : Nat}
  (GW824 : Aside0 (w.heap.size ≤ gb824))
  (GE824 : Aside0 (w.heap.size ≤ gb824))
  (NB823_824 : Aside0 (gb823 ≠ gb824))
  (NB824_823 : Aside0 (gb824 ≠ gb823))
  {kj1 : Nat}
  (HJ1 : Aside0 (kj1 + 1 ≤ k))
  {kj39 : Nat}
  (HJ39 : Aside0 (kj39 + 1 ≤ kj1))
  {kj61 : Nat}
  (HJ61 : Aside0 (kj61 + 1 ≤ kj39))
  {wc : World}
  {u6 u7 u8 u9 u10 u11 u12 u13 u14 u15 u16 u17 u18 u19 u20 u21 u22 u23 u24 u25 u26 u27 u28 u29 u30 u31 u32 u33 u34 u35 u36 u37 u38 u39 u40 u41 u42 u43 u44 u45 u46 u47 u48 u49 u50 u51 u52 u53 u54 u55 u56 u57 u58 u59 u60 u61 u62 u63 u64 u65 u66 u67 u68 u69 u70 u71 u72 u73 u74 u75 u76 u77 u78 u79 u80 u81 u82 u83 u84 u85 u86 u87 u88 u90 u91 u92 u93 u94 u99 u100 u101 u102 u103 u104 u105 u106 u107 u108 u109 u110 u111 u112 u113 u114 u115 u116 u117 u118 u119 u120 u121 u122 u123 u124 u125 u126 u127 u128 u129 u130 u131 u132 u133 u134 u135 u136 u137 u138 u139 u140 u141 u142 u143 u144 u145 u146 u147 u148 u149 u150 u151 u152 u153 u154 u155 u156 u157 u158 u159 u160 u161 u162 u163 u164 u165 u166 u167 u168 u169 u170 u171 u172 u173 u174 u175 u176 u177 u178 u179 u180 u181 u182 : Value}
  (BK823 : Aside0 (wc.heap[gb823]? = some (Obj.cells #[Value.int IntKind.i64 a0_0, Value.string a0_1, Value.string a0_2, Value.int IntKind.i64 a0_3, Value.string a0_4, Value.slice A0_5 l0_5.length c0_5, Value.int IntKind.i64 a0_6, Value.string a0_7, Value.string a0_8, Value.slice A0_9 l0_9.length c0_9] 34)))
  (BK824 : Aside0 (wc.heap[gb824]? = some (Obj.cells #[Value.int IntKind.i64 a0_3, Value.string a0_4, Value.slice A0_5 l0_5.length c0_5, Value.int IntKind.i64 a0_6, Value.string a0_7, Value.string a0_8, Value.slice A0_9 l0_9.length c0_9] 32)))
  (HB : Aside0 (Below w.heap.size w wc))
  {kj72 : Nat}
  (HJ72 : Aside0 (kj72 + 1 ≤ kj61))
  (c91b0 : decide (0 < ((l0_5.length : Nat) : Int)) = false)
  (c91b1 : decide (0 < l0_5.length) = false)
  (HC94 : Aside0 ((if a0_0 = 1 then j4 kj72 a0_1 (a0_3 == 1) a0_0 a0_1 a0_2 a0_3 a0_4 l0_5 a0_6 a0_7 a0_8 l0_9 a0_3 a0_4 l0_5 a0_6 a0_7 a0_8 l0_9 else j4 kj72 a0_1 false a0_0 a0_1 a0_2 a0_3 a0_4 l0_5 a0_6 a0_7 a0_8 l0_9 a0_3 a0_4 l0_5 a0_6 a0_7 a0_8 l0_9) = some r))
  (hcz96_0 : wc.cell? { block := gb824, off := 0 } = some (Value.int IntKind.i64 a0_3))
  (hcz96_1 : wc.cell? { block := gb824, off := 1 } = some (Value.string a0_4))
  (hcz96_2 : wc.cell? { block := gb824, off := 2 } = some (Value.slice A0_5 l0_5.length c0_5))
  (hcz96_3 : wc.cell? { block := gb824, off := 3 } = some (Value.int IntKind.i64 a0_6))
  (hcz96_4 : wc.cell? { block := gb824, off := 4 } = some (Value.string a0_7))
  (hcz96_5 : wc.cell? { block := gb824, off := 5 } = some (Value.string a0_8))
  (hcz96_6 : wc.cell? { block := gb824, off := 6 } = some (Value.slice A0_9 l0_9.length c0_9))
  (hfz96_0 : wc.frozen? { block := gb824, off := 0 } = false)
  (hfz96_1 : wc.frozen? { block := gb824, off := 1 } = false)
  (hfz96_2 : wc.frozen? { block := gb824, off := 2 } = false)
  (hfz96_3 : wc.frozen? { block := gb824, off := 3 } = false)
  (hfz96_4 : wc.frozen? { block := gb824, off := 4 } = false)
  (hfz96_5 : wc.frozen? { block := gb824, off := 5 } = false)
  (hfz96_6 : wc.frozen? { block := gb824, off := 6 } = false)
  {K_x1 : Act → World → Prop}
  {Qp_x : Exit → Act → World → Prop}
  (hQ_ : Qp_x = bodyPost Tryd.prog Tryd.f17 fun e w' => ∃ v0_, e = Ending.returned v0_ ∧ Kd.string.R 9 w' w.heap.size (fun x => True) v0_ r ∧ Below w.heap.size w w')
  (a_x1 : ∀ (a : Act) (w : World), Code.wp Tryd.prog (cr (cr (cr (cr (cr (cr (cr (cr (cr (cr (cp Tryd.f17))))))))))) Qp_x a w → K_x1 a w)
  {K_x : Act → World → Prop}
  (a_x : ∀ (a : Act) (w : World), Code.wp Tryd.prog (cr (cl (cr (cr (cr (cr (cr (cr (cr (cr (cr (cp Tryd.f17)))))))))))) (Exit.then K_x1 Qp_x) a w → K_x a w) :
  Code.wp Tryd.prog (cl (cl (cr (cr (cr (cr (cr (cr (cr (cr (cr (cp Tryd.f17)))))))))))) (Exit.then K_x (Exit.then K_x1 Qp_x)) { tmps := List.toArray ((Value.agg #[Value.int IntKind.i64 a0_0, Value.string a0_1, Value.string a0_2, Value.int IntKind.i64 a0_3, Value.string a0_4, Value.slice A0_5 l0_5.length c0_5, Value.int IntKind.i64 a0_6, Value.string a0_7, Value.string a0_8, Value.slice A0_9 l0_9.length c0_9]) :: (Value.pointer (some { block := gb823, off := 0 })) :: (Value.slice none 0 0) :: (Value.pointer (some { block := gb824, off := 0 })) :: (Value.string a0_1) :: undef :: u6 :: u7 :: u8 :: u9 :: u10 :: u11 :: u12 :: u13 :: u14 :: u15 :: u16 :: u17 :: u18 :: u19 :: u20 :: u21 :: u22 :: u23 :: u24 :: u25 :: u26 :: u27 :: u28 :: u29 :: u30 :: u31 :: u32 :: u33 :: u34 :: u35 :: u36 :: u37 :: u38 :: u39 :: u40 :: u41 :: u42 :: u43 :: u44 :: u45 :: u46 :: u47 :: u48 :: u49 :: u50 :: u51 :: u52 :: u53 :: u54 :: u55 :: u56 :: u57 :: u58 :: u59 :: u60 :: u61 :: u62 :: u63 :: u64 :: u65 :: u66 :: u67 :: u68 :: u69 :: u70 :: u71 :: u72 :: u73 :: u74 :: u75 :: u76 :: u77 :: u78 :: u79 :: u80 :: u81 :: u82 :: u83 :: u84 :: u85 :: u86 :: u87 :: u88 :: (Value.bool false) :: u90 :: u91 :: u92 :: u93 :: u94 :: (Value.pointer (some { block := gb824, off := 2 })) :: (Value.slice A0_5 l0_5.length c0_5) :: (Value.int IntKind.i64 ((l0_5.length : Nat) : Int)) :: (Value.bool false) :: u99 :: u100 :: u101 :: u102 :: u103 :: u104 :: u105 :: u106 :: u107 :: u108 :: u109 :: u110 :: u111 :: u112 :: u113 :: u114 :: u115 :: u116 :: u117 :: u118 :: u119 :: u120 :: u121 :: u122 :: u123 :: u124 :: u125 :: u126 :: u127 :: u128 :: u129 :: u130 :: u131 :: u132 :: u133 :: u134 :: u135 :: u136 :: u137 :: u138 :: u139 :: u140 :: u141 :: u142 :: u143 :: u144 :: u145 :: u146 :: u147 :: u148 :: u149 :: u150 :: u151 :: u152 :: u153 :: u154 :: u155 :: u156 :: u157 :: u158 :: u159 :: u160 :: u161 :: u162 :: u163 :: u164 :: u165 :: u166 :: u167 :: u168 :: u169 :: u170 :: u171 :: u172 :: u173 :: u174 :: u175 :: u176 :: u177 :: u178 :: u179 :: u180 :: u181 :: u182 :: []), defers := [] } wc := by
  dsimp only [cp, cl, cr, Tryd.f17] at a_x1 a_x ⊢
  subst hQ_
  go_cut [106] (fun v106 wc => ∃ (kq : Nat) (x106_93 : Bool), v106 = .bool x106_93 ∧ Aside0 (rafterref35_Line.j4 kq a0_1 x106_93 a0_0 a0_1 a0_2 a0_3 a0_4 l0_5 a0_6 a0_7 a0_8 l0_9 a0_3 a0_4 l0_5 a0_6 a0_7 a0_8 l0_9 = some r) ∧ Aside0 (kq ≤ kj72) ∧ Aside0 (wc.heap[gb823]? = some (.cells #[.int .i64 a0_0, .string a0_1, .string a0_2, .int .i64 a0_3, .string a0_4, (.slice A0_5 l0_5.length c0_5), .int .i64 a0_6, .string a0_7, .string a0_8, (.slice A0_9 l0_9.length c0_9)] 34 (0, 0))) ∧ Aside0 (wc.heap[gb824]? = some (.cells #[.int .i64 a0_3, .string a0_4, (.slice A0_5 l0_5.length c0_5), .int .i64 a0_6, .string a0_7, .string a0_8, (.slice A0_9 l0_9.length c0_9)] 32 (0, 0))) ∧ Aside0 (Below w.heap.size w wc))
  case first =>
   have H := HC94.out
   clear HC94
   by_cases c97 : a0_0 = 1
   ·rw [if_pos c97] at H
    have c97b0 : (a0_0 == 1) = true := beq_iff_eq.mpr c97
    have c97b1 : (a0_0 != 1) = false := bne_eq_false_iff_eq.mpr c97
    clear c97
    (first | rw [c97b0] | (simp only [i64_w, i32_w]; rw [c97b0]) | rw [c97b1] | rw [c97b2] | skip)
    have H' := Aside0.mk H
    clear H
    have hnb98 := NB823_824.out
    have hnc98 := NB824_823.out
    obtain ⟨hcz99_0, hcz99_1, hcz99_2, hcz99_3, hcz99_4, hcz99_5, hcz99_6, hcz99_7, hcz99_8, hcz99_9, hfz99_0, hfz99_1, hfz99_2, hfz99_3, hfz99_4, hfz99_5, hfz99_6, hfz99_7, hfz99_8, hfz99_9⟩ := cells10 BK823.out
    obtain ⟨hcz100_0, hcz100_1, hcz100_2, hcz100_3, hcz100_4, hcz100_5, hcz100_6, hfz100_0, hfz100_1, hfz100_2, hfz100_3, hfz100_4, hfz100_5, hfz100_6⟩ := cells7 BK824.out
    go_wp2
    go_meet
    case rel => exact ⟨_, ((a0_3 == 1)), (by first | rfl | (simp; done) | (simp [*]; done)), H', ⟨by have := HJ1.out; have := HJ39.out; have := HJ61.out; have := HJ72.out; first | omega | exact Nat.le_refl _⟩, ⟨by (with_reducible repeat (first | refine blk_drewN ?_ _ | refine blk_drew ?_ | refine blk_alloc ?_ _)); exact BK823.out⟩, ⟨by (with_reducible repeat (first | refine blk_drewN ?_ _ | refine blk_drew ?_ | refine blk_alloc ?_ _)); exact BK824.out⟩, ⟨by repeat (first | (with_reducible first | exact HB.out | apply below_alloc | apply pw_below_drewN | apply below_drew1 | refine below_set ?_ GE823.out | refine below_set ?_ GE824.out) | exact HB.out)⟩⟩
   ·rw [if_neg c97] at H
    have c97b0 : (a0_0 == 1) = false := beq_eq_false_iff_ne.mpr c97
    have c97b1 : (a0_0 != 1) = true := bne_iff_ne.mpr c97
    (first | rw [c97b0] | (simp only [i64_w, i32_w]; rw [c97b0]) | rw [c97b1] | rw [c97b2] | skip)
    have H' := Aside0.mk H
    clear H
    have hnb101 := NB823_824.out
    have hnc101 := NB824_823.out
    obtain ⟨hcz102_0, hcz102_1, hcz102_2, hcz102_3, hcz102_4, hcz102_5, hcz102_6, hcz102_7, hcz102_8, hcz102_9, hfz102_0, hfz102_1, hfz102_2, hfz102_3, hfz102_4, hfz102_5, hfz102_6, hfz102_7, hfz102_8, hfz102_9⟩ := cells10 BK823.out
    go_wp2
    go_meet
    case rel => exact ⟨_, (false), (by first | rfl | (simp; done) | (simp [*]; done)), H', ⟨by have := HJ1.out; have := HJ39.out; have := HJ61.out; have := HJ72.out; first | omega | exact Nat.le_refl _⟩, ⟨by (with_reducible repeat (first | refine blk_drewN ?_ _ | refine blk_drew ?_ | refine blk_alloc ?_ _)); exact BK823.out⟩, ⟨by (with_reducible repeat (first | refine blk_drewN ?_ _ | refine blk_drew ?_ | refine blk_alloc ?_ _)); exact BK824.out⟩, ⟨by repeat (first | (with_reducible first | exact HB.out | apply below_alloc | apply pw_below_drewN | apply below_drew1 | refine below_set ?_ GE823.out | refine below_set ?_ GE824.out) | exact HB.out)⟩⟩
  case rest =>
   clear HC94
   try clear c84
   try clear c91
   try clear c91b0
   try clear c91b1
   try clear hcz4_0 hcz4_1 hcz4_2 hcz4_3 hcz4_4 hcz4_5 hcz4_6 hcz4_7 hcz4_8 hcz4_9 hfz4_0 hfz4_1 hfz4_2 hfz4_3 hfz4_4 hfz4_5 hfz4_6 hfz4_7 hfz4_8 hfz4_9
   try clear hcz7_0 hcz7_1 hcz7_2 hcz7_3 hcz7_4 hcz7_5 hcz7_6 hfz7_0 hfz7_1 hfz7_2 hfz7_3 hfz7_4 hfz7_5 hfz7_6
   try clear hcz8_0 hcz8_1 hcz8_2 hcz8_3 hcz8_4 hcz8_5 hcz8_6 hcz8_7 hcz8_8 hcz8_9 hfz8_0 hfz8_1 hfz8_2 hfz8_3 hfz8_4 hfz8_5 hfz8_6 hfz8_7 hfz8_8 hfz8_9
   try clear hcz96_0 hcz96_1 hcz96_2 hcz96_3 hcz96_4 hcz96_5 hcz96_6 hfz96_0 hfz96_1 hfz96_2 hfz96_3 hfz96_4 hfz96_5 hfz96_6
   try clear hfz42_0 hfz42_1 hfz42_2 hfz42_3 hfz42_4 hfz42_5 hfz42_6 hfz42_7 hfz42_8 hfz42_9
   obtain ⟨kq, x106_93, rfl, HA, HJ93, BK823, BK824, HB⟩ := hcut
   cases kq with
   | zero => exact absurd HA.out (by simp [rafterref35_Line.j4])
   | succ kj93 =>
    have H := HA.out
    clear HA
    simp only [rafterref35_Line.j4] at H
    by_cases c103 : x106_93 = true
    ·subst c103
     have H1 : (some (([(⟨#[114, 101, 99, 111, 114, 100]⟩ : ByteArray), a0_1, a0_4] : List ByteArray))) = some r := by rw [if_pos rfl] at H; exact H
     clear H
     have H := H1
     clear H1
     obtain ⟨y842, hy842⟩ : ∃ y_ : List ByteArray, y_ = (([(⟨#[114, 101, 99, 111, 114, 100]⟩ : ByteArray), a0_1, a0_4] : List ByteArray)) := ⟨_, rfl⟩
     replace H : (some y842) = some r := by first | (rw [hy842]; with_reducible exact H) | (have H2_ := (Option.bind_some _ _).symm.trans H; rw [hy842]; with_reducible exact H2_) | (have H2_ := (Option.bind_some _ _).symm.trans H; with_reducible exact H2_) | with_reducible exact H | (rw [hy842]; exact H) | exact H
     have Ny842 := Aside0.mk hy842
     clear hy842
     obtain rfl := Option.some.inj H
     have hnb104 := NB824_823.out
     have hnc104 := NB823_824.out
     obtain ⟨hcz105_0, hcz105_1, hcz105_2, hcz105_3, hcz105_4, hcz105_5, hcz105_6, hfz105_0, hfz105_1, hfz105_2, hfz105_3, hfz105_4, hfz105_5, hfz105_6⟩ := cells7 BK824.out
     go_wp2_with (first | ((with_reducible refine gate_dst (N := 110) rfl ?_); (try (refine gate_guard (by rfl) ?_; dsimp only)); refine Kd.R_lit Kd.string _ 9 ?hg (N := 110) ?hd (xs := ([(⟨#[114, 101, 99, 111, 114, 100]⟩ : ByteArray), a0_1, a0_4] : List ByteArray)) (inner := [.string (⟨#[114, 101, 99, 111, 114, 100]⟩ : ByteArray), .string a0_1, .string a0_4]) (ok := fun _ => True) (okp := fun _ => True) ?hr ?hp (fun _ hk => hk) trivial (Below.refl _ _) (Nat.le_refl _) (by simp) ?_; (case hd => rfl); (case hg => rfl); (case hr => first | (go_simp; done) | (go_simp; rfl)); (case hp => exact (Reps.one (show Kd.M Kd.string _ _ _ (⟨#[114, 101, 99, 111, 114, 100]⟩ : ByteArray) [.string (⟨#[114, 101, 99, 111, 114, 100]⟩ : ByteArray)] from rfl) (Reps.one (show Kd.M Kd.string _ _ _ a0_1 [.string a0_1] from rfl) (Reps.one (show Kd.M Kd.string _ _ _ a0_4 [.string a0_4] from rfl) (Reps.none _ _))))); intro v843 w106 ho107 hb hg_ hnew_; clear hg_ hnew_; (first | rw [← Ny842.out] at ho107 | (simp only [Int.reduceToNat] at ho107; rw [← Ny842.out] at ho107)); have n0_ := Aside0.mk (Kd.R_lower ho107 (below_size (by repeat (first | (with_reducible first | exact HB.out | apply below_alloc | apply pw_below_drewN | apply below_drew1 | refine below_set ?_ GE823.out | refine below_set ?_ GE824.out) | exact HB.out)))); have n1_ := Aside0.mk (blk_below (g := gb823) (o := .cells #[.int .i64 a0_0, .string a0_1, .string a0_2, .int .i64 a0_3, .string a0_4, .slice A0_5 l0_5.length c0_5, .int .i64 a0_6, .string a0_7, .string a0_8, .slice A0_9 l0_9.length c0_9] 34 (0, 0)) (by (with_reducible repeat (first | refine blk_drewN ?_ _ | refine blk_drew ?_ | refine blk_alloc ?_ _)); exact BK823.out) hb); have n2_ := Aside0.mk (blk_below (g := gb824) (o := .cells #[.int .i64 a0_3, .string a0_4, .slice A0_5 l0_5.length c0_5, .int .i64 a0_6, .string a0_7, .string a0_8, .slice A0_9 l0_9.length c0_9] 32 (0, 0)) (by (with_reducible repeat (first | refine blk_drewN ?_ _ | refine blk_drew ?_ | refine blk_alloc ?_ _)); exact BK824.out) hb); have n3_ := Aside0.mk (below_step (by repeat (first | (with_reducible first | exact HB.out | apply below_alloc | apply pw_below_drewN | apply below_drew1 | refine below_set ?_ GE823.out | refine below_set ?_ GE824.out) | exact HB.out)) hb); clear BK823; clear BK824; clear HB; have HO844 := n0_; have BK823 := n1_; have BK824 := n2_; have HB := n3_; clear n0_ n1_ n2_ n3_; clear hb ho107))
     go_ret
     exact ⟨_, by first | rfl | (simp [errW_none, errW_some] <;> rfl) | (simp [*, errW_none, errW_some] <;> rfl), by (with_reducible repeat (first | apply Kd.R_alloc | apply Kd.R_drewN | apply Kd.R_drew)); exact HO844.out, by repeat (first | (with_reducible first | exact HB.out | apply below_alloc | apply pw_below_drewN | apply below_drew1 | refine below_set ?_ GE823.out | refine below_set ?_ GE824.out) | exact HB.out)⟩
    ·replace c103 := Bool.eq_false_iff.mpr c103
     subst c103
     have H1 : (if a0_0 = 1 then (rafterref35_Line.j5 kj93 a0_1 (a0_3 == 2) a0_0 a0_1 a0_2 a0_3 a0_4 l0_5 a0_6 a0_7 a0_8 l0_9 a0_3 a0_4 l0_5 a0_6 a0_7 a0_8 l0_9) else (rafterref35_Line.j5 kj93 a0_1 false a0_0 a0_1 a0_2 a0_3 a0_4 l0_5 a0_6 a0_7 a0_8 l0_9 a0_3 a0_4 l0_5 a0_6 a0_7 a0_8 l0_9)) = some r := by rw [if_neg (show ¬ (false = true) by decide)] at H; exact H
     clear H
     have H := H1
     clear H1
     have HC108 := Aside0.mk H
     clear H
     go_upto_region 17 with (fail)
     go_cut [118] (fun v118 wc => ∃ (kq : Nat) (x118_107 : Bool), v118 = .bool x118_107 ∧ Aside0 (rafterref35_Line.j5 kq a0_1 x118_107 a0_0 a0_1 a0_2 a0_3 a0_4 l0_5 a0_6 a0_7 a0_8 l0_9 a0_3 a0_4 l0_5 a0_6 a0_7 a0_8 l0_9 = some r) ∧ Aside0 (kq ≤ kj93) ∧ Aside0 (wc.heap[gb823]? = some (.cells #[.int .i64 a0_0, .string a0_1, .string a0_2, .int .i64 a0_3, .string a0_4, (.slice A0_5 l0_5.length c0_5), .int .i64 a0_6, .string a0_7, .string a0_8, (.slice A0_9 l0_9.length c0_9)] 34 (0, 0))) ∧ Aside0 (wc.heap[gb824]? = some (.cells #[.int .i64 a0_3, .string a0_4, (.slice A0_5 l0_5.length c0_5), .int .i64 a0_6, .string a0_7, .string a0_8, (.slice A0_9 l0_9.length c0_9)] 32 (0, 0))) ∧ Aside0 (Below w.heap.size w wc))
     case first =>
      have H := HC108.out
      clear HC108
      by_cases c109 : a0_0 = 1
      ·rw [if_pos c109] at H
       have c109b0 : (a0_0 == 1) = true := beq_iff_eq.mpr c109
       have c109b1 : (a0_0 != 1) = false := bne_eq_false_iff_eq.mpr c109
       clear c109
       (first | rw [c109b0] | (simp only [i64_w, i32_w]; rw [c109b0]) | rw [c109b1] | rw [c109b2] | skip)
       have H' := Aside0.mk H
       clear H
       have hnb110 := NB823_824.out
       have hnc110 := NB824_823.out
       obtain ⟨hcz111_0, hcz111_1, hcz111_2, hcz111_3, hcz111_4, hcz111_5, hcz111_6, hcz111_7, hcz111_8, hcz111_9, hfz111_0, hfz111_1, hfz111_2, hfz111_3, hfz111_4, hfz111_5, hfz111_6, hfz111_7, hfz111_8, hfz111_9⟩ := cells10 BK823.out
       obtain ⟨hcz112_0, hcz112_1, hcz112_2, hcz112_3, hcz112_4, hcz112_5, hcz112_6, hfz112_0, hfz112_1, hfz112_2, hfz112_3, hfz112_4, hfz112_5, hfz112_6⟩ := cells7 BK824.out
       go_wp2
       go_meet
       case rel => exact ⟨_, ((a0_3 == 2)), (by first | rfl | (simp; done) | (simp [*]; done)), H', ⟨by have := HJ1.out; have := HJ39.out; have := HJ61.out; have := HJ72.out; have := HJ93.out; first | omega | exact Nat.le_refl _⟩, ⟨by (with_reducible repeat (first | refine blk_drewN ?_ _ | refine blk_drew ?_ | refine blk_alloc ?_ _)); exact BK823.out⟩, ⟨by (with_reducible repeat (first | refine blk_drewN ?_ _ | refine blk_drew ?_ | refine blk_alloc ?_ _)); exact BK824.out⟩, ⟨by repeat (first | (with_reducible first | exact HB.out | apply below_alloc | apply pw_below_drewN | apply below_drew1 | refine below_set ?_ GE823.out | refine below_set ?_ GE824.out) | exact HB.out)⟩⟩
      ·rw [if_neg c109] at H
       have c109b0 : (a0_0 == 1) = false := beq_eq_false_iff_ne.mpr c109
       have c109b1 : (a0_0 != 1) = true := bne_iff_ne.mpr c109
       (first | rw [c109b0] | (simp only [i64_w, i32_w]; rw [c109b0]) | rw [c109b1] | rw [c109b2] | skip)
       have H' := Aside0.mk H
       clear H
       have hnb113 := NB823_824.out
       have hnc113 := NB824_823.out
       obtain ⟨hcz114_0, hcz114_1, hcz114_2, hcz114_3, hcz114_4, hcz114_5, hcz114_6, hcz114_7, hcz114_8, hcz114_9, hfz114_0, hfz114_1, hfz114_2, hfz114_3, hfz114_4, hfz114_5, hfz114_6, hfz114_7, hfz114_8, hfz114_9⟩ := cells10 BK823.out
       go_wp2
       go_meet
       case rel => exact ⟨_, (false), (by first | rfl | (simp; done) | (simp [*]; done)), H', ⟨by have := HJ1.out; have := HJ39.out; have := HJ61.out; have := HJ72.out; have := HJ93.out; first | omega | exact Nat.le_refl _⟩, ⟨by (with_reducible repeat (first | refine blk_drewN ?_ _ | refine blk_drew ?_ | refine blk_alloc ?_ _)); exact BK823.out⟩, ⟨by (with_reducible repeat (first | refine blk_drewN ?_ _ | refine blk_drew ?_ | refine blk_alloc ?_ _)); exact BK824.out⟩, ⟨by repeat (first | (with_reducible first | exact HB.out | apply below_alloc | apply pw_below_drewN | apply below_drew1 | refine below_set ?_ GE823.out | refine below_set ?_ GE824.out) | exact HB.out)⟩⟩
     case rest =>
      clear HC108
      try clear c103
      try clear hcz7_0 hcz7_1 hcz7_2 hcz7_3 hcz7_4 hcz7_5 hcz7_6 hfz7_0 hfz7_1 hfz7_2 hfz7_3 hfz7_4 hfz7_5 hfz7_6
      try clear hcz8_0 hcz8_1 hcz8_2 hcz8_3 hcz8_4 hcz8_5 hcz8_6 hcz8_7 hcz8_8 hcz8_9 hfz8_0 hfz8_1 hfz8_2 hfz8_3 hfz8_4 hfz8_5 hfz8_6 hfz8_7 hfz8_8 hfz8_9
      try clear hcz96_0 hcz96_1 hcz96_2 hcz96_3 hcz96_4 hcz96_5 hcz96_6 hfz96_0 hfz96_1 hfz96_2 hfz96_3 hfz96_4 hfz96_5 hfz96_6
      try clear hfz42_0 hfz42_1 hfz42_2 hfz42_3 hfz42_4 hfz42_5 hfz42_6 hfz42_7 hfz42_8 hfz42_9
      try clear hfz4_0 hfz4_1 hfz4_2 hfz4_3 hfz4_4 hfz4_5 hfz4_6 hfz4_7 hfz4_8 hfz4_9
      obtain ⟨kq, x118_107, rfl, HA, HJ107, BK823, BK824, HB⟩ := hcut
      cases kq with
      | zero => exact absurd HA.out (by simp [rafterref35_Line.j5])
      | succ kj107 =>
       have H := HA.out
       clear HA
       simp only [rafterref35_Line.j5] at H
       by_cases c115 : x118_107 = true
       ·subst c115
        have H1 : (some (([(⟨#[117, 110, 114, 101, 99, 111, 114, 100]⟩ : ByteArray), a0_1, a0_4] : List ByteArray))) = some r := by rw [if_pos rfl] at H; exact H
        clear H
        have H := H1
        clear H1
        obtain ⟨y845, hy845⟩ : ∃ y_ : List ByteArray, y_ = (([(⟨#[117, 110, 114, 101, 99, 111, 114, 100]⟩ : ByteArray), a0_1, a0_4] : List ByteArray)) := ⟨_, rfl⟩
        replace H : (some y845) = some r := by first | (rw [hy845]; with_reducible exact H) | (have H2_ := (Option.bind_some _ _).symm.trans H; rw [hy845]; with_reducible exact H2_) | (have H2_ := (Option.bind_some _ _).symm.trans H; with_reducible exact H2_) | with_reducible exact H | (rw [hy845]; exact H) | exact H
        have Ny845 := Aside0.mk hy845
        clear hy845
        obtain rfl := Option.some.inj H
        have hnb116 := NB824_823.out
        have hnc116 := NB823_824.out
        obtain ⟨hcz117_0, hcz117_1, hcz117_2, hcz117_3, hcz117_4, hcz117_5, hcz117_6, hfz117_0, hfz117_1, hfz117_2, hfz117_3, hfz117_4, hfz117_5, hfz117_6⟩ := cells7 BK824.out
        go_wp2_with (first | ((with_reducible refine gate_dst (N := 122) rfl ?_); (try (refine gate_guard (by rfl) ?_; dsimp only)); refine Kd.R_lit Kd.string _ 9 ?hg (N := 122) ?hd (xs := ([(⟨#[117, 110, 114, 101, 99, 111, 114, 100]⟩ : ByteArray), a0_1, a0_4] : List ByteArray)) (inner := [.string (⟨#[117, 110, 114, 101, 99, 111, 114, 100]⟩ : ByteArray), .string a0_1, .string a0_4]) (ok := fun _ => True) (okp := fun _ => True) ?hr ?hp (fun _ hk => hk) trivial (Below.refl _ _) (Nat.le_refl _) (by simp) ?_; (case hd => rfl); (case hg => rfl); (case hr => first | (go_simp; done) | (go_simp; rfl)); (case hp => exact (Reps.one (show Kd.M Kd.string _ _ _ (⟨#[117, 110, 114, 101, 99, 111, 114, 100]⟩ : ByteArray) [.string (⟨#[117, 110, 114, 101, 99, 111, 114, 100]⟩ : ByteArray)] from rfl) (Reps.one (show Kd.M Kd.string _ _ _ a0_1 [.string a0_1] from rfl) (Reps.one (show Kd.M Kd.string _ _ _ a0_4 [.string a0_4] from rfl) (Reps.none _ _))))); intro v846 w118 ho119 hb hg_ hnew_; clear hg_ hnew_; (first | rw [← Ny845.out] at ho119 | (simp only [Int.reduceToNat] at ho119; rw [← Ny845.out] at ho119)); have n0_ := Aside0.mk (Kd.R_lower ho119 (below_size (by repeat (first | (with_reducible first | exact HB.out | apply below_alloc | apply pw_below_drewN | apply below_drew1 | refine below_set ?_ GE823.out | refine below_set ?_ GE824.out) | exact HB.out)))); have n1_ := Aside0.mk (blk_below (g := gb823) (o := .cells #[.int .i64 a0_0, .string a0_1, .string a0_2, .int .i64 a0_3, .string a0_4, .slice A0_5 l0_5.length c0_5, .int .i64 a0_6, .string a0_7, .string a0_8, .slice A0_9 l0_9.length c0_9] 34 (0, 0)) (by (with_reducible repeat (first | refine blk_drewN ?_ _ | refine blk_drew ?_ | refine blk_alloc ?_ _)); exact BK823.out) hb); have n2_ := Aside0.mk (blk_below (g := gb824) (o := .cells #[.int .i64 a0_3, .string a0_4, .slice A0_5 l0_5.length c0_5, .int .i64 a0_6, .string a0_7, .string a0_8, .slice A0_9 l0_9.length c0_9] 32 (0, 0)) (by (with_reducible repeat (first | refine blk_drewN ?_ _ | refine blk_drew ?_ | refine blk_alloc ?_ _)); exact BK824.out) hb); have n3_ := Aside0.mk (below_step (by repeat (first | (with_reducible first | exact HB.out | apply below_alloc | apply pw_below_drewN | apply below_drew1 | refine below_set ?_ GE823.out | refine below_set ?_ GE824.out) | exact HB.out)) hb); clear BK823; clear BK824; clear HB; have HO847 := n0_; have BK823 := n1_; have BK824 := n2_; have HB := n3_; clear n0_ n1_ n2_ n3_; clear hb ho119))
        go_ret
        exact ⟨_, by first | rfl | (simp [errW_none, errW_some] <;> rfl) | (simp [*, errW_none, errW_some] <;> rfl), by (with_reducible repeat (first | apply Kd.R_alloc | apply Kd.R_drewN | apply Kd.R_drew)); exact HO847.out, by repeat (first | (with_reducible first | exact HB.out | apply below_alloc | apply pw_below_drewN | apply below_drew1 | refine below_set ?_ GE823.out | refine below_set ?_ GE824.out) | exact HB.out)⟩
       ·replace c115 := Bool.eq_false_iff.mpr c115
        subst c115
        have H1 : (if a0_4.toList = ([] : List UInt8) then (if a0_0 = 1 then (rafterref35_Line.j6 kj107 a0_1 (a0_3 == 5) a0_0 a0_1 a0_2 a0_3 a0_4 l0_5 a0_6 a0_7 a0_8 l0_9 a0_3 a0_4 l0_5 a0_6 a0_7 a0_8 l0_9) else (rafterref35_Line.j6 kj107 a0_1 false a0_0 a0_1 a0_2 a0_3 a0_4 l0_5 a0_6 a0_7 a0_8 l0_9 a0_3 a0_4 l0_5 a0_6 a0_7 a0_8 l0_9)) else (some ([] : List ByteArray))) = some r := by rw [if_neg (show ¬ (false = true) by decide)] at H; exact H
        clear H
        have H := H1
        clear H1
        by_cases c120 : a0_4.toList = ([] : List UInt8)
        ·rw [if_pos c120] at H
         have c120b0 : (a0_4.toList == ([] : List UInt8)) = true := beq_iff_eq.mpr c120
         have c120b1 : (a0_4.toList != ([] : List UInt8)) = false := bne_eq_false_iff_eq.mpr c120
         clear c120
         have HC121 := Aside0.mk H
         clear H
         have hnb122 := NB824_823.out
         have hnc122 := NB823_824.out
         obtain ⟨hcz123_0, hcz123_1, hcz123_2, hcz123_3, hcz123_4, hcz123_5, hcz123_6, hfz123_0, hfz123_1, hfz123_2, hfz123_3, hfz123_4, hfz123_5, hfz123_6⟩ := cells7 BK824.out
         go_upto_region 21 with (fail)
         rename_i a_x1 _ a_x
         exact rafterref35_Line.part21 GW823 GE823 GW824 GE824 NB823_824 NB824_823 HJ1 HJ39 HJ61 HJ72 HJ93 BK823 BK824 HB HJ107 c120b0 c120b1 HC121 hcz123_0 hcz123_1 hcz123_2 hcz123_3 hcz123_4 hcz123_5 hcz123_6 hfz123_0 hfz123_1 hfz123_2 hfz123_3 hfz123_4 hfz123_5 hfz123_6 rfl a_x1 a_x
        ·rw [if_neg c120] at H
         have c120b0 : (a0_4.toList == ([] : List UInt8)) = false := beq_eq_false_iff_ne.mpr c120
         have c120b1 : (a0_4.toList != ([] : List UInt8)) = true := bne_iff_ne.mpr c120
         obtain rfl := Option.some.inj H
         have hnb181 := NB824_823.out
         have hnc181 := NB823_824.out
         obtain ⟨hcz182_0, hcz182_1, hcz182_2, hcz182_3, hcz182_4, hcz182_5, hcz182_6, hfz182_0, hfz182_1, hfz182_2, hfz182_3, hfz182_4, hfz182_5, hfz182_6⟩ := cells7 BK824.out
         go_wp2
         go_ret
         exact ⟨_, by first | rfl | (simp [errW_none, errW_some] <;> rfl) | (simp [*, errW_none, errW_some] <;> rfl), by first | exact Kd.R_nil _ _ _ _ _ | exact Kd.N_nil _ _ _ _ _ | exact Kd.V_nil _ _ _ _ _ | exact Kd.Q_nil _ _ _ _ _ | exact Kd.S_nil _ _ _ _ _, by repeat (first | (with_reducible first | exact HB.out | apply below_alloc | apply pw_below_drewN | apply below_drew1 | refine below_set ?_ GE823.out | refine below_set ?_ GE824.out) | exact HB.out)⟩
set_option maxHeartbeats 100000000 in
set_option maxRecDepth 100000 in
theorem rafterref35_Line.part9 {k : Nat}
  {a0_0 : Int}
  {a0_1 a0_2 : ByteArray}
  {a0_3 : Int}
  {a0_4 : ByteArray}
  {A0_5 : Option Addr}
  {c0_5 : Nat}
  {l0_5 : List ByteArray}
  {a0_6 : Int}
  {a0_7 a0_8 : ByteArray}
  {A0_9 : Option Addr}
  {c0_9 : Nat}
  {l0_9 r : List ByteArray}
  {w : World}
  (HR0_5 : Aside0 (Kd.string.C w A0_5 l0_5.length l0_5))
  (HR0_9 : Aside0 (Kd.string.C w A0_9 l0_9.length l0_9))
  (HC0_9 : Aside0 (l0_9.length ≤ c0_9))
  {gb823 : Nat}
  (GW823 : Aside0 (w.heap.size ≤ gb823))
  (GE823 : Aside0 (w.heap.size ≤ gb823))
  {gb824 : Nat}
  (GW824 : Aside0 (w.heap.size ≤ gb824))
  (GE824 : Aside0 (w.heap.size ≤ gb824))
  (NB823_824 : Aside0 (gb823 ≠ gb824))
  (NB824_823 : Aside0 (gb824 ≠ gb823))
  {kj1 : Nat}
  (HJ1 : Aside0 (kj1 + 1 ≤ k))
  {wc : World}
  {u6 u7 u8 u9 u10 u11 u12 u13 u14 u15 u16 u17 u18 u19 u20 u21 u22 u23 u24 u25 u26 u27 u28 u29 u30 u31 u32 u33 u34 u35 u36 u37 u38 u39 u40 u41 u42 u43 u44 u45 u46 u47 u48 u49 u50 u51 u52 u53 u54 u55 u56 u57 u58 u59 u60 u61 u63 u64 u65 u66 u67 u68 u69 u70 u71 u72 u73 u74 u75 u76 u77 u78 u79 u80 u81 u82 u83 u84 u85 u86 u87 u88 u89 u90 u91 u92 u93 u94 u95 u96 u97 u98 u99 u100 u101 u102 u103 u104 u105 u106 u107 u108 u109 u110 u111 u112 u113 u114 u115 u116 u117 u118 u119 u120 u121 u122 u123 u124 u125 u126 u127 u128 u129 u130 u131 u132 u133 u134 u135 u136 u137 u138 u139 u140 u141 u142 u143 u144 u145 u146 u147 u148 u149 u150 u151 u152 u153 u154 u155 u156 u157 u158 u159 u160 u161 u162 u163 u164 u165 u166 u167 u168 u169 u170 u171 u172 u173 u174 u175 u176 u177 u178 u179 u180 u181 u182 : Value}
  (BK823 : Aside0 (wc.heap[gb823]? = some (Obj.cells #[Value.int IntKind.i64 a0_0, Value.string a0_1, Value.string a0_2, Value.int IntKind.i64 a0_3, Value.string a0_4, Value.slice A0_5 l0_5.length c0_5, Value.int IntKind.i64 a0_6, Value.string a0_7, Value.string a0_8, Value.slice A0_9 l0_9.length c0_9] 34)))
  (BK824 : Aside0 (wc.heap[gb824]? = some (Obj.cells #[Value.int IntKind.i64 a0_3, Value.string a0_4, Value.slice A0_5 l0_5.length c0_5, Value.int IntKind.i64 a0_6, Value.string a0_7, Value.string a0_8, Value.slice A0_9 l0_9.length c0_9] 32)))
  (HB : Aside0 (Below w.heap.size w wc))
  {kj39 : Nat}
  (HJ39 : Aside0 (kj39 + 1 ≤ kj1))
  (HC62 : Aside0 (((rafterref35_none.f a0_6 a0_7 a0_8 l0_9).bind fun t835 => if t835 = true then j2 kj39 a0_1 (a0_6 != 0) a0_0 a0_1 a0_2 a0_3 a0_4 l0_5 a0_6 a0_7 a0_8 l0_9 a0_3 a0_4 l0_5 a0_6 a0_7 a0_8 l0_9 else j2 kj39 a0_1 true a0_0 a0_1 a0_2 a0_3 a0_4 l0_5 a0_6 a0_7 a0_8 l0_9 a0_3 a0_4 l0_5 a0_6 a0_7 a0_8 l0_9) = some r))
  {K_x1 : Act → World → Prop}
  {Qp_x : Exit → Act → World → Prop}
  (hQ_ : Qp_x = bodyPost Tryd.prog Tryd.f17 fun e w' => ∃ v0_, e = Ending.returned v0_ ∧ Kd.string.R 9 w' w.heap.size (fun x => True) v0_ r ∧ Below w.heap.size w w')
  (a_x1 : ∀ (a : Act) (w : World), Code.wp Tryd.prog (cr (cr (cr (cr (cr (cr (cr (cp Tryd.f17)))))))) Qp_x a w → K_x1 a w)
  {K_x : Act → World → Prop}
  (a_x : ∀ (a : Act) (w : World), Code.wp Tryd.prog (cr (cl (cr (cr (cr (cr (cr (cr (cp Tryd.f17))))))))) (Exit.then K_x1 Qp_x) a w → K_x a w) :
  Code.wp Tryd.prog (cl (cl (cr (cr (cr (cr (cr (cr (cp Tryd.f17))))))))) (Exit.then K_x (Exit.then K_x1 Qp_x)) { tmps := List.toArray ((Value.agg #[Value.int IntKind.i64 a0_0, Value.string a0_1, Value.string a0_2, Value.int IntKind.i64 a0_3, Value.string a0_4, Value.slice A0_5 l0_5.length c0_5, Value.int IntKind.i64 a0_6, Value.string a0_7, Value.string a0_8, Value.slice A0_9 l0_9.length c0_9]) :: (Value.pointer (some { block := gb823, off := 0 })) :: (Value.slice none 0 0) :: (Value.pointer (some { block := gb824, off := 0 })) :: (Value.string a0_1) :: undef :: u6 :: u7 :: u8 :: u9 :: u10 :: u11 :: u12 :: u13 :: u14 :: u15 :: u16 :: u17 :: u18 :: u19 :: u20 :: u21 :: u22 :: u23 :: u24 :: u25 :: u26 :: u27 :: u28 :: u29 :: u30 :: u31 :: u32 :: u33 :: u34 :: u35 :: u36 :: u37 :: u38 :: u39 :: u40 :: u41 :: u42 :: u43 :: u44 :: u45 :: u46 :: u47 :: u48 :: u49 :: u50 :: u51 :: u52 :: u53 :: u54 :: u55 :: u56 :: u57 :: u58 :: u59 :: u60 :: u61 :: (Value.bool false) :: u63 :: u64 :: u65 :: u66 :: u67 :: u68 :: u69 :: u70 :: u71 :: u72 :: u73 :: u74 :: u75 :: u76 :: u77 :: u78 :: u79 :: u80 :: u81 :: u82 :: u83 :: u84 :: u85 :: u86 :: u87 :: u88 :: u89 :: u90 :: u91 :: u92 :: u93 :: u94 :: u95 :: u96 :: u97 :: u98 :: u99 :: u100 :: u101 :: u102 :: u103 :: u104 :: u105 :: u106 :: u107 :: u108 :: u109 :: u110 :: u111 :: u112 :: u113 :: u114 :: u115 :: u116 :: u117 :: u118 :: u119 :: u120 :: u121 :: u122 :: u123 :: u124 :: u125 :: u126 :: u127 :: u128 :: u129 :: u130 :: u131 :: u132 :: u133 :: u134 :: u135 :: u136 :: u137 :: u138 :: u139 :: u140 :: u141 :: u142 :: u143 :: u144 :: u145 :: u146 :: u147 :: u148 :: u149 :: u150 :: u151 :: u152 :: u153 :: u154 :: u155 :: u156 :: u157 :: u158 :: u159 :: u160 :: u161 :: u162 :: u163 :: u164 :: u165 :: u166 :: u167 :: u168 :: u169 :: u170 :: u171 :: u172 :: u173 :: u174 :: u175 :: u176 :: u177 :: u178 :: u179 :: u180 :: u181 :: u182 :: []), defers := [] } wc := by
  dsimp only [cp, cl, cr, Tryd.f17] at a_x1 a_x ⊢
  subst hQ_
  go_cut [76] (fun v76 wc => ∃ (kq : Nat) (x76_61 : Bool), v76 = .bool x76_61 ∧ Aside0 (rafterref35_Line.j2 kq a0_1 x76_61 a0_0 a0_1 a0_2 a0_3 a0_4 l0_5 a0_6 a0_7 a0_8 l0_9 a0_3 a0_4 l0_5 a0_6 a0_7 a0_8 l0_9 = some r) ∧ Aside0 (kq ≤ kj39) ∧ Aside0 (wc.heap[gb823]? = some (.cells #[.int .i64 a0_0, .string a0_1, .string a0_2, .int .i64 a0_3, .string a0_4, (.slice A0_5 l0_5.length c0_5), .int .i64 a0_6, .string a0_7, .string a0_8, (.slice A0_9 l0_9.length c0_9)] 34 (0, 0))) ∧ Aside0 (wc.heap[gb824]? = some (.cells #[.int .i64 a0_3, .string a0_4, (.slice A0_5 l0_5.length c0_5), .int .i64 a0_6, .string a0_7, .string a0_8, (.slice A0_9 l0_9.length c0_9)] 32 (0, 0))) ∧ Aside0 (Below w.heap.size w wc))
  case first =>
   have H := HC62.out
   clear HC62
   replace H := Option.bind_eq_some_iff.mp H
   obtain ⟨t835, A630, H⟩ := H
   replace H : (if t835 = true then (rafterref35_Line.j2 kj39 a0_1 (a0_6 != 0) a0_0 a0_1 a0_2 a0_3 a0_4 l0_5 a0_6 a0_7 a0_8 l0_9 a0_3 a0_4 l0_5 a0_6 a0_7 a0_8 l0_9) else (rafterref35_Line.j2 kj39 a0_1 true a0_0 a0_1 a0_2 a0_3 a0_4 l0_5 a0_6 a0_7 a0_8 l0_9 a0_3 a0_4 l0_5 a0_6 a0_7 a0_8 l0_9)) = some r := H
   have A63 := Aside0.mk A630
   clear A630
   by_cases c64 : t835 = true
   ·subst c64
    have H1 : (rafterref35_Line.j2 kj39 a0_1 (a0_6 != 0) a0_0 a0_1 a0_2 a0_3 a0_4 l0_5 a0_6 a0_7 a0_8 l0_9 a0_3 a0_4 l0_5 a0_6 a0_7 a0_8 l0_9) = some r := by rw [if_pos rfl] at H; exact H
    clear H
    have H := H1
    clear H1
    have H' := Aside0.mk H
    clear H
    have hnb65 := NB824_823.out
    have hnc65 := NB823_824.out
    obtain ⟨hcz66_0, hcz66_1, hcz66_2, hcz66_3, hcz66_4, hcz66_5, hcz66_6, hfz66_0, hfz66_1, hfz66_2, hfz66_3, hfz66_4, hfz66_5, hfz66_6⟩ := cells7 BK824.out
    go_wp2_with (first | ((with_reducible refine gate_callee (f := 59) rfl ?_); refine goesL_ (some 69) rfl rfl Tryd.func59 (by kernel_rfl) rfl #[.agg #[.int .i64 a0_6, .string a0_7, .string a0_8, .slice A0_9 l0_9.length c0_9]] rfl (by (try simp only [List.map_toArray, List.map_cons, List.map_nil]); first | done | rfl | (simp only [List.length_drop, List.length_take]; rfl) | ((repeat rw [IntWalk.u64_in]) <;> first | rfl | omega)) ?_; (with_reducible refine (rafterref35_none.calls a0_6 a0_7 a0_8 _ _ l0_9 true _ ?side1 ?side2 A63.out).mono ?_); (case side1 => repeat (first | exact (Kd.C_below HR0_9.out HB.out) | (with_reducible refine Kd.C_alloc ?_ _) | (with_reducible refine Kd.C_drewN ?_ _) | (with_reducible refine Kd.C_drew ?_))); (case side2 => exact HC0_9.out); rintro e w67 ⟨rfl, hb⟩; refine ⟨_, rfl, ?_⟩; have n0_ := Aside0.mk (blk_below (g := gb823) (o := .cells #[.int .i64 a0_0, .string a0_1, .string a0_2, .int .i64 a0_3, .string a0_4, .slice A0_5 l0_5.length c0_5, .int .i64 a0_6, .string a0_7, .string a0_8, .slice A0_9 l0_9.length c0_9] 34 (0, 0)) (by (with_reducible repeat (first | refine blk_drewN ?_ _ | refine blk_drew ?_ | refine blk_alloc ?_ _)); exact BK823.out) hb); have n1_ := Aside0.mk (blk_below (g := gb824) (o := .cells #[.int .i64 a0_3, .string a0_4, .slice A0_5 l0_5.length c0_5, .int .i64 a0_6, .string a0_7, .string a0_8, .slice A0_9 l0_9.length c0_9] 32 (0, 0)) (by (with_reducible repeat (first | refine blk_drewN ?_ _ | refine blk_drew ?_ | refine blk_alloc ?_ _)); exact BK824.out) hb); have n2_ := Aside0.mk (below_step (by repeat (first | (with_reducible first | exact HB.out | apply below_alloc | apply pw_below_drewN | apply below_drew1 | refine below_set ?_ GE823.out | refine below_set ?_ GE824.out) | exact HB.out)) hb); clear BK823; clear BK824; clear HB; have BK823 := n0_; have BK824 := n1_; have HB := n2_; clear n0_ n1_ n2_; (try clear hb); (try clear hb2); (try clear hk); (try clear hi); have hcz68_0 : w67.cell? ⟨gb824, 0, none⟩ = some (.int .i64 a0_3) := (blk_cell BK824.out 0).trans rfl; have hcz68_1 : w67.cell? ⟨gb824, 1, none⟩ = some (.string a0_4) := (blk_cell BK824.out 1).trans rfl; have hcz68_2 : w67.cell? ⟨gb824, 2, none⟩ = some (.slice A0_5 l0_5.length c0_5) := (blk_cell BK824.out 2).trans rfl; have hcz68_3 : w67.cell? ⟨gb824, 3, none⟩ = some (.int .i64 a0_6) := (blk_cell BK824.out 3).trans rfl; have hcz68_4 : w67.cell? ⟨gb824, 4, none⟩ = some (.string a0_7) := (blk_cell BK824.out 4).trans rfl; have hcz68_5 : w67.cell? ⟨gb824, 5, none⟩ = some (.string a0_8) := (blk_cell BK824.out 5).trans rfl; have hcz68_6 : w67.cell? ⟨gb824, 6, none⟩ = some (.slice A0_9 l0_9.length c0_9) := (blk_cell BK824.out 6).trans rfl; have hfz68_0 := blk_frozen BK824.out 0; have hfz68_1 := blk_frozen BK824.out 1; have hfz68_2 := blk_frozen BK824.out 2; have hfz68_3 := blk_frozen BK824.out 3; have hfz68_4 := blk_frozen BK824.out 4; have hfz68_5 := blk_frozen BK824.out 5; have hfz68_6 := blk_frozen BK824.out 6))
    go_meet
    case rel => exact ⟨_, ((a0_6 != 0)), (by first | rfl | (simp; done) | (simp [*]; done)), H', ⟨by have := HJ1.out; have := HJ39.out; first | omega | exact Nat.le_refl _⟩, ⟨by (with_reducible repeat (first | refine blk_drewN ?_ _ | refine blk_drew ?_ | refine blk_alloc ?_ _)); exact BK823.out⟩, ⟨by (with_reducible repeat (first | refine blk_drewN ?_ _ | refine blk_drew ?_ | refine blk_alloc ?_ _)); exact BK824.out⟩, ⟨by repeat (first | (with_reducible first | exact HB.out | apply below_alloc | apply pw_below_drewN | apply below_drew1 | refine below_set ?_ GE823.out | refine below_set ?_ GE824.out) | exact HB.out)⟩⟩
   ·replace c64 := Bool.eq_false_iff.mpr c64
    subst c64
    have H1 : (rafterref35_Line.j2 kj39 a0_1 true a0_0 a0_1 a0_2 a0_3 a0_4 l0_5 a0_6 a0_7 a0_8 l0_9 a0_3 a0_4 l0_5 a0_6 a0_7 a0_8 l0_9) = some r := by rw [if_neg (show ¬ (false = true) by decide)] at H; exact H
    clear H
    have H := H1
    clear H1
    have H' := Aside0.mk H
    clear H
    have hnb69 := NB824_823.out
    have hnc69 := NB823_824.out
    obtain ⟨hcz70_0, hcz70_1, hcz70_2, hcz70_3, hcz70_4, hcz70_5, hcz70_6, hfz70_0, hfz70_1, hfz70_2, hfz70_3, hfz70_4, hfz70_5, hfz70_6⟩ := cells7 BK824.out
    go_wp2_with (first | ((with_reducible refine gate_callee (f := 59) rfl ?_); refine goesL_ (some 69) rfl rfl Tryd.func59 (by kernel_rfl) rfl #[.agg #[.int .i64 a0_6, .string a0_7, .string a0_8, .slice A0_9 l0_9.length c0_9]] rfl (by (try simp only [List.map_toArray, List.map_cons, List.map_nil]); first | done | rfl | (simp only [List.length_drop, List.length_take]; rfl) | ((repeat rw [IntWalk.u64_in]) <;> first | rfl | omega)) ?_; (with_reducible refine (rafterref35_none.calls a0_6 a0_7 a0_8 _ _ l0_9 false _ ?side1 ?side2 A63.out).mono ?_); (case side1 => repeat (first | exact (Kd.C_below HR0_9.out HB.out) | (with_reducible refine Kd.C_alloc ?_ _) | (with_reducible refine Kd.C_drewN ?_ _) | (with_reducible refine Kd.C_drew ?_))); (case side2 => exact HC0_9.out); rintro e w71 ⟨rfl, hb⟩; refine ⟨_, rfl, ?_⟩; have n0_ := Aside0.mk (blk_below (g := gb823) (o := .cells #[.int .i64 a0_0, .string a0_1, .string a0_2, .int .i64 a0_3, .string a0_4, .slice A0_5 l0_5.length c0_5, .int .i64 a0_6, .string a0_7, .string a0_8, .slice A0_9 l0_9.length c0_9] 34 (0, 0)) (by (with_reducible repeat (first | refine blk_drewN ?_ _ | refine blk_drew ?_ | refine blk_alloc ?_ _)); exact BK823.out) hb); have n1_ := Aside0.mk (blk_below (g := gb824) (o := .cells #[.int .i64 a0_3, .string a0_4, .slice A0_5 l0_5.length c0_5, .int .i64 a0_6, .string a0_7, .string a0_8, .slice A0_9 l0_9.length c0_9] 32 (0, 0)) (by (with_reducible repeat (first | refine blk_drewN ?_ _ | refine blk_drew ?_ | refine blk_alloc ?_ _)); exact BK824.out) hb); have n2_ := Aside0.mk (below_step (by repeat (first | (with_reducible first | exact HB.out | apply below_alloc | apply pw_below_drewN | apply below_drew1 | refine below_set ?_ GE823.out | refine below_set ?_ GE824.out) | exact HB.out)) hb); clear BK823; clear BK824; clear HB; have BK823 := n0_; have BK824 := n1_; have HB := n2_; clear n0_ n1_ n2_; (try clear hb); (try clear hb2); (try clear hk); (try clear hi)))
    go_meet
    case rel => exact ⟨_, (true), (by first | rfl | (simp; done) | (simp [*]; done)), H', ⟨by have := HJ1.out; have := HJ39.out; first | omega | exact Nat.le_refl _⟩, ⟨by (with_reducible repeat (first | refine blk_drewN ?_ _ | refine blk_drew ?_ | refine blk_alloc ?_ _)); exact BK823.out⟩, ⟨by (with_reducible repeat (first | refine blk_drewN ?_ _ | refine blk_drew ?_ | refine blk_alloc ?_ _)); exact BK824.out⟩, ⟨by repeat (first | (with_reducible first | exact HB.out | apply below_alloc | apply pw_below_drewN | apply below_drew1 | refine below_set ?_ GE823.out | refine below_set ?_ GE824.out) | exact HB.out)⟩⟩
  case rest =>
   clear HC62
   try clear c31
   try clear c39
   try clear c39b0
   try clear c39b1
   try clear c57
   try clear hcz42_0 hcz42_1 hcz42_2 hcz42_3 hcz42_4 hcz42_5 hcz42_6 hcz42_7 hcz42_8 hcz42_9 hfz42_0 hfz42_1 hfz42_2 hfz42_3 hfz42_4 hfz42_5 hfz42_6 hfz42_7 hfz42_8 hfz42_9
   try clear hcz4_0 hcz4_1 hcz4_2 hcz4_3 hcz4_4 hcz4_5 hcz4_6 hcz4_7 hcz4_8 hcz4_9 hfz4_0 hfz4_1 hfz4_2 hfz4_3 hfz4_4 hfz4_5 hfz4_6 hfz4_7 hfz4_8 hfz4_9
   try clear hcz7_0 hcz7_1 hcz7_2 hcz7_3 hcz7_4 hcz7_5 hcz7_6 hfz7_0 hfz7_1 hfz7_2 hfz7_3 hfz7_4 hfz7_5 hfz7_6
   try clear hcz8_0 hcz8_1 hcz8_2 hcz8_3 hcz8_4 hcz8_5 hcz8_6 hcz8_7 hcz8_8 hcz8_9 hfz8_0 hfz8_1 hfz8_2 hfz8_3 hfz8_4 hfz8_5 hfz8_6 hfz8_7 hfz8_8 hfz8_9
   obtain ⟨kq, x76_61, rfl, HA, HJ61, BK823, BK824, HB⟩ := hcut
   cases kq with
   | zero => exact absurd HA.out (by simp [rafterref35_Line.j2])
   | succ kj61 =>
    have H := HA.out
    clear HA
    simp only [rafterref35_Line.j2] at H
    by_cases c72 : x76_61 = true
    ·subst c72
     have H1 : (some ([] : List ByteArray)) = some r := by rw [if_pos rfl] at H; exact H
     clear H
     have H := H1
     clear H1
     obtain rfl := Option.some.inj H
     go_wp2
     go_ret
     exact ⟨_, by first | rfl | (simp [errW_none, errW_some] <;> rfl) | (simp [*, errW_none, errW_some] <;> rfl), by first | exact Kd.R_nil _ _ _ _ _ | exact Kd.N_nil _ _ _ _ _ | exact Kd.V_nil _ _ _ _ _ | exact Kd.Q_nil _ _ _ _ _ | exact Kd.S_nil _ _ _ _ _, by repeat (first | (with_reducible first | exact HB.out | apply below_alloc | apply pw_below_drewN | apply below_drew1 | refine below_set ?_ GE823.out | refine below_set ?_ GE824.out) | exact HB.out)⟩
    ·replace c72 := Bool.eq_false_iff.mpr c72
     subst c72
     have H1 : (if a0_0 = 1 then (if a0_3 = 4 then (rafterref35_Line.j3 kj61 a0_1 (a0_4.toList == ([] : List UInt8)) a0_0 a0_1 a0_2 a0_3 a0_4 l0_5 a0_6 a0_7 a0_8 l0_9 a0_3 a0_4 l0_5 a0_6 a0_7 a0_8 l0_9) else (rafterref35_Line.j3 kj61 a0_1 false a0_0 a0_1 a0_2 a0_3 a0_4 l0_5 a0_6 a0_7 a0_8 l0_9 a0_3 a0_4 l0_5 a0_6 a0_7 a0_8 l0_9)) else (rafterref35_Line.j3 kj61 a0_1 false a0_0 a0_1 a0_2 a0_3 a0_4 l0_5 a0_6 a0_7 a0_8 l0_9 a0_3 a0_4 l0_5 a0_6 a0_7 a0_8 l0_9)) = some r := by rw [if_neg (show ¬ (false = true) by decide)] at H; exact H
     clear H
     have H := H1
     clear H1
     have HC73 := Aside0.mk H
     clear H
     go_upto_region 11 with (fail)
     go_cut [89] (fun v89 wc => ∃ (kq : Nat) (x89_72 : Bool), v89 = .bool x89_72 ∧ Aside0 (rafterref35_Line.j3 kq a0_1 x89_72 a0_0 a0_1 a0_2 a0_3 a0_4 l0_5 a0_6 a0_7 a0_8 l0_9 a0_3 a0_4 l0_5 a0_6 a0_7 a0_8 l0_9 = some r) ∧ Aside0 (kq ≤ kj61) ∧ Aside0 (wc.heap[gb823]? = some (.cells #[.int .i64 a0_0, .string a0_1, .string a0_2, .int .i64 a0_3, .string a0_4, (.slice A0_5 l0_5.length c0_5), .int .i64 a0_6, .string a0_7, .string a0_8, (.slice A0_9 l0_9.length c0_9)] 34 (0, 0))) ∧ Aside0 (wc.heap[gb824]? = some (.cells #[.int .i64 a0_3, .string a0_4, (.slice A0_5 l0_5.length c0_5), .int .i64 a0_6, .string a0_7, .string a0_8, (.slice A0_9 l0_9.length c0_9)] 32 (0, 0))) ∧ Aside0 (Below w.heap.size w wc))
     case first =>
      have H := HC73.out
      clear HC73
      by_cases c74 : a0_0 = 1
      ·rw [if_pos c74] at H
       have c74b0 : (a0_0 == 1) = true := beq_iff_eq.mpr c74
       have c74b1 : (a0_0 != 1) = false := bne_eq_false_iff_eq.mpr c74
       clear c74
       (first | rw [c74b0] | (simp only [i64_w, i32_w]; rw [c74b0]) | rw [c74b1] | rw [c74b2] | skip)
       by_cases c75 : a0_3 = 4
       ·rw [if_pos c75] at H
        have c75b0 : (a0_3 == 4) = true := beq_iff_eq.mpr c75
        have c75b1 : (a0_3 != 4) = false := bne_eq_false_iff_eq.mpr c75
        clear c75
        have H' := Aside0.mk H
        clear H
        have hnb76 := NB823_824.out
        have hnc76 := NB824_823.out
        obtain ⟨hcz77_0, hcz77_1, hcz77_2, hcz77_3, hcz77_4, hcz77_5, hcz77_6, hcz77_7, hcz77_8, hcz77_9, hfz77_0, hfz77_1, hfz77_2, hfz77_3, hfz77_4, hfz77_5, hfz77_6, hfz77_7, hfz77_8, hfz77_9⟩ := cells10 BK823.out
        obtain ⟨hcz78_0, hcz78_1, hcz78_2, hcz78_3, hcz78_4, hcz78_5, hcz78_6, hfz78_0, hfz78_1, hfz78_2, hfz78_3, hfz78_4, hfz78_5, hfz78_6⟩ := cells7 BK824.out
        go_wp2
        go_meet
        case rel => exact ⟨_, ((a0_4.toList == ([] : List UInt8))), (by first | rfl | (simp; done) | (simp [*]; done)), H', ⟨by have := HJ1.out; have := HJ39.out; have := HJ61.out; first | omega | exact Nat.le_refl _⟩, ⟨by (with_reducible repeat (first | refine blk_drewN ?_ _ | refine blk_drew ?_ | refine blk_alloc ?_ _)); exact BK823.out⟩, ⟨by (with_reducible repeat (first | refine blk_drewN ?_ _ | refine blk_drew ?_ | refine blk_alloc ?_ _)); exact BK824.out⟩, ⟨by repeat (first | (with_reducible first | exact HB.out | apply below_alloc | apply pw_below_drewN | apply below_drew1 | refine below_set ?_ GE823.out | refine below_set ?_ GE824.out) | exact HB.out)⟩⟩
       ·rw [if_neg c75] at H
        have c75b0 : (a0_3 == 4) = false := beq_eq_false_iff_ne.mpr c75
        have c75b1 : (a0_3 != 4) = true := bne_iff_ne.mpr c75
        have H' := Aside0.mk H
        clear H
        have hnb79 := NB823_824.out
        have hnc79 := NB824_823.out
        obtain ⟨hcz80_0, hcz80_1, hcz80_2, hcz80_3, hcz80_4, hcz80_5, hcz80_6, hcz80_7, hcz80_8, hcz80_9, hfz80_0, hfz80_1, hfz80_2, hfz80_3, hfz80_4, hfz80_5, hfz80_6, hfz80_7, hfz80_8, hfz80_9⟩ := cells10 BK823.out
        obtain ⟨hcz81_0, hcz81_1, hcz81_2, hcz81_3, hcz81_4, hcz81_5, hcz81_6, hfz81_0, hfz81_1, hfz81_2, hfz81_3, hfz81_4, hfz81_5, hfz81_6⟩ := cells7 BK824.out
        go_wp2
        go_meet
        case rel => exact ⟨_, (false), (by first | rfl | (simp; done) | (simp [*]; done)), H', ⟨by have := HJ1.out; have := HJ39.out; have := HJ61.out; first | omega | exact Nat.le_refl _⟩, ⟨by (with_reducible repeat (first | refine blk_drewN ?_ _ | refine blk_drew ?_ | refine blk_alloc ?_ _)); exact BK823.out⟩, ⟨by (with_reducible repeat (first | refine blk_drewN ?_ _ | refine blk_drew ?_ | refine blk_alloc ?_ _)); exact BK824.out⟩, ⟨by repeat (first | (with_reducible first | exact HB.out | apply below_alloc | apply pw_below_drewN | apply below_drew1 | refine below_set ?_ GE823.out | refine below_set ?_ GE824.out) | exact HB.out)⟩⟩
      ·rw [if_neg c74] at H
       have c74b0 : (a0_0 == 1) = false := beq_eq_false_iff_ne.mpr c74
       have c74b1 : (a0_0 != 1) = true := bne_iff_ne.mpr c74
       (first | rw [c74b0] | (simp only [i64_w, i32_w]; rw [c74b0]) | rw [c74b1] | rw [c74b2] | skip)
       have H' := Aside0.mk H
       clear H
       have hnb82 := NB823_824.out
       have hnc82 := NB824_823.out
       obtain ⟨hcz83_0, hcz83_1, hcz83_2, hcz83_3, hcz83_4, hcz83_5, hcz83_6, hcz83_7, hcz83_8, hcz83_9, hfz83_0, hfz83_1, hfz83_2, hfz83_3, hfz83_4, hfz83_5, hfz83_6, hfz83_7, hfz83_8, hfz83_9⟩ := cells10 BK823.out
       go_wp2
       go_meet
       case rel => exact ⟨_, (false), (by first | rfl | (simp; done) | (simp [*]; done)), H', ⟨by have := HJ1.out; have := HJ39.out; have := HJ61.out; first | omega | exact Nat.le_refl _⟩, ⟨by (with_reducible repeat (first | refine blk_drewN ?_ _ | refine blk_drew ?_ | refine blk_alloc ?_ _)); exact BK823.out⟩, ⟨by (with_reducible repeat (first | refine blk_drewN ?_ _ | refine blk_drew ?_ | refine blk_alloc ?_ _)); exact BK824.out⟩, ⟨by repeat (first | (with_reducible first | exact HB.out | apply below_alloc | apply pw_below_drewN | apply below_drew1 | refine below_set ?_ GE823.out | refine below_set ?_ GE824.out) | exact HB.out)⟩⟩
     case rest =>
      clear HC73
      try clear c72
      try clear hcz42_0 hcz42_1 hcz42_2 hcz42_3 hcz42_4 hcz42_5 hcz42_6 hcz42_7 hcz42_8 hcz42_9 hfz42_0 hfz42_1 hfz42_2 hfz42_3 hfz42_4 hfz42_5 hfz42_6 hfz42_7 hfz42_8 hfz42_9
      try clear hcz4_0 hcz4_1 hcz4_2 hcz4_3 hcz4_4 hcz4_5 hcz4_6 hcz4_7 hcz4_8 hcz4_9 hfz4_0 hfz4_1 hfz4_2 hfz4_3 hfz4_4 hfz4_5 hfz4_6 hfz4_7 hfz4_8 hfz4_9
      try clear hcz7_0 hcz7_1 hcz7_2 hcz7_3 hcz7_4 hcz7_5 hcz7_6 hfz7_0 hfz7_1 hfz7_2 hfz7_3 hfz7_4 hfz7_5 hfz7_6
      try clear hcz8_0 hcz8_1 hcz8_2 hcz8_3 hcz8_4 hcz8_5 hcz8_6 hcz8_7 hcz8_8 hcz8_9 hfz8_0 hfz8_1 hfz8_2 hfz8_3 hfz8_4 hfz8_5 hfz8_6 hfz8_7 hfz8_8 hfz8_9
      obtain ⟨kq, x89_72, rfl, HA, HJ72, BK823, BK824, HB⟩ := hcut
      cases kq with
      | zero => exact absurd HA.out (by simp [rafterref35_Line.j3])
      | succ kj72 =>
       have H := HA.out
       clear HA
       simp only [rafterref35_Line.j3] at H
       by_cases c84 : x89_72 = true
       ·subst c84
        have H1 : ((some (([(⟨#[117, 110, 112, 117, 108, 108]⟩ : ByteArray), a0_1] : List ByteArray) : List ByteArray)).bind fun y836 => (if y836.length + l0_5.length < 8796093022208 then (some (y836 ++ l0_5)) else (none))) = some r := by rw [if_pos rfl] at H; exact H
        clear H
        have H := H1
        clear H1
        obtain ⟨y836, hy836⟩ : ∃ y_ : List ByteArray, y_ = (([(⟨#[117, 110, 112, 117, 108, 108]⟩ : ByteArray), a0_1] : List ByteArray)) := ⟨_, rfl⟩
        replace H : (if y836.length + l0_5.length < 8796093022208 then (some (y836 ++ l0_5)) else (none)) = some r := by first | (rw [hy836]; with_reducible exact H) | (have H2_ := (Option.bind_some _ _).symm.trans H; rw [hy836]; with_reducible exact H2_) | (have H2_ := (Option.bind_some _ _).symm.trans H; with_reducible exact H2_) | with_reducible exact H | (rw [hy836]; exact H) | exact H
        have Ny836 := Aside0.mk hy836
        clear hy836
        by_cases c85 : y836.length + l0_5.length < 8796093022208
        ·rw [if_pos c85] at H
         have LMc85 := Aside0.mk c85
         clear c85
         obtain ⟨y839, hy839⟩ : ∃ y_ : List ByteArray, y_ = (y836 ++ l0_5) := ⟨_, rfl⟩
         replace H : (some y839) = some r := by first | (rw [hy839]; with_reducible exact H) | (have H2_ := (Option.bind_some _ _).symm.trans H; rw [hy839]; with_reducible exact H2_) | (have H2_ := (Option.bind_some _ _).symm.trans H; with_reducible exact H2_) | with_reducible exact H | (rw [hy839]; exact H) | exact H
         have Ny839 := Aside0.mk hy839
         clear hy839
         obtain rfl := Option.some.inj H
         go_wp2_with (first | ((with_reducible refine gate_dst (N := 91) rfl ?_); (try (refine gate_guard (by rfl) ?_; dsimp only)); refine Kd.R_lit Kd.string _ 9 ?hg (N := 91) ?hd (xs := ([(⟨#[117, 110, 112, 117, 108, 108]⟩ : ByteArray), a0_1] : List ByteArray)) (inner := [.string (⟨#[117, 110, 112, 117, 108, 108]⟩ : ByteArray), .string a0_1]) (ok := fun _ => True) (okp := fun _ => True) ?hr ?hp (fun _ hk => hk) trivial (Below.refl _ _) (Nat.le_refl _) (by simp) ?_; (case hd => rfl); (case hg => rfl); (case hr => first | (go_simp; done) | (go_simp; rfl)); (case hp => exact (Reps.one (show Kd.M Kd.string _ _ _ (⟨#[117, 110, 112, 117, 108, 108]⟩ : ByteArray) [.string (⟨#[117, 110, 112, 117, 108, 108]⟩ : ByteArray)] from rfl) (Reps.one (show Kd.M Kd.string _ _ _ a0_1 [.string a0_1] from rfl) (Reps.none _ _)))); intro v837 w86 ho87 hb hg_ hnew_; clear hg_ hnew_; (first | rw [← Ny836.out] at ho87 | (simp only [Int.reduceToNat] at ho87; rw [← Ny836.out] at ho87)); have n0_ := Aside0.mk (Kd.R_lower ho87 (below_size (by repeat (first | (with_reducible first | exact HB.out | apply below_alloc | apply pw_below_drewN | apply below_drew1 | refine below_set ?_ GE823.out | refine below_set ?_ GE824.out) | exact HB.out)))); have n1_ := Aside0.mk (blk_below (g := gb823) (o := .cells #[.int .i64 a0_0, .string a0_1, .string a0_2, .int .i64 a0_3, .string a0_4, .slice A0_5 l0_5.length c0_5, .int .i64 a0_6, .string a0_7, .string a0_8, .slice A0_9 l0_9.length c0_9] 34 (0, 0)) (by (with_reducible repeat (first | refine blk_drewN ?_ _ | refine blk_drew ?_ | refine blk_alloc ?_ _)); exact BK823.out) hb); have n2_ := Aside0.mk (blk_below (g := gb824) (o := .cells #[.int .i64 a0_3, .string a0_4, .slice A0_5 l0_5.length c0_5, .int .i64 a0_6, .string a0_7, .string a0_8, .slice A0_9 l0_9.length c0_9] 32 (0, 0)) (by (with_reducible repeat (first | refine blk_drewN ?_ _ | refine blk_drew ?_ | refine blk_alloc ?_ _)); exact BK824.out) hb); have n3_ := Aside0.mk (below_step (by repeat (first | (with_reducible first | exact HB.out | apply below_alloc | apply pw_below_drewN | apply below_drew1 | refine below_set ?_ GE823.out | refine below_set ?_ GE824.out) | exact HB.out)) hb); clear BK823; clear BK824; clear HB; have HO838 := n0_; have BK823 := n1_; have BK824 := n2_; have HB := n3_; clear n0_ n1_ n2_ n3_; clear hb ho87; have hnb88 := NB824_823.out; have hnc88 := NB823_824.out; have hcz89_0 : w86.cell? ⟨gb824, 0, none⟩ = some (.int .i64 a0_3) := (blk_cell BK824.out 0).trans rfl; have hcz89_1 : w86.cell? ⟨gb824, 1, none⟩ = some (.string a0_4) := (blk_cell BK824.out 1).trans rfl; have hcz89_2 : w86.cell? ⟨gb824, 2, none⟩ = some (.slice A0_5 l0_5.length c0_5) := (blk_cell BK824.out 2).trans rfl; have hcz89_3 : w86.cell? ⟨gb824, 3, none⟩ = some (.int .i64 a0_6) := (blk_cell BK824.out 3).trans rfl; have hcz89_4 : w86.cell? ⟨gb824, 4, none⟩ = some (.string a0_7) := (blk_cell BK824.out 4).trans rfl; have hcz89_5 : w86.cell? ⟨gb824, 5, none⟩ = some (.string a0_8) := (blk_cell BK824.out 5).trans rfl; have hcz89_6 : w86.cell? ⟨gb824, 6, none⟩ = some (.slice A0_9 l0_9.length c0_9) := (blk_cell BK824.out 6).trans rfl; have hfz89_0 := blk_frozen BK824.out 0; have hfz89_1 := blk_frozen BK824.out 1; have hfz89_2 := blk_frozen BK824.out 2; have hfz89_3 := blk_frozen BK824.out 3; have hfz89_4 := blk_frozen BK824.out 4; have hfz89_5 := blk_frozen BK824.out 5; have hfz89_6 := blk_frozen BK824.out 6) | ((with_reducible refine gate_builtin (b := .append) (xs := #[.tmp 91, .tmp 93]) rfl ?_); (try (refine gate_guard (by rfl) ?_; dsimp only)); at_builtin; refine Kd.R_append_rows Kd.string (w0 := w) w.heap.size rfl (.tmp 91) (.tmp 93) 28 9 (.string ⟨#[]⟩) 16 rfl Tryd.underlying28 info9 rfl (by decide) (by omega) v837 y836 l0_5 _ _ _ (fun _ => True) (fun _ => False) rfl rfl ?aO ?aR (fun _ _ h => h) (fun _ h => h.elim) ?aF ?aB ?aS ?aL ?_; (case aR => repeat (first | exact (Kd.C_below HR0_5.out HB.out) | (with_reducible refine Kd.C_alloc ?_ _) | (with_reducible refine Kd.C_drewN ?_ _) | (with_reducible refine Kd.C_drew ?_))); (case aB => exact (by repeat (first | (with_reducible first | exact HB.out | apply below_alloc | apply pw_below_drewN | apply below_drew1 | refine below_set ?_ GE823.out | refine below_set ?_ GE824.out) | exact HB.out))); (case aF => exact (fun _ _ => trivial)); (case aO => exact (by (with_reducible repeat (first | apply Kd.R_alloc | apply Kd.R_drewN | apply Kd.R_drew)); exact HO838.out)); (case aS => exact (below_size (by repeat (first | (with_reducible first | exact HB.out | apply below_alloc | apply pw_below_drewN | apply below_drew1 | refine below_set ?_ GE823.out | refine below_set ?_ GE824.out) | exact HB.out)))); (case aL => have := LMc85.out; omega); intro v840 w90 ho hb hg hat; rw [← Ny839.out] at ho; have n0_ := Aside0.mk (blk_grown (g := gb823) (o := .cells #[.int .i64 a0_0, .string a0_1, .string a0_2, .int .i64 a0_3, .string a0_4, .slice A0_5 l0_5.length c0_5, .int .i64 a0_6, .string a0_7, .string a0_8, .slice A0_9 l0_9.length c0_9] 34 (0, 0)) (by (with_reducible repeat (first | refine blk_drewN ?_ _ | refine blk_drew ?_ | refine blk_alloc ?_ _)); exact BK823.out) hg (Kd.R_ne HO838.out BK823.out (by decide))); have n1_ := Aside0.mk (blk_grown (g := gb824) (o := .cells #[.int .i64 a0_3, .string a0_4, .slice A0_5 l0_5.length c0_5, .int .i64 a0_6, .string a0_7, .string a0_8, .slice A0_9 l0_9.length c0_9] 32 (0, 0)) (by (with_reducible repeat (first | refine blk_drewN ?_ _ | refine blk_drew ?_ | refine blk_alloc ?_ _)); exact BK824.out) hg (Kd.R_ne HO838.out BK824.out (by decide))); have n2_ := Aside0.mk (hb); have n3_ := Aside0.mk (ho); clear BK823; clear BK824; clear HB; clear HO838; have BK823 := n0_; have BK824 := n1_; have HB := n2_; have HO841 := n3_; clear n0_ n1_ n2_ n3_; clear ho hb hg hat))
         go_ret
         exact ⟨_, by first | rfl | (simp [errW_none, errW_some] <;> rfl) | (simp [*, errW_none, errW_some] <;> rfl), by (with_reducible repeat (first | apply Kd.R_alloc | apply Kd.R_drewN | apply Kd.R_drew)); exact HO841.out, by repeat (first | (with_reducible first | exact HB.out | apply below_alloc | apply pw_below_drewN | apply below_drew1 | refine below_set ?_ GE823.out | refine below_set ?_ GE824.out) | exact HB.out)⟩
        ·rw [if_neg c85] at H
         exact absurd H (by simp)
       ·replace c84 := Bool.eq_false_iff.mpr c84
        subst c84
        have H1 : (if (l0_5.length : Int) > 0 then (some ([] : List ByteArray)) else (if a0_0 = 1 then (rafterref35_Line.j4 kj72 a0_1 (a0_3 == 1) a0_0 a0_1 a0_2 a0_3 a0_4 l0_5 a0_6 a0_7 a0_8 l0_9 a0_3 a0_4 l0_5 a0_6 a0_7 a0_8 l0_9) else (rafterref35_Line.j4 kj72 a0_1 false a0_0 a0_1 a0_2 a0_3 a0_4 l0_5 a0_6 a0_7 a0_8 l0_9 a0_3 a0_4 l0_5 a0_6 a0_7 a0_8 l0_9))) = some r := by rw [if_neg (show ¬ (false = true) by decide)] at H; exact H
        clear H
        have H := H1
        clear H1
        by_cases c91 : (l0_5.length : Int) > 0
        ·rw [if_pos c91] at H
         have c91b0 : decide (0 < (l0_5.length : Int)) = true := decide_eq_true c91
         have c91b1 : decide (0 < l0_5.length) = true := decide_eq_true (by omega)
         clear c91
         obtain rfl := Option.some.inj H
         have hnb92 := NB824_823.out
         have hnc92 := NB823_824.out
         obtain ⟨hcz93_0, hcz93_1, hcz93_2, hcz93_3, hcz93_4, hcz93_5, hcz93_6, hfz93_0, hfz93_1, hfz93_2, hfz93_3, hfz93_4, hfz93_5, hfz93_6⟩ := cells7 BK824.out
         go_wp2
         go_ret
         exact ⟨_, by first | rfl | (simp [errW_none, errW_some] <;> rfl) | (simp [*, errW_none, errW_some] <;> rfl), by first | exact Kd.R_nil _ _ _ _ _ | exact Kd.N_nil _ _ _ _ _ | exact Kd.V_nil _ _ _ _ _ | exact Kd.Q_nil _ _ _ _ _ | exact Kd.S_nil _ _ _ _ _, by repeat (first | (with_reducible first | exact HB.out | apply below_alloc | apply pw_below_drewN | apply below_drew1 | refine below_set ?_ GE823.out | refine below_set ?_ GE824.out) | exact HB.out)⟩
        ·rw [if_neg c91] at H
         have c91b0 : decide (0 < (l0_5.length : Int)) = false := decide_eq_false c91
         have c91b1 : decide (0 < l0_5.length) = false := decide_eq_false (by omega)
         clear c91
         have HC94 := Aside0.mk H
         clear H
         have hnb95 := NB824_823.out
         have hnc95 := NB823_824.out
         obtain ⟨hcz96_0, hcz96_1, hcz96_2, hcz96_3, hcz96_4, hcz96_5, hcz96_6, hfz96_0, hfz96_1, hfz96_2, hfz96_3, hfz96_4, hfz96_5, hfz96_6⟩ := cells7 BK824.out
         go_upto_region 15 with (fail)
         rename_i a_x1 _ a_x
         exact rafterref35_Line.part15 GW823 GE823 GW824 GE824 NB823_824 NB824_823 HJ1 HJ39 HJ61 BK823 BK824 HB HJ72 c91b0 c91b1 HC94 hcz96_0 hcz96_1 hcz96_2 hcz96_3 hcz96_4 hcz96_5 hcz96_6 hfz96_0 hfz96_1 hfz96_2 hfz96_3 hfz96_4 hfz96_5 hfz96_6 rfl a_x1 a_x
set_option maxHeartbeats 100000000 in
set_option maxRecDepth 100000 in
theorem rafterref35_Line.calls (k : Nat) (a0_0 : Int) (a0_1 : ByteArray) (a0_2 : ByteArray) (a0_3 : Int) (a0_4 : ByteArray) (A0_5 : Option Addr) (c0_5 : Nat) (l0_5 : List ByteArray) (a0_6 : Int) (a0_7 : ByteArray) (a0_8 : ByteArray) (A0_9 : Option Addr) (c0_9 : Nat) (l0_9 : List ByteArray) (r : List ByteArray) (w : World) (hr0_5 : Kd.C Kd.string w A0_5 l0_5.length l0_5) (hc0_5 : l0_5.length ≤ c0_5) (hr0_9 : Kd.C Kd.string w A0_9 l0_9.length l0_9) (hc0_9 : l0_9.length ≤ c0_9) (h : rafterref35_Line.f k a0_0 a0_1 a0_2 a0_3 a0_4 l0_5 a0_6 a0_7 a0_8 l0_9 = some r) :
    Calls Tryd.prog 17 #[.agg #[.int .i64 a0_0, .string a0_1, .string a0_2, .int .i64 a0_3, .string a0_4, .slice A0_5 l0_5.length c0_5, .int .i64 a0_6, .string a0_7, .string a0_8, .slice A0_9 l0_9.length c0_9]] w fun e w' => ∃ v0_ : Value, e = .returned (v0_) ∧ Kd.R Kd.string 9 w' w.heap.size (fun _ => True) v0_ r ∧ Below w.heap.size w w' := by
 have hu34 := Tryd.underlying34
 have hu32 := Tryd.underlying32
 have hu30 := Tryd.underlying30
 have HR0_5 := Aside0.mk hr0_5
 have HC0_5 := Aside0.mk hc0_5
 try clear hr0_5
 try clear hc0_5
 have HR0_9 := Aside0.mk hr0_9
 have HC0_9 := Aside0.mk hc0_9
 try clear hr0_9
 try clear hc0_9
 have HB := Aside0.mk (Below.refl w.heap.size w)
 have H : (if a0_0 = 1 then (if a0_3 = 3 then (if a0_4.toList = ([] : List UInt8) then ((rafterref35_none.f a0_6 a0_7 a0_8 l0_9).bind fun t825 => (if t825 = true then (rafterref35_Line.j0 k a0_1 (a0_6 == 0) a0_0 a0_1 a0_2 a0_3 a0_4 l0_5 a0_6 a0_7 a0_8 l0_9 a0_3 a0_4 l0_5 a0_6 a0_7 a0_8 l0_9) else (rafterref35_Line.j0 k a0_1 false a0_0 a0_1 a0_2 a0_3 a0_4 l0_5 a0_6 a0_7 a0_8 l0_9 a0_3 a0_4 l0_5 a0_6 a0_7 a0_8 l0_9))) else (rafterref35_Line.j0 k a0_1 false a0_0 a0_1 a0_2 a0_3 a0_4 l0_5 a0_6 a0_7 a0_8 l0_9 a0_3 a0_4 l0_5 a0_6 a0_7 a0_8 l0_9)) else (rafterref35_Line.j0 k a0_1 false a0_0 a0_1 a0_2 a0_3 a0_4 l0_5 a0_6 a0_7 a0_8 l0_9 a0_3 a0_4 l0_5 a0_6 a0_7 a0_8 l0_9)) else (rafterref35_Line.j0 k a0_1 false a0_0 a0_1 a0_2 a0_3 a0_4 l0_5 a0_6 a0_7 a0_8 l0_9 a0_3 a0_4 l0_5 a0_6 a0_7 a0_8 l0_9)) = some r := h
 clear h
 have HC2 := Aside0.mk H
 clear H
 go_enter Tryd.func17, Tryd.ntmps17
 go_upto_region 3 with (first | ((with_reducible refine gate_dst (N := 1) rfl ?_); (try (refine gate_guard (by rfl) ?_; dsimp only)); refine box_event ?hg (N := 1) ?hd (cs := #[.int .i64 a0_0, .string a0_1, .string a0_2, .int .i64 a0_3, .string a0_4, .slice A0_5 l0_5.length c0_5, .int .i64 a0_6, .string a0_7, .string a0_8, .slice A0_9 l0_9.length c0_9]) (t := 34) ?hr ?_; (case hd => rfl); (case hg => rfl); (case hr => first | (go_simp; done) | (go_simp; rfl)); intro gb823 hg w3 hbox hb; have n0_ := Aside0.mk (below_step (by repeat (first | (with_reducible first | exact HB.out | apply below_alloc | apply pw_below_drewN | apply below_drew1) | exact HB.out)) hb); have n1_ := Aside0.mk (hbox); have n2_ := Aside0.mk ((by rw [hg]; exact (below_size (by repeat (first | (with_reducible first | exact HB.out | apply below_alloc | apply pw_below_drewN | apply below_drew1) | exact HB.out))) : w.heap.size ≤ gb823)); have n3_ := Aside0.mk ((by rw [hg]; exact (below_size (by repeat (first | (with_reducible first | exact HB.out | apply below_alloc | apply pw_below_drewN | apply below_drew1) | exact HB.out))) : w.heap.size ≤ gb823)); clear HB; have HB := n0_; have BK823 := n1_; have GW823 := n2_; have GE823 := n3_; clear n0_ n1_ n2_ n3_; clear hb hbox hg; have hcz4_0 : w3.cell? ⟨gb823, 0, none⟩ = some (.int .i64 a0_0) := (blk_cell BK823.out 0).trans rfl; have hcz4_1 : w3.cell? ⟨gb823, 1, none⟩ = some (.string a0_1) := (blk_cell BK823.out 1).trans rfl; have hcz4_2 : w3.cell? ⟨gb823, 2, none⟩ = some (.string a0_2) := (blk_cell BK823.out 2).trans rfl; have hcz4_3 : w3.cell? ⟨gb823, 3, none⟩ = some (.int .i64 a0_3) := (blk_cell BK823.out 3).trans rfl; have hcz4_4 : w3.cell? ⟨gb823, 4, none⟩ = some (.string a0_4) := (blk_cell BK823.out 4).trans rfl; have hcz4_5 : w3.cell? ⟨gb823, 5, none⟩ = some (.slice A0_5 l0_5.length c0_5) := (blk_cell BK823.out 5).trans rfl; have hcz4_6 : w3.cell? ⟨gb823, 6, none⟩ = some (.int .i64 a0_6) := (blk_cell BK823.out 6).trans rfl; have hcz4_7 : w3.cell? ⟨gb823, 7, none⟩ = some (.string a0_7) := (blk_cell BK823.out 7).trans rfl; have hcz4_8 : w3.cell? ⟨gb823, 8, none⟩ = some (.string a0_8) := (blk_cell BK823.out 8).trans rfl; have hcz4_9 : w3.cell? ⟨gb823, 9, none⟩ = some (.slice A0_9 l0_9.length c0_9) := (blk_cell BK823.out 9).trans rfl; have hfz4_0 := blk_frozen BK823.out 0; have hfz4_1 := blk_frozen BK823.out 1; have hfz4_2 := blk_frozen BK823.out 2; have hfz4_3 := blk_frozen BK823.out 3; have hfz4_4 := blk_frozen BK823.out 4; have hfz4_5 := blk_frozen BK823.out 5; have hfz4_6 := blk_frozen BK823.out 6; have hfz4_7 := blk_frozen BK823.out 7; have hfz4_8 := blk_frozen BK823.out 8; have hfz4_9 := blk_frozen BK823.out 9) | ((with_reducible refine gate_dst (N := 3) rfl ?_); (try (refine gate_guard (by rfl) ?_; dsimp only)); refine box_event ?hg (N := 3) ?hd (cs := #[.int .i64 0, .string (⟨#[]⟩ : ByteArray), .slice none 0 0, .int .i64 0, .string (⟨#[]⟩ : ByteArray), .string (⟨#[]⟩ : ByteArray), .slice none 0 0]) (t := 32) ?hr ?_; (case hd => rfl); (case hg => rfl); (case hr => first | (go_simp; done) | (go_simp; rfl)); intro gb824 hg w5 hbox hb; have n0_ := Aside0.mk (blk_below (g := gb823) (o := .cells #[.int .i64 a0_0, .string a0_1, .string a0_2, .int .i64 a0_3, .string a0_4, .slice A0_5 l0_5.length c0_5, .int .i64 a0_6, .string a0_7, .string a0_8, .slice A0_9 l0_9.length c0_9] 34 (0, 0)) (by (with_reducible repeat (first | refine blk_drewN ?_ _ | refine blk_drew ?_ | refine blk_alloc ?_ _)); exact BK823.out) hb); have n1_ := Aside0.mk (below_step (by repeat (first | (with_reducible first | exact HB.out | apply below_alloc | apply pw_below_drewN | apply below_drew1 | refine below_set ?_ GE823.out) | exact HB.out)) hb); have n2_ := Aside0.mk (hbox); have n3_ := Aside0.mk ((by rw [hg]; exact (below_size (by repeat (first | (with_reducible first | exact HB.out | apply below_alloc | apply pw_below_drewN | apply below_drew1 | refine below_set ?_ GE823.out) | exact HB.out))) : w.heap.size ≤ gb824)); have n4_ := Aside0.mk ((by rw [hg]; exact (below_size (by repeat (first | (with_reducible first | exact HB.out | apply below_alloc | apply pw_below_drewN | apply below_drew1 | refine below_set ?_ GE823.out) | exact HB.out))) : w.heap.size ≤ gb824)); have n5_ := Aside0.mk ((by rw [hg]; exact Nat.ne_of_lt (blk_lt (g := gb823) (o := .cells #[.int .i64 a0_0, .string a0_1, .string a0_2, .int .i64 a0_3, .string a0_4, .slice A0_5 l0_5.length c0_5, .int .i64 a0_6, .string a0_7, .string a0_8, .slice A0_9 l0_9.length c0_9] 34 (0, 0)) (by (with_reducible repeat (first | refine blk_drewN ?_ _ | refine blk_drew ?_ | refine blk_alloc ?_ _)); exact BK823.out)) : gb823 ≠ gb824)); have n6_ := Aside0.mk ((by rw [hg]; exact Nat.ne_of_gt (blk_lt (g := gb823) (o := .cells #[.int .i64 a0_0, .string a0_1, .string a0_2, .int .i64 a0_3, .string a0_4, .slice A0_5 l0_5.length c0_5, .int .i64 a0_6, .string a0_7, .string a0_8, .slice A0_9 l0_9.length c0_9] 34 (0, 0)) (by (with_reducible repeat (first | refine blk_drewN ?_ _ | refine blk_drew ?_ | refine blk_alloc ?_ _)); exact BK823.out)) : gb824 ≠ gb823)); clear BK823; clear HB; have BK823 := n0_; have HB := n1_; have BK824 := n2_; have GW824 := n3_; have GE824 := n4_; have NB823_824 := n5_; have NB824_823 := n6_; clear n0_ n1_ n2_ n3_ n4_ n5_ n6_; clear hb hbox hg; have hnb6 := NB824_823.out; have hnc6 := NB823_824.out; obtain ⟨hcz7_0, hcz7_1, hcz7_2, hcz7_3, hcz7_4, hcz7_5, hcz7_6, hfz7_0, hfz7_1, hfz7_2, hfz7_3, hfz7_4, hfz7_5, hfz7_6⟩ := cells7 BK824.out; have hcz8_0 : w5.cell? ⟨gb823, 0, none⟩ = some (.int .i64 a0_0) := (blk_cell BK823.out 0).trans rfl; have hcz8_1 : w5.cell? ⟨gb823, 1, none⟩ = some (.string a0_1) := (blk_cell BK823.out 1).trans rfl; have hcz8_2 : w5.cell? ⟨gb823, 2, none⟩ = some (.string a0_2) := (blk_cell BK823.out 2).trans rfl; have hcz8_3 : w5.cell? ⟨gb823, 3, none⟩ = some (.int .i64 a0_3) := (blk_cell BK823.out 3).trans rfl; have hcz8_4 : w5.cell? ⟨gb823, 4, none⟩ = some (.string a0_4) := (blk_cell BK823.out 4).trans rfl; have hcz8_5 : w5.cell? ⟨gb823, 5, none⟩ = some (.slice A0_5 l0_5.length c0_5) := (blk_cell BK823.out 5).trans rfl; have hcz8_6 : w5.cell? ⟨gb823, 6, none⟩ = some (.int .i64 a0_6) := (blk_cell BK823.out 6).trans rfl; have hcz8_7 : w5.cell? ⟨gb823, 7, none⟩ = some (.string a0_7) := (blk_cell BK823.out 7).trans rfl; have hcz8_8 : w5.cell? ⟨gb823, 8, none⟩ = some (.string a0_8) := (blk_cell BK823.out 8).trans rfl; have hcz8_9 : w5.cell? ⟨gb823, 9, none⟩ = some (.slice A0_9 l0_9.length c0_9) := (blk_cell BK823.out 9).trans rfl; have hfz8_0 := blk_frozen BK823.out 0; have hfz8_1 := blk_frozen BK823.out 1; have hfz8_2 := blk_frozen BK823.out 2; have hfz8_3 := blk_frozen BK823.out 3; have hfz8_4 := blk_frozen BK823.out 4; have hfz8_5 := blk_frozen BK823.out 5; have hfz8_6 := blk_frozen BK823.out 6; have hfz8_7 := blk_frozen BK823.out 7; have hfz8_8 := blk_frozen BK823.out 8; have hfz8_9 := blk_frozen BK823.out 9))
 (try simp only [Act.put, List.setIfInBounds_toArray, List.set_cons_zero, List.set_cons_succ])
 go_cut [33] (fun v33 wc => ∃ (kq : Nat) (x33_1 : Bool), v33 = .bool x33_1 ∧ Aside0 (rafterref35_Line.j0 kq a0_1 x33_1 a0_0 a0_1 a0_2 a0_3 a0_4 l0_5 a0_6 a0_7 a0_8 l0_9 a0_3 a0_4 l0_5 a0_6 a0_7 a0_8 l0_9 = some r) ∧ Aside0 (kq ≤ k) ∧ Aside0 (wc.heap[gb823]? = some (.cells #[.int .i64 a0_0, .string a0_1, .string a0_2, .int .i64 a0_3, .string a0_4, (.slice A0_5 l0_5.length c0_5), .int .i64 a0_6, .string a0_7, .string a0_8, (.slice A0_9 l0_9.length c0_9)] 34 (0, 0))) ∧ Aside0 (wc.heap[gb824]? = some (.cells #[.int .i64 a0_3, .string a0_4, (.slice A0_5 l0_5.length c0_5), .int .i64 a0_6, .string a0_7, .string a0_8, (.slice A0_9 l0_9.length c0_9)] 32 (0, 0))) ∧ Aside0 (Below w.heap.size w wc))
 case first =>
  have H := HC2.out
  clear HC2
  by_cases c9 : a0_0 = 1
  ·rw [if_pos c9] at H
   have c9b0 : (a0_0 == 1) = true := beq_iff_eq.mpr c9
   have c9b1 : (a0_0 != 1) = false := bne_eq_false_iff_eq.mpr c9
   clear c9
   (first | rw [c9b0] | (simp only [i64_w, i32_w]; rw [c9b0]) | rw [c9b1] | rw [c9b2] | skip)
   by_cases c10 : a0_3 = 3
   ·rw [if_pos c10] at H
    have c10b0 : (a0_3 == 3) = true := beq_iff_eq.mpr c10
    have c10b1 : (a0_3 != 3) = false := bne_eq_false_iff_eq.mpr c10
    clear c10
    by_cases c11 : a0_4.toList = ([] : List UInt8)
    ·rw [if_pos c11] at H
     have c11b0 : (a0_4.toList == ([] : List UInt8)) = true := beq_iff_eq.mpr c11
     have c11b1 : (a0_4.toList != ([] : List UInt8)) = false := bne_eq_false_iff_eq.mpr c11
     clear c11
     replace H := Option.bind_eq_some_iff.mp H
     obtain ⟨t825, A120, H⟩ := H
     replace H : (if t825 = true then (rafterref35_Line.j0 k a0_1 (a0_6 == 0) a0_0 a0_1 a0_2 a0_3 a0_4 l0_5 a0_6 a0_7 a0_8 l0_9 a0_3 a0_4 l0_5 a0_6 a0_7 a0_8 l0_9) else (rafterref35_Line.j0 k a0_1 false a0_0 a0_1 a0_2 a0_3 a0_4 l0_5 a0_6 a0_7 a0_8 l0_9 a0_3 a0_4 l0_5 a0_6 a0_7 a0_8 l0_9)) = some r := H
     have A12 := Aside0.mk A120
     clear A120
     by_cases c13 : t825 = true
     ·subst c13
      have H1 : (rafterref35_Line.j0 k a0_1 (a0_6 == 0) a0_0 a0_1 a0_2 a0_3 a0_4 l0_5 a0_6 a0_7 a0_8 l0_9 a0_3 a0_4 l0_5 a0_6 a0_7 a0_8 l0_9) = some r := by rw [if_pos rfl] at H; exact H
      clear H
      have H := H1
      clear H1
      have H' := Aside0.mk H
      clear H
      have hnb14 := NB823_824.out
      have hnc14 := NB824_823.out
      obtain ⟨hcz15_0, hcz15_1, hcz15_2, hcz15_3, hcz15_4, hcz15_5, hcz15_6, hcz15_7, hcz15_8, hcz15_9, hfz15_0, hfz15_1, hfz15_2, hfz15_3, hfz15_4, hfz15_5, hfz15_6, hfz15_7, hfz15_8, hfz15_9⟩ := cells10 BK823.out
      obtain ⟨hcz16_0, hcz16_1, hcz16_2, hcz16_3, hcz16_4, hcz16_5, hcz16_6, hfz16_0, hfz16_1, hfz16_2, hfz16_3, hfz16_4, hfz16_5, hfz16_6⟩ := cells7 BK824.out
      go_wp2_with (first | (go_at_call 59; (with_reducible refine (rafterref35_none.calls a0_6 a0_7 a0_8 _ _ l0_9 true _ ?side1 ?side2 A12.out).mono ?_); (case side1 => exact Kd.C_below HR0_9.out (by repeat (first | (with_reducible first | exact HB.out | apply below_alloc | apply pw_below_drewN | apply below_drew1 | refine below_set ?_ GE823.out | refine below_set ?_ GE824.out) | exact HB.out))); (case side2 => exact HC0_9.out); rintro e w17 ⟨rfl, hb⟩; have n0_ := Aside0.mk (blk_below (g := gb823) (o := .cells #[.int .i64 a0_0, .string a0_1, .string a0_2, .int .i64 a0_3, .string a0_4, .slice A0_5 l0_5.length c0_5, .int .i64 a0_6, .string a0_7, .string a0_8, .slice A0_9 l0_9.length c0_9] 34 (0, 0)) (by (with_reducible repeat (first | refine blk_drewN ?_ _ | refine blk_drew ?_ | refine blk_alloc ?_ _)); refine blk_far ?_ NB823_824.out _; (with_reducible repeat (first | refine blk_drewN ?_ _ | refine blk_drew ?_ | refine blk_alloc ?_ _)); refine blk_far ?_ NB823_824.out _; (with_reducible repeat (first | refine blk_drewN ?_ _ | refine blk_drew ?_ | refine blk_alloc ?_ _)); refine blk_far ?_ NB823_824.out _; (with_reducible repeat (first | refine blk_drewN ?_ _ | refine blk_drew ?_ | refine blk_alloc ?_ _)); refine blk_far ?_ NB823_824.out _; (with_reducible repeat (first | refine blk_drewN ?_ _ | refine blk_drew ?_ | refine blk_alloc ?_ _)); refine blk_far ?_ NB823_824.out _; (with_reducible repeat (first | refine blk_drewN ?_ _ | refine blk_drew ?_ | refine blk_alloc ?_ _)); refine blk_far ?_ NB823_824.out _; (with_reducible repeat (first | refine blk_drewN ?_ _ | refine blk_drew ?_ | refine blk_alloc ?_ _)); refine blk_far ?_ NB823_824.out _; (with_reducible repeat (first | refine blk_drewN ?_ _ | refine blk_drew ?_ | refine blk_alloc ?_ _)); exact BK823.out) hb); have n1_ := Aside0.mk (blk_below (g := gb824) (o := .cells #[.int .i64 a0_3, .string a0_4, .slice A0_5 l0_5.length c0_5, .int .i64 a0_6, .string a0_7, .string a0_8, .slice A0_9 l0_9.length c0_9] 32 (0, 0)) (by (with_reducible repeat (first | refine blk_drewN ?_ _ | refine blk_drew ?_ | refine blk_alloc ?_ _)); refine blk_put (cs := #[.int .i64 a0_3, .string a0_4, .slice A0_5 l0_5.length c0_5, .int .i64 a0_6, .string a0_7, .string a0_8, .slice none 0 0]) ?_ 6 _ rfl; (with_reducible repeat (first | refine blk_drewN ?_ _ | refine blk_drew ?_ | refine blk_alloc ?_ _)); refine blk_put (cs := #[.int .i64 a0_3, .string a0_4, .slice A0_5 l0_5.length c0_5, .int .i64 a0_6, .string a0_7, .string (⟨#[]⟩ : ByteArray), .slice none 0 0]) ?_ 5 _ rfl; (with_reducible repeat (first | refine blk_drewN ?_ _ | refine blk_drew ?_ | refine blk_alloc ?_ _)); refine blk_put (cs := #[.int .i64 a0_3, .string a0_4, .slice A0_5 l0_5.length c0_5, .int .i64 a0_6, .string (⟨#[]⟩ : ByteArray), .string (⟨#[]⟩ : ByteArray), .slice none 0 0]) ?_ 4 _ rfl; (with_reducible repeat (first | refine blk_drewN ?_ _ | refine blk_drew ?_ | refine blk_alloc ?_ _)); refine blk_put (cs := #[.int .i64 a0_3, .string a0_4, .slice A0_5 l0_5.length c0_5, .int .i64 0, .string (⟨#[]⟩ : ByteArray), .string (⟨#[]⟩ : ByteArray), .slice none 0 0]) ?_ 3 _ rfl; (with_reducible repeat (first | refine blk_drewN ?_ _ | refine blk_drew ?_ | refine blk_alloc ?_ _)); refine blk_put (cs := #[.int .i64 a0_3, .string a0_4, .slice none 0 0, .int .i64 0, .string (⟨#[]⟩ : ByteArray), .string (⟨#[]⟩ : ByteArray), .slice none 0 0]) ?_ 2 _ rfl; (with_reducible repeat (first | refine blk_drewN ?_ _ | refine blk_drew ?_ | refine blk_alloc ?_ _)); refine blk_put (cs := #[.int .i64 a0_3, .string (⟨#[]⟩ : ByteArray), .slice none 0 0, .int .i64 0, .string (⟨#[]⟩ : ByteArray), .string (⟨#[]⟩ : ByteArray), .slice none 0 0]) ?_ 1 _ rfl; (with_reducible repeat (first | refine blk_drewN ?_ _ | refine blk_drew ?_ | refine blk_alloc ?_ _)); refine blk_put (cs := #[.int .i64 0, .string (⟨#[]⟩ : ByteArray), .slice none 0 0, .int .i64 0, .string (⟨#[]⟩ : ByteArray), .string (⟨#[]⟩ : ByteArray), .slice none 0 0]) ?_ 0 _ rfl; (with_reducible repeat (first | refine blk_drewN ?_ _ | refine blk_drew ?_ | refine blk_alloc ?_ _)); exact BK824.out) hb); have n2_ := Aside0.mk (below_step (by repeat (first | (with_reducible first | exact HB.out | apply below_alloc | apply pw_below_drewN | apply below_drew1 | refine below_set ?_ GE823.out | refine below_set ?_ GE824.out) | exact HB.out)) hb); clear BK823; clear BK824; clear HB; have BK823 := n0_; have BK824 := n1_; have HB := n2_; clear n0_ n1_ n2_; (try clear hb); (try clear hb2); (try clear hk); (try clear hi); have hcz18_0 : w17.cell? ⟨gb824, 0, none⟩ = some (.int .i64 a0_3) := (blk_cell BK824.out 0).trans rfl; have hcz18_1 : w17.cell? ⟨gb824, 1, none⟩ = some (.string a0_4) := (blk_cell BK824.out 1).trans rfl; have hcz18_2 : w17.cell? ⟨gb824, 2, none⟩ = some (.slice A0_5 l0_5.length c0_5) := (blk_cell BK824.out 2).trans rfl; have hcz18_3 : w17.cell? ⟨gb824, 3, none⟩ = some (.int .i64 a0_6) := (blk_cell BK824.out 3).trans rfl; have hcz18_4 : w17.cell? ⟨gb824, 4, none⟩ = some (.string a0_7) := (blk_cell BK824.out 4).trans rfl; have hcz18_5 : w17.cell? ⟨gb824, 5, none⟩ = some (.string a0_8) := (blk_cell BK824.out 5).trans rfl; have hcz18_6 : w17.cell? ⟨gb824, 6, none⟩ = some (.slice A0_9 l0_9.length c0_9) := (blk_cell BK824.out 6).trans rfl; have hfz18_0 := blk_frozen BK824.out 0; have hfz18_1 := blk_frozen BK824.out 1; have hfz18_2 := blk_frozen BK824.out 2; have hfz18_3 := blk_frozen BK824.out 3; have hfz18_4 := blk_frozen BK824.out 4; have hfz18_5 := blk_frozen BK824.out 5; have hfz18_6 := blk_frozen BK824.out 6))
      go_meet
      case rel => exact ⟨_, ((a0_6 == 0)), (by first | rfl | (simp; done) | (simp [*]; done)), H', ⟨by first | omega | exact Nat.le_refl _⟩, ⟨by (with_reducible repeat (first | refine blk_drewN ?_ _ | refine blk_drew ?_ | refine blk_alloc ?_ _)); exact BK823.out⟩, ⟨by (with_reducible repeat (first | refine blk_drewN ?_ _ | refine blk_drew ?_ | refine blk_alloc ?_ _)); exact BK824.out⟩, ⟨by repeat (first | (with_reducible first | exact HB.out | apply below_alloc | apply pw_below_drewN | apply below_drew1 | refine below_set ?_ GE823.out | refine below_set ?_ GE824.out) | exact HB.out)⟩⟩
     ·replace c13 := Bool.eq_false_iff.mpr c13
      subst c13
      have H1 : (rafterref35_Line.j0 k a0_1 false a0_0 a0_1 a0_2 a0_3 a0_4 l0_5 a0_6 a0_7 a0_8 l0_9 a0_3 a0_4 l0_5 a0_6 a0_7 a0_8 l0_9) = some r := by rw [if_neg (show ¬ (false = true) by decide)] at H; exact H
      clear H
      have H := H1
      clear H1
      have H' := Aside0.mk H
      clear H
      have hnb19 := NB823_824.out
      have hnc19 := NB824_823.out
      obtain ⟨hcz20_0, hcz20_1, hcz20_2, hcz20_3, hcz20_4, hcz20_5, hcz20_6, hcz20_7, hcz20_8, hcz20_9, hfz20_0, hfz20_1, hfz20_2, hfz20_3, hfz20_4, hfz20_5, hfz20_6, hfz20_7, hfz20_8, hfz20_9⟩ := cells10 BK823.out
      obtain ⟨hcz21_0, hcz21_1, hcz21_2, hcz21_3, hcz21_4, hcz21_5, hcz21_6, hfz21_0, hfz21_1, hfz21_2, hfz21_3, hfz21_4, hfz21_5, hfz21_6⟩ := cells7 BK824.out
      go_wp2_with (first | (go_at_call 59; (with_reducible refine (rafterref35_none.calls a0_6 a0_7 a0_8 _ _ l0_9 false _ ?side1 ?side2 A12.out).mono ?_); (case side1 => exact Kd.C_below HR0_9.out (by repeat (first | (with_reducible first | exact HB.out | apply below_alloc | apply pw_below_drewN | apply below_drew1 | refine below_set ?_ GE823.out | refine below_set ?_ GE824.out) | exact HB.out))); (case side2 => exact HC0_9.out); rintro e w22 ⟨rfl, hb⟩; have n0_ := Aside0.mk (blk_below (g := gb823) (o := .cells #[.int .i64 a0_0, .string a0_1, .string a0_2, .int .i64 a0_3, .string a0_4, .slice A0_5 l0_5.length c0_5, .int .i64 a0_6, .string a0_7, .string a0_8, .slice A0_9 l0_9.length c0_9] 34 (0, 0)) (by (with_reducible repeat (first | refine blk_drewN ?_ _ | refine blk_drew ?_ | refine blk_alloc ?_ _)); refine blk_far ?_ NB823_824.out _; (with_reducible repeat (first | refine blk_drewN ?_ _ | refine blk_drew ?_ | refine blk_alloc ?_ _)); refine blk_far ?_ NB823_824.out _; (with_reducible repeat (first | refine blk_drewN ?_ _ | refine blk_drew ?_ | refine blk_alloc ?_ _)); refine blk_far ?_ NB823_824.out _; (with_reducible repeat (first | refine blk_drewN ?_ _ | refine blk_drew ?_ | refine blk_alloc ?_ _)); refine blk_far ?_ NB823_824.out _; (with_reducible repeat (first | refine blk_drewN ?_ _ | refine blk_drew ?_ | refine blk_alloc ?_ _)); refine blk_far ?_ NB823_824.out _; (with_reducible repeat (first | refine blk_drewN ?_ _ | refine blk_drew ?_ | refine blk_alloc ?_ _)); refine blk_far ?_ NB823_824.out _; (with_reducible repeat (first | refine blk_drewN ?_ _ | refine blk_drew ?_ | refine blk_alloc ?_ _)); refine blk_far ?_ NB823_824.out _; (with_reducible repeat (first | refine blk_drewN ?_ _ | refine blk_drew ?_ | refine blk_alloc ?_ _)); exact BK823.out) hb); have n1_ := Aside0.mk (blk_below (g := gb824) (o := .cells #[.int .i64 a0_3, .string a0_4, .slice A0_5 l0_5.length c0_5, .int .i64 a0_6, .string a0_7, .string a0_8, .slice A0_9 l0_9.length c0_9] 32 (0, 0)) (by (with_reducible repeat (first | refine blk_drewN ?_ _ | refine blk_drew ?_ | refine blk_alloc ?_ _)); refine blk_put (cs := #[.int .i64 a0_3, .string a0_4, .slice A0_5 l0_5.length c0_5, .int .i64 a0_6, .string a0_7, .string a0_8, .slice none 0 0]) ?_ 6 _ rfl; (with_reducible repeat (first | refine blk_drewN ?_ _ | refine blk_drew ?_ | refine blk_alloc ?_ _)); refine blk_put (cs := #[.int .i64 a0_3, .string a0_4, .slice A0_5 l0_5.length c0_5, .int .i64 a0_6, .string a0_7, .string (⟨#[]⟩ : ByteArray), .slice none 0 0]) ?_ 5 _ rfl; (with_reducible repeat (first | refine blk_drewN ?_ _ | refine blk_drew ?_ | refine blk_alloc ?_ _)); refine blk_put (cs := #[.int .i64 a0_3, .string a0_4, .slice A0_5 l0_5.length c0_5, .int .i64 a0_6, .string (⟨#[]⟩ : ByteArray), .string (⟨#[]⟩ : ByteArray), .slice none 0 0]) ?_ 4 _ rfl; (with_reducible repeat (first | refine blk_drewN ?_ _ | refine blk_drew ?_ | refine blk_alloc ?_ _)); refine blk_put (cs := #[.int .i64 a0_3, .string a0_4, .slice A0_5 l0_5.length c0_5, .int .i64 0, .string (⟨#[]⟩ : ByteArray), .string (⟨#[]⟩ : ByteArray), .slice none 0 0]) ?_ 3 _ rfl; (with_reducible repeat (first | refine blk_drewN ?_ _ | refine blk_drew ?_ | refine blk_alloc ?_ _)); refine blk_put (cs := #[.int .i64 a0_3, .string a0_4, .slice none 0 0, .int .i64 0, .string (⟨#[]⟩ : ByteArray), .string (⟨#[]⟩ : ByteArray), .slice none 0 0]) ?_ 2 _ rfl; (with_reducible repeat (first | refine blk_drewN ?_ _ | refine blk_drew ?_ | refine blk_alloc ?_ _)); refine blk_put (cs := #[.int .i64 a0_3, .string (⟨#[]⟩ : ByteArray), .slice none 0 0, .int .i64 0, .string (⟨#[]⟩ : ByteArray), .string (⟨#[]⟩ : ByteArray), .slice none 0 0]) ?_ 1 _ rfl; (with_reducible repeat (first | refine blk_drewN ?_ _ | refine blk_drew ?_ | refine blk_alloc ?_ _)); refine blk_put (cs := #[.int .i64 0, .string (⟨#[]⟩ : ByteArray), .slice none 0 0, .int .i64 0, .string (⟨#[]⟩ : ByteArray), .string (⟨#[]⟩ : ByteArray), .slice none 0 0]) ?_ 0 _ rfl; (with_reducible repeat (first | refine blk_drewN ?_ _ | refine blk_drew ?_ | refine blk_alloc ?_ _)); exact BK824.out) hb); have n2_ := Aside0.mk (below_step (by repeat (first | (with_reducible first | exact HB.out | apply below_alloc | apply pw_below_drewN | apply below_drew1 | refine below_set ?_ GE823.out | refine below_set ?_ GE824.out) | exact HB.out)) hb); clear BK823; clear BK824; clear HB; have BK823 := n0_; have BK824 := n1_; have HB := n2_; clear n0_ n1_ n2_; (try clear hb); (try clear hb2); (try clear hk); (try clear hi)))
      go_meet
      case rel => exact ⟨_, (false), (by first | rfl | (simp; done) | (simp [*]; done)), H', ⟨by first | omega | exact Nat.le_refl _⟩, ⟨by (with_reducible repeat (first | refine blk_drewN ?_ _ | refine blk_drew ?_ | refine blk_alloc ?_ _)); exact BK823.out⟩, ⟨by (with_reducible repeat (first | refine blk_drewN ?_ _ | refine blk_drew ?_ | refine blk_alloc ?_ _)); exact BK824.out⟩, ⟨by repeat (first | (with_reducible first | exact HB.out | apply below_alloc | apply pw_below_drewN | apply below_drew1 | refine below_set ?_ GE823.out | refine below_set ?_ GE824.out) | exact HB.out)⟩⟩
    ·rw [if_neg c11] at H
     have c11b0 : (a0_4.toList == ([] : List UInt8)) = false := beq_eq_false_iff_ne.mpr c11
     have c11b1 : (a0_4.toList != ([] : List UInt8)) = true := bne_iff_ne.mpr c11
     have H' := Aside0.mk H
     clear H
     have hnb23 := NB823_824.out
     have hnc23 := NB824_823.out
     obtain ⟨hcz24_0, hcz24_1, hcz24_2, hcz24_3, hcz24_4, hcz24_5, hcz24_6, hcz24_7, hcz24_8, hcz24_9, hfz24_0, hfz24_1, hfz24_2, hfz24_3, hfz24_4, hfz24_5, hfz24_6, hfz24_7, hfz24_8, hfz24_9⟩ := cells10 BK823.out
     obtain ⟨hcz25_0, hcz25_1, hcz25_2, hcz25_3, hcz25_4, hcz25_5, hcz25_6, hfz25_0, hfz25_1, hfz25_2, hfz25_3, hfz25_4, hfz25_5, hfz25_6⟩ := cells7 BK824.out
     go_wp2
     go_meet
     case rel => exact ⟨_, (false), (by first | rfl | (simp; done) | (simp [*]; done)), H', ⟨by first | omega | exact Nat.le_refl _⟩, ⟨by (with_reducible repeat (first | refine blk_drewN ?_ _ | refine blk_drew ?_ | refine blk_alloc ?_ _)); refine blk_far ?_ NB823_824.out _; (with_reducible repeat (first | refine blk_drewN ?_ _ | refine blk_drew ?_ | refine blk_alloc ?_ _)); refine blk_far ?_ NB823_824.out _; (with_reducible repeat (first | refine blk_drewN ?_ _ | refine blk_drew ?_ | refine blk_alloc ?_ _)); refine blk_far ?_ NB823_824.out _; (with_reducible repeat (first | refine blk_drewN ?_ _ | refine blk_drew ?_ | refine blk_alloc ?_ _)); refine blk_far ?_ NB823_824.out _; (with_reducible repeat (first | refine blk_drewN ?_ _ | refine blk_drew ?_ | refine blk_alloc ?_ _)); refine blk_far ?_ NB823_824.out _; (with_reducible repeat (first | refine blk_drewN ?_ _ | refine blk_drew ?_ | refine blk_alloc ?_ _)); refine blk_far ?_ NB823_824.out _; (with_reducible repeat (first | refine blk_drewN ?_ _ | refine blk_drew ?_ | refine blk_alloc ?_ _)); refine blk_far ?_ NB823_824.out _; (with_reducible repeat (first | refine blk_drewN ?_ _ | refine blk_drew ?_ | refine blk_alloc ?_ _)); exact BK823.out⟩, ⟨by (with_reducible repeat (first | refine blk_drewN ?_ _ | refine blk_drew ?_ | refine blk_alloc ?_ _)); refine blk_put (cs := #[.int .i64 a0_3, .string a0_4, .slice A0_5 l0_5.length c0_5, .int .i64 a0_6, .string a0_7, .string a0_8, .slice none 0 0]) ?_ 6 _ rfl; (with_reducible repeat (first | refine blk_drewN ?_ _ | refine blk_drew ?_ | refine blk_alloc ?_ _)); refine blk_put (cs := #[.int .i64 a0_3, .string a0_4, .slice A0_5 l0_5.length c0_5, .int .i64 a0_6, .string a0_7, .string (⟨#[]⟩ : ByteArray), .slice none 0 0]) ?_ 5 _ rfl; (with_reducible repeat (first | refine blk_drewN ?_ _ | refine blk_drew ?_ | refine blk_alloc ?_ _)); refine blk_put (cs := #[.int .i64 a0_3, .string a0_4, .slice A0_5 l0_5.length c0_5, .int .i64 a0_6, .string (⟨#[]⟩ : ByteArray), .string (⟨#[]⟩ : ByteArray), .slice none 0 0]) ?_ 4 _ rfl; (with_reducible repeat (first | refine blk_drewN ?_ _ | refine blk_drew ?_ | refine blk_alloc ?_ _)); refine blk_put (cs := #[.int .i64 a0_3, .string a0_4, .slice A0_5 l0_5.length c0_5, .int .i64 0, .string (⟨#[]⟩ : ByteArray), .string (⟨#[]⟩ : ByteArray), .slice none 0 0]) ?_ 3 _ rfl; (with_reducible repeat (first | refine blk_drewN ?_ _ | refine blk_drew ?_ | refine blk_alloc ?_ _)); refine blk_put (cs := #[.int .i64 a0_3, .string a0_4, .slice none 0 0, .int .i64 0, .string (⟨#[]⟩ : ByteArray), .string (⟨#[]⟩ : ByteArray), .slice none 0 0]) ?_ 2 _ rfl; (with_reducible repeat (first | refine blk_drewN ?_ _ | refine blk_drew ?_ | refine blk_alloc ?_ _)); refine blk_put (cs := #[.int .i64 a0_3, .string (⟨#[]⟩ : ByteArray), .slice none 0 0, .int .i64 0, .string (⟨#[]⟩ : ByteArray), .string (⟨#[]⟩ : ByteArray), .slice none 0 0]) ?_ 1 _ rfl; (with_reducible repeat (first | refine blk_drewN ?_ _ | refine blk_drew ?_ | refine blk_alloc ?_ _)); refine blk_put (cs := #[.int .i64 0, .string (⟨#[]⟩ : ByteArray), .slice none 0 0, .int .i64 0, .string (⟨#[]⟩ : ByteArray), .string (⟨#[]⟩ : ByteArray), .slice none 0 0]) ?_ 0 _ rfl; (with_reducible repeat (first | refine blk_drewN ?_ _ | refine blk_drew ?_ | refine blk_alloc ?_ _)); exact BK824.out⟩, ⟨by repeat (first | (with_reducible first | exact HB.out | apply below_alloc | apply pw_below_drewN | apply below_drew1 | refine below_set ?_ GE823.out | refine below_set ?_ GE824.out) | exact HB.out)⟩⟩
   ·rw [if_neg c10] at H
    have c10b0 : (a0_3 == 3) = false := beq_eq_false_iff_ne.mpr c10
    have c10b1 : (a0_3 != 3) = true := bne_iff_ne.mpr c10
    have H' := Aside0.mk H
    clear H
    have hnb26 := NB823_824.out
    have hnc26 := NB824_823.out
    obtain ⟨hcz27_0, hcz27_1, hcz27_2, hcz27_3, hcz27_4, hcz27_5, hcz27_6, hcz27_7, hcz27_8, hcz27_9, hfz27_0, hfz27_1, hfz27_2, hfz27_3, hfz27_4, hfz27_5, hfz27_6, hfz27_7, hfz27_8, hfz27_9⟩ := cells10 BK823.out
    obtain ⟨hcz28_0, hcz28_1, hcz28_2, hcz28_3, hcz28_4, hcz28_5, hcz28_6, hfz28_0, hfz28_1, hfz28_2, hfz28_3, hfz28_4, hfz28_5, hfz28_6⟩ := cells7 BK824.out
    go_wp2
    go_meet
    case rel => exact ⟨_, (false), (by first | rfl | (simp; done) | (simp [*]; done)), H', ⟨by first | omega | exact Nat.le_refl _⟩, ⟨by (with_reducible repeat (first | refine blk_drewN ?_ _ | refine blk_drew ?_ | refine blk_alloc ?_ _)); refine blk_far ?_ NB823_824.out _; (with_reducible repeat (first | refine blk_drewN ?_ _ | refine blk_drew ?_ | refine blk_alloc ?_ _)); refine blk_far ?_ NB823_824.out _; (with_reducible repeat (first | refine blk_drewN ?_ _ | refine blk_drew ?_ | refine blk_alloc ?_ _)); refine blk_far ?_ NB823_824.out _; (with_reducible repeat (first | refine blk_drewN ?_ _ | refine blk_drew ?_ | refine blk_alloc ?_ _)); refine blk_far ?_ NB823_824.out _; (with_reducible repeat (first | refine blk_drewN ?_ _ | refine blk_drew ?_ | refine blk_alloc ?_ _)); refine blk_far ?_ NB823_824.out _; (with_reducible repeat (first | refine blk_drewN ?_ _ | refine blk_drew ?_ | refine blk_alloc ?_ _)); refine blk_far ?_ NB823_824.out _; (with_reducible repeat (first | refine blk_drewN ?_ _ | refine blk_drew ?_ | refine blk_alloc ?_ _)); refine blk_far ?_ NB823_824.out _; (with_reducible repeat (first | refine blk_drewN ?_ _ | refine blk_drew ?_ | refine blk_alloc ?_ _)); exact BK823.out⟩, ⟨by (with_reducible repeat (first | refine blk_drewN ?_ _ | refine blk_drew ?_ | refine blk_alloc ?_ _)); refine blk_put (cs := #[.int .i64 a0_3, .string a0_4, .slice A0_5 l0_5.length c0_5, .int .i64 a0_6, .string a0_7, .string a0_8, .slice none 0 0]) ?_ 6 _ rfl; (with_reducible repeat (first | refine blk_drewN ?_ _ | refine blk_drew ?_ | refine blk_alloc ?_ _)); refine blk_put (cs := #[.int .i64 a0_3, .string a0_4, .slice A0_5 l0_5.length c0_5, .int .i64 a0_6, .string a0_7, .string (⟨#[]⟩ : ByteArray), .slice none 0 0]) ?_ 5 _ rfl; (with_reducible repeat (first | refine blk_drewN ?_ _ | refine blk_drew ?_ | refine blk_alloc ?_ _)); refine blk_put (cs := #[.int .i64 a0_3, .string a0_4, .slice A0_5 l0_5.length c0_5, .int .i64 a0_6, .string (⟨#[]⟩ : ByteArray), .string (⟨#[]⟩ : ByteArray), .slice none 0 0]) ?_ 4 _ rfl; (with_reducible repeat (first | refine blk_drewN ?_ _ | refine blk_drew ?_ | refine blk_alloc ?_ _)); refine blk_put (cs := #[.int .i64 a0_3, .string a0_4, .slice A0_5 l0_5.length c0_5, .int .i64 0, .string (⟨#[]⟩ : ByteArray), .string (⟨#[]⟩ : ByteArray), .slice none 0 0]) ?_ 3 _ rfl; (with_reducible repeat (first | refine blk_drewN ?_ _ | refine blk_drew ?_ | refine blk_alloc ?_ _)); refine blk_put (cs := #[.int .i64 a0_3, .string a0_4, .slice none 0 0, .int .i64 0, .string (⟨#[]⟩ : ByteArray), .string (⟨#[]⟩ : ByteArray), .slice none 0 0]) ?_ 2 _ rfl; (with_reducible repeat (first | refine blk_drewN ?_ _ | refine blk_drew ?_ | refine blk_alloc ?_ _)); refine blk_put (cs := #[.int .i64 a0_3, .string (⟨#[]⟩ : ByteArray), .slice none 0 0, .int .i64 0, .string (⟨#[]⟩ : ByteArray), .string (⟨#[]⟩ : ByteArray), .slice none 0 0]) ?_ 1 _ rfl; (with_reducible repeat (first | refine blk_drewN ?_ _ | refine blk_drew ?_ | refine blk_alloc ?_ _)); refine blk_put (cs := #[.int .i64 0, .string (⟨#[]⟩ : ByteArray), .slice none 0 0, .int .i64 0, .string (⟨#[]⟩ : ByteArray), .string (⟨#[]⟩ : ByteArray), .slice none 0 0]) ?_ 0 _ rfl; (with_reducible repeat (first | refine blk_drewN ?_ _ | refine blk_drew ?_ | refine blk_alloc ?_ _)); exact BK824.out⟩, ⟨by repeat (first | (with_reducible first | exact HB.out | apply below_alloc | apply pw_below_drewN | apply below_drew1 | refine below_set ?_ GE823.out | refine below_set ?_ GE824.out) | exact HB.out)⟩⟩
  ·rw [if_neg c9] at H
   have c9b0 : (a0_0 == 1) = false := beq_eq_false_iff_ne.mpr c9
   have c9b1 : (a0_0 != 1) = true := bne_iff_ne.mpr c9
   (first | rw [c9b0] | (simp only [i64_w, i32_w]; rw [c9b0]) | rw [c9b1] | rw [c9b2] | skip)
   have H' := Aside0.mk H
   clear H
   have hnb29 := NB823_824.out
   have hnc29 := NB824_823.out
   obtain ⟨hcz30_0, hcz30_1, hcz30_2, hcz30_3, hcz30_4, hcz30_5, hcz30_6, hcz30_7, hcz30_8, hcz30_9, hfz30_0, hfz30_1, hfz30_2, hfz30_3, hfz30_4, hfz30_5, hfz30_6, hfz30_7, hfz30_8, hfz30_9⟩ := cells10 BK823.out
   go_wp2
   go_meet
   case rel => exact ⟨_, (false), (by first | rfl | (simp; done) | (simp [*]; done)), H', ⟨by first | omega | exact Nat.le_refl _⟩, ⟨by (with_reducible repeat (first | refine blk_drewN ?_ _ | refine blk_drew ?_ | refine blk_alloc ?_ _)); refine blk_far ?_ NB823_824.out _; (with_reducible repeat (first | refine blk_drewN ?_ _ | refine blk_drew ?_ | refine blk_alloc ?_ _)); refine blk_far ?_ NB823_824.out _; (with_reducible repeat (first | refine blk_drewN ?_ _ | refine blk_drew ?_ | refine blk_alloc ?_ _)); refine blk_far ?_ NB823_824.out _; (with_reducible repeat (first | refine blk_drewN ?_ _ | refine blk_drew ?_ | refine blk_alloc ?_ _)); refine blk_far ?_ NB823_824.out _; (with_reducible repeat (first | refine blk_drewN ?_ _ | refine blk_drew ?_ | refine blk_alloc ?_ _)); refine blk_far ?_ NB823_824.out _; (with_reducible repeat (first | refine blk_drewN ?_ _ | refine blk_drew ?_ | refine blk_alloc ?_ _)); refine blk_far ?_ NB823_824.out _; (with_reducible repeat (first | refine blk_drewN ?_ _ | refine blk_drew ?_ | refine blk_alloc ?_ _)); refine blk_far ?_ NB823_824.out _; (with_reducible repeat (first | refine blk_drewN ?_ _ | refine blk_drew ?_ | refine blk_alloc ?_ _)); exact BK823.out⟩, ⟨by (with_reducible repeat (first | refine blk_drewN ?_ _ | refine blk_drew ?_ | refine blk_alloc ?_ _)); refine blk_put (cs := #[.int .i64 a0_3, .string a0_4, .slice A0_5 l0_5.length c0_5, .int .i64 a0_6, .string a0_7, .string a0_8, .slice none 0 0]) ?_ 6 _ rfl; (with_reducible repeat (first | refine blk_drewN ?_ _ | refine blk_drew ?_ | refine blk_alloc ?_ _)); refine blk_put (cs := #[.int .i64 a0_3, .string a0_4, .slice A0_5 l0_5.length c0_5, .int .i64 a0_6, .string a0_7, .string (⟨#[]⟩ : ByteArray), .slice none 0 0]) ?_ 5 _ rfl; (with_reducible repeat (first | refine blk_drewN ?_ _ | refine blk_drew ?_ | refine blk_alloc ?_ _)); refine blk_put (cs := #[.int .i64 a0_3, .string a0_4, .slice A0_5 l0_5.length c0_5, .int .i64 a0_6, .string (⟨#[]⟩ : ByteArray), .string (⟨#[]⟩ : ByteArray), .slice none 0 0]) ?_ 4 _ rfl; (with_reducible repeat (first | refine blk_drewN ?_ _ | refine blk_drew ?_ | refine blk_alloc ?_ _)); refine blk_put (cs := #[.int .i64 a0_3, .string a0_4, .slice A0_5 l0_5.length c0_5, .int .i64 0, .string (⟨#[]⟩ : ByteArray), .string (⟨#[]⟩ : ByteArray), .slice none 0 0]) ?_ 3 _ rfl; (with_reducible repeat (first | refine blk_drewN ?_ _ | refine blk_drew ?_ | refine blk_alloc ?_ _)); refine blk_put (cs := #[.int .i64 a0_3, .string a0_4, .slice none 0 0, .int .i64 0, .string (⟨#[]⟩ : ByteArray), .string (⟨#[]⟩ : ByteArray), .slice none 0 0]) ?_ 2 _ rfl; (with_reducible repeat (first | refine blk_drewN ?_ _ | refine blk_drew ?_ | refine blk_alloc ?_ _)); refine blk_put (cs := #[.int .i64 a0_3, .string (⟨#[]⟩ : ByteArray), .slice none 0 0, .int .i64 0, .string (⟨#[]⟩ : ByteArray), .string (⟨#[]⟩ : ByteArray), .slice none 0 0]) ?_ 1 _ rfl; (with_reducible repeat (first | refine blk_drewN ?_ _ | refine blk_drew ?_ | refine blk_alloc ?_ _)); refine blk_put (cs := #[.int .i64 0, .string (⟨#[]⟩ : ByteArray), .slice none 0 0, .int .i64 0, .string (⟨#[]⟩ : ByteArray), .string (⟨#[]⟩ : ByteArray), .slice none 0 0]) ?_ 0 _ rfl; (with_reducible repeat (first | refine blk_drewN ?_ _ | refine blk_drew ?_ | refine blk_alloc ?_ _)); exact BK824.out⟩, ⟨by repeat (first | (with_reducible first | exact HB.out | apply below_alloc | apply pw_below_drewN | apply below_drew1 | refine below_set ?_ GE823.out | refine below_set ?_ GE824.out) | exact HB.out)⟩⟩
 case rest =>
  clear HC2
  try clear hcz4_0 hcz4_1 hcz4_2 hcz4_3 hcz4_4 hcz4_5 hcz4_6 hcz4_7 hcz4_8 hcz4_9 hfz4_0 hfz4_1 hfz4_2 hfz4_3 hfz4_4 hfz4_5 hfz4_6 hfz4_7 hfz4_8 hfz4_9
  try clear hcz7_0 hcz7_1 hcz7_2 hcz7_3 hcz7_4 hcz7_5 hcz7_6 hfz7_0 hfz7_1 hfz7_2 hfz7_3 hfz7_4 hfz7_5 hfz7_6
  try clear hcz8_0 hcz8_1 hcz8_2 hcz8_3 hcz8_4 hcz8_5 hcz8_6 hcz8_7 hcz8_8 hcz8_9 hfz8_0 hfz8_1 hfz8_2 hfz8_3 hfz8_4 hfz8_5 hfz8_6 hfz8_7 hfz8_8 hfz8_9
  obtain ⟨kq, x33_1, rfl, HA, HJ1, BK823, BK824, HB⟩ := hcut
  cases kq with
  | zero => exact absurd HA.out (by simp [rafterref35_Line.j0])
  | succ kj1 =>
   have H := HA.out
   clear HA
   simp only [rafterref35_Line.j0] at H
   by_cases c31 : x33_1 = true
   ·subst c31
    have H1 : ((some (([(⟨#[112, 117, 108, 108]⟩ : ByteArray), a0_1, a0_2] : List ByteArray) : List ByteArray)).bind fun y826 => (if y826.length + l0_5.length < 8796093022208 then (some (y826 ++ l0_5)) else (none))) = some r := by rw [if_pos rfl] at H; exact H
    clear H
    have H := H1
    clear H1
    obtain ⟨y826, hy826⟩ : ∃ y_ : List ByteArray, y_ = (([(⟨#[112, 117, 108, 108]⟩ : ByteArray), a0_1, a0_2] : List ByteArray)) := ⟨_, rfl⟩
    replace H : (if y826.length + l0_5.length < 8796093022208 then (some (y826 ++ l0_5)) else (none)) = some r := by first | (rw [hy826]; with_reducible exact H) | (have H2_ := (Option.bind_some _ _).symm.trans H; rw [hy826]; with_reducible exact H2_) | (have H2_ := (Option.bind_some _ _).symm.trans H; with_reducible exact H2_) | with_reducible exact H | (rw [hy826]; exact H) | exact H
    have Ny826 := Aside0.mk hy826
    clear hy826
    by_cases c32 : y826.length + l0_5.length < 8796093022208
    ·rw [if_pos c32] at H
     have LMc32 := Aside0.mk c32
     clear c32
     obtain ⟨y829, hy829⟩ : ∃ y_ : List ByteArray, y_ = (y826 ++ l0_5) := ⟨_, rfl⟩
     replace H : (some y829) = some r := by first | (rw [hy829]; with_reducible exact H) | (have H2_ := (Option.bind_some _ _).symm.trans H; rw [hy829]; with_reducible exact H2_) | (have H2_ := (Option.bind_some _ _).symm.trans H; with_reducible exact H2_) | with_reducible exact H | (rw [hy829]; exact H) | exact H
     have Ny829 := Aside0.mk hy829
     clear hy829
     obtain rfl := Option.some.inj H
     have hnb33 := NB823_824.out
     have hnc33 := NB824_823.out
     obtain ⟨hcz34_0, hcz34_1, hcz34_2, hcz34_3, hcz34_4, hcz34_5, hcz34_6, hcz34_7, hcz34_8, hcz34_9, hfz34_0, hfz34_1, hfz34_2, hfz34_3, hfz34_4, hfz34_5, hfz34_6, hfz34_7, hfz34_8, hfz34_9⟩ := cells10 BK823.out
     go_wp2_with (first | ((with_reducible refine gate_dst (N := 37) rfl ?_); (try (refine gate_guard (by rfl) ?_; dsimp only)); refine Kd.R_lit Kd.string _ 9 ?hg (N := 37) ?hd (xs := ([(⟨#[112, 117, 108, 108]⟩ : ByteArray), a0_1, a0_2] : List ByteArray)) (inner := [.string (⟨#[112, 117, 108, 108]⟩ : ByteArray), .string a0_1, .string a0_2]) (ok := fun _ => True) (okp := fun _ => True) ?hr ?hp (fun _ hk => hk) trivial (Below.refl _ _) (Nat.le_refl _) (by simp) ?_; (case hd => rfl); (case hg => rfl); (case hr => first | (go_simp; done) | (go_simp; rfl)); (case hp => exact (Reps.one (show Kd.M Kd.string _ _ _ (⟨#[112, 117, 108, 108]⟩ : ByteArray) [.string (⟨#[112, 117, 108, 108]⟩ : ByteArray)] from rfl) (Reps.one (show Kd.M Kd.string _ _ _ a0_1 [.string a0_1] from rfl) (Reps.one (show Kd.M Kd.string _ _ _ a0_2 [.string a0_2] from rfl) (Reps.none _ _))))); intro v827 w35 ho36 hb hg_ hnew_; clear hg_ hnew_; (first | rw [← Ny826.out] at ho36 | (simp only [Int.reduceToNat] at ho36; rw [← Ny826.out] at ho36)); have n0_ := Aside0.mk (Kd.R_lower ho36 (below_size (by repeat (first | (with_reducible first | exact HB.out | apply below_alloc | apply pw_below_drewN | apply below_drew1 | refine below_set ?_ GE823.out | refine below_set ?_ GE824.out) | exact HB.out)))); have n1_ := Aside0.mk (blk_below (g := gb823) (o := .cells #[.int .i64 a0_0, .string a0_1, .string a0_2, .int .i64 a0_3, .string a0_4, .slice A0_5 l0_5.length c0_5, .int .i64 a0_6, .string a0_7, .string a0_8, .slice A0_9 l0_9.length c0_9] 34 (0, 0)) (by (with_reducible repeat (first | refine blk_drewN ?_ _ | refine blk_drew ?_ | refine blk_alloc ?_ _)); exact BK823.out) hb); have n2_ := Aside0.mk (blk_below (g := gb824) (o := .cells #[.int .i64 a0_3, .string a0_4, .slice A0_5 l0_5.length c0_5, .int .i64 a0_6, .string a0_7, .string a0_8, .slice A0_9 l0_9.length c0_9] 32 (0, 0)) (by (with_reducible repeat (first | refine blk_drewN ?_ _ | refine blk_drew ?_ | refine blk_alloc ?_ _)); exact BK824.out) hb); have n3_ := Aside0.mk (below_step (by repeat (first | (with_reducible first | exact HB.out | apply below_alloc | apply pw_below_drewN | apply below_drew1 | refine below_set ?_ GE823.out | refine below_set ?_ GE824.out) | exact HB.out)) hb); clear BK823; clear BK824; clear HB; have HO828 := n0_; have BK823 := n1_; have BK824 := n2_; have HB := n3_; clear n0_ n1_ n2_ n3_; clear hb ho36; have hcz37_0 : w35.cell? ⟨gb824, 0, none⟩ = some (.int .i64 a0_3) := (blk_cell BK824.out 0).trans rfl; have hcz37_1 : w35.cell? ⟨gb824, 1, none⟩ = some (.string a0_4) := (blk_cell BK824.out 1).trans rfl; have hcz37_2 : w35.cell? ⟨gb824, 2, none⟩ = some (.slice A0_5 l0_5.length c0_5) := (blk_cell BK824.out 2).trans rfl; have hcz37_3 : w35.cell? ⟨gb824, 3, none⟩ = some (.int .i64 a0_6) := (blk_cell BK824.out 3).trans rfl; have hcz37_4 : w35.cell? ⟨gb824, 4, none⟩ = some (.string a0_7) := (blk_cell BK824.out 4).trans rfl; have hcz37_5 : w35.cell? ⟨gb824, 5, none⟩ = some (.string a0_8) := (blk_cell BK824.out 5).trans rfl; have hcz37_6 : w35.cell? ⟨gb824, 6, none⟩ = some (.slice A0_9 l0_9.length c0_9) := (blk_cell BK824.out 6).trans rfl; have hfz37_0 := blk_frozen BK824.out 0; have hfz37_1 := blk_frozen BK824.out 1; have hfz37_2 := blk_frozen BK824.out 2; have hfz37_3 := blk_frozen BK824.out 3; have hfz37_4 := blk_frozen BK824.out 4; have hfz37_5 := blk_frozen BK824.out 5; have hfz37_6 := blk_frozen BK824.out 6) | ((with_reducible refine gate_builtin (b := .append) (xs := #[.tmp 37, .tmp 39]) rfl ?_); (try (refine gate_guard (by rfl) ?_; dsimp only)); at_builtin; refine Kd.R_append_rows Kd.string (w0 := w) w.heap.size rfl (.tmp 37) (.tmp 39) 28 9 (.string ⟨#[]⟩) 16 rfl Tryd.underlying28 info9 rfl (by decide) (by omega) v827 y826 l0_5 _ _ _ (fun _ => True) (fun _ => False) rfl rfl ?aO ?aR (fun _ _ h => h) (fun _ h => h.elim) ?aF ?aB ?aS ?aL ?_; (case aR => repeat (first | exact (Kd.C_below HR0_5.out HB.out) | (with_reducible refine Kd.C_alloc ?_ _) | (with_reducible refine Kd.C_drewN ?_ _) | (with_reducible refine Kd.C_drew ?_))); (case aB => exact (by repeat (first | (with_reducible first | exact HB.out | apply below_alloc | apply pw_below_drewN | apply below_drew1 | refine below_set ?_ GE823.out | refine below_set ?_ GE824.out) | exact HB.out))); (case aF => exact (fun _ _ => trivial)); (case aO => exact (by (with_reducible repeat (first | apply Kd.R_alloc | apply Kd.R_drewN | apply Kd.R_drew)); exact HO828.out)); (case aS => exact (below_size (by repeat (first | (with_reducible first | exact HB.out | apply below_alloc | apply pw_below_drewN | apply below_drew1 | refine below_set ?_ GE823.out | refine below_set ?_ GE824.out) | exact HB.out)))); (case aL => have := LMc32.out; omega); intro v830 w38 ho hb hg hat; rw [← Ny829.out] at ho; have n0_ := Aside0.mk (blk_grown (g := gb823) (o := .cells #[.int .i64 a0_0, .string a0_1, .string a0_2, .int .i64 a0_3, .string a0_4, .slice A0_5 l0_5.length c0_5, .int .i64 a0_6, .string a0_7, .string a0_8, .slice A0_9 l0_9.length c0_9] 34 (0, 0)) (by (with_reducible repeat (first | refine blk_drewN ?_ _ | refine blk_drew ?_ | refine blk_alloc ?_ _)); exact BK823.out) hg (Kd.R_ne HO828.out BK823.out (by decide))); have n1_ := Aside0.mk (blk_grown (g := gb824) (o := .cells #[.int .i64 a0_3, .string a0_4, .slice A0_5 l0_5.length c0_5, .int .i64 a0_6, .string a0_7, .string a0_8, .slice A0_9 l0_9.length c0_9] 32 (0, 0)) (by (with_reducible repeat (first | refine blk_drewN ?_ _ | refine blk_drew ?_ | refine blk_alloc ?_ _)); exact BK824.out) hg (Kd.R_ne HO828.out BK824.out (by decide))); have n2_ := Aside0.mk (hb); have n3_ := Aside0.mk (ho); clear BK823; clear BK824; clear HB; clear HO828; have BK823 := n0_; have BK824 := n1_; have HB := n2_; have HO831 := n3_; clear n0_ n1_ n2_ n3_; clear ho hb hg hat))
     go_ret
     exact ⟨_, by first | rfl | (simp [errW_none, errW_some] <;> rfl) | (simp [*, errW_none, errW_some] <;> rfl), by (with_reducible repeat (first | apply Kd.R_alloc | apply Kd.R_drewN | apply Kd.R_drew)); exact HO831.out, by repeat (first | (with_reducible first | exact HB.out | apply below_alloc | apply pw_below_drewN | apply below_drew1 | refine below_set ?_ GE823.out | refine below_set ?_ GE824.out) | exact HB.out)⟩
    ·rw [if_neg c32] at H
     exact absurd H (by simp)
   ·replace c31 := Bool.eq_false_iff.mpr c31
    subst c31
    have H1 : (if a0_2.toList = ([] : List UInt8) then (if a0_0 = 1 then (if a0_3 = 0 then (if a0_4.toList = ([] : List UInt8) then (rafterref35_Line.j1 kj1 a0_1 ((l0_5.length : Int) == 0) a0_0 a0_1 a0_2 a0_3 a0_4 l0_5 a0_6 a0_7 a0_8 l0_9 a0_3 a0_4 l0_5 a0_6 a0_7 a0_8 l0_9) else (rafterref35_Line.j1 kj1 a0_1 false a0_0 a0_1 a0_2 a0_3 a0_4 l0_5 a0_6 a0_7 a0_8 l0_9 a0_3 a0_4 l0_5 a0_6 a0_7 a0_8 l0_9)) else (rafterref35_Line.j1 kj1 a0_1 false a0_0 a0_1 a0_2 a0_3 a0_4 l0_5 a0_6 a0_7 a0_8 l0_9 a0_3 a0_4 l0_5 a0_6 a0_7 a0_8 l0_9)) else (rafterref35_Line.j1 kj1 a0_1 false a0_0 a0_1 a0_2 a0_3 a0_4 l0_5 a0_6 a0_7 a0_8 l0_9 a0_3 a0_4 l0_5 a0_6 a0_7 a0_8 l0_9)) else (some ([] : List ByteArray))) = some r := by rw [if_neg (show ¬ (false = true) by decide)] at H; exact H
    clear H
    have H := H1
    clear H1
    by_cases c39 : a0_2.toList = ([] : List UInt8)
    ·rw [if_pos c39] at H
     have c39b0 : (a0_2.toList == ([] : List UInt8)) = true := beq_iff_eq.mpr c39
     have c39b1 : (a0_2.toList != ([] : List UInt8)) = false := bne_eq_false_iff_eq.mpr c39
     clear c39
     have HC40 := Aside0.mk H
     clear H
     have hnb41 := NB823_824.out
     have hnc41 := NB824_823.out
     obtain ⟨hcz42_0, hcz42_1, hcz42_2, hcz42_3, hcz42_4, hcz42_5, hcz42_6, hcz42_7, hcz42_8, hcz42_9, hfz42_0, hfz42_1, hfz42_2, hfz42_3, hfz42_4, hfz42_5, hfz42_6, hfz42_7, hfz42_8, hfz42_9⟩ := cells10 BK823.out
     go_upto_region 7 with (fail)
     go_cut [62] (fun v62 wc => ∃ (kq : Nat) (x62_39 : Bool), v62 = .bool x62_39 ∧ Aside0 (rafterref35_Line.j1 kq a0_1 x62_39 a0_0 a0_1 a0_2 a0_3 a0_4 l0_5 a0_6 a0_7 a0_8 l0_9 a0_3 a0_4 l0_5 a0_6 a0_7 a0_8 l0_9 = some r) ∧ Aside0 (kq ≤ kj1) ∧ Aside0 (wc.heap[gb823]? = some (.cells #[.int .i64 a0_0, .string a0_1, .string a0_2, .int .i64 a0_3, .string a0_4, (.slice A0_5 l0_5.length c0_5), .int .i64 a0_6, .string a0_7, .string a0_8, (.slice A0_9 l0_9.length c0_9)] 34 (0, 0))) ∧ Aside0 (wc.heap[gb824]? = some (.cells #[.int .i64 a0_3, .string a0_4, (.slice A0_5 l0_5.length c0_5), .int .i64 a0_6, .string a0_7, .string a0_8, (.slice A0_9 l0_9.length c0_9)] 32 (0, 0))) ∧ Aside0 (Below w.heap.size w wc))
     case first =>
      have H := HC40.out
      clear HC40
      by_cases c43 : a0_0 = 1
      ·rw [if_pos c43] at H
       have c43b0 : (a0_0 == 1) = true := beq_iff_eq.mpr c43
       have c43b1 : (a0_0 != 1) = false := bne_eq_false_iff_eq.mpr c43
       clear c43
       (first | rw [c43b0] | (simp only [i64_w, i32_w]; rw [c43b0]) | rw [c43b1] | rw [c43b2] | skip)
       by_cases c44 : a0_3 = 0
       ·rw [if_pos c44] at H
        have c44b0 : (a0_3 == 0) = true := beq_iff_eq.mpr c44
        have c44b1 : (a0_3 != 0) = false := bne_eq_false_iff_eq.mpr c44
        clear c44
        by_cases c45 : a0_4.toList = ([] : List UInt8)
        ·rw [if_pos c45] at H
         have c45b0 : (a0_4.toList == ([] : List UInt8)) = true := beq_iff_eq.mpr c45
         have c45b1 : (a0_4.toList != ([] : List UInt8)) = false := bne_eq_false_iff_eq.mpr c45
         clear c45
         have H' := Aside0.mk H
         clear H
         have hnb46 := NB823_824.out
         have hnc46 := NB824_823.out
         obtain ⟨hcz47_0, hcz47_1, hcz47_2, hcz47_3, hcz47_4, hcz47_5, hcz47_6, hcz47_7, hcz47_8, hcz47_9, hfz47_0, hfz47_1, hfz47_2, hfz47_3, hfz47_4, hfz47_5, hfz47_6, hfz47_7, hfz47_8, hfz47_9⟩ := cells10 BK823.out
         obtain ⟨hcz48_0, hcz48_1, hcz48_2, hcz48_3, hcz48_4, hcz48_5, hcz48_6, hfz48_0, hfz48_1, hfz48_2, hfz48_3, hfz48_4, hfz48_5, hfz48_6⟩ := cells7 BK824.out
         go_wp2
         go_meet
         case rel => exact ⟨_, (((l0_5.length : Int) == 0)), (by first | rfl | (simp; done) | (simp [*]; done)), H', ⟨by have := HJ1.out; first | omega | exact Nat.le_refl _⟩, ⟨by (with_reducible repeat (first | refine blk_drewN ?_ _ | refine blk_drew ?_ | refine blk_alloc ?_ _)); exact BK823.out⟩, ⟨by (with_reducible repeat (first | refine blk_drewN ?_ _ | refine blk_drew ?_ | refine blk_alloc ?_ _)); exact BK824.out⟩, ⟨by repeat (first | (with_reducible first | exact HB.out | apply below_alloc | apply pw_below_drewN | apply below_drew1 | refine below_set ?_ GE823.out | refine below_set ?_ GE824.out) | exact HB.out)⟩⟩
        ·rw [if_neg c45] at H
         have c45b0 : (a0_4.toList == ([] : List UInt8)) = false := beq_eq_false_iff_ne.mpr c45
         have c45b1 : (a0_4.toList != ([] : List UInt8)) = true := bne_iff_ne.mpr c45
         have H' := Aside0.mk H
         clear H
         have hnb49 := NB823_824.out
         have hnc49 := NB824_823.out
         obtain ⟨hcz50_0, hcz50_1, hcz50_2, hcz50_3, hcz50_4, hcz50_5, hcz50_6, hcz50_7, hcz50_8, hcz50_9, hfz50_0, hfz50_1, hfz50_2, hfz50_3, hfz50_4, hfz50_5, hfz50_6, hfz50_7, hfz50_8, hfz50_9⟩ := cells10 BK823.out
         obtain ⟨hcz51_0, hcz51_1, hcz51_2, hcz51_3, hcz51_4, hcz51_5, hcz51_6, hfz51_0, hfz51_1, hfz51_2, hfz51_3, hfz51_4, hfz51_5, hfz51_6⟩ := cells7 BK824.out
         go_wp2
         go_meet
         case rel => exact ⟨_, (false), (by first | rfl | (simp; done) | (simp [*]; done)), H', ⟨by have := HJ1.out; first | omega | exact Nat.le_refl _⟩, ⟨by (with_reducible repeat (first | refine blk_drewN ?_ _ | refine blk_drew ?_ | refine blk_alloc ?_ _)); exact BK823.out⟩, ⟨by (with_reducible repeat (first | refine blk_drewN ?_ _ | refine blk_drew ?_ | refine blk_alloc ?_ _)); exact BK824.out⟩, ⟨by repeat (first | (with_reducible first | exact HB.out | apply below_alloc | apply pw_below_drewN | apply below_drew1 | refine below_set ?_ GE823.out | refine below_set ?_ GE824.out) | exact HB.out)⟩⟩
       ·rw [if_neg c44] at H
        have c44b0 : (a0_3 == 0) = false := beq_eq_false_iff_ne.mpr c44
        have c44b1 : (a0_3 != 0) = true := bne_iff_ne.mpr c44
        have H' := Aside0.mk H
        clear H
        have hnb52 := NB823_824.out
        have hnc52 := NB824_823.out
        obtain ⟨hcz53_0, hcz53_1, hcz53_2, hcz53_3, hcz53_4, hcz53_5, hcz53_6, hcz53_7, hcz53_8, hcz53_9, hfz53_0, hfz53_1, hfz53_2, hfz53_3, hfz53_4, hfz53_5, hfz53_6, hfz53_7, hfz53_8, hfz53_9⟩ := cells10 BK823.out
        obtain ⟨hcz54_0, hcz54_1, hcz54_2, hcz54_3, hcz54_4, hcz54_5, hcz54_6, hfz54_0, hfz54_1, hfz54_2, hfz54_3, hfz54_4, hfz54_5, hfz54_6⟩ := cells7 BK824.out
        go_wp2
        go_meet
        case rel => exact ⟨_, (false), (by first | rfl | (simp; done) | (simp [*]; done)), H', ⟨by have := HJ1.out; first | omega | exact Nat.le_refl _⟩, ⟨by (with_reducible repeat (first | refine blk_drewN ?_ _ | refine blk_drew ?_ | refine blk_alloc ?_ _)); exact BK823.out⟩, ⟨by (with_reducible repeat (first | refine blk_drewN ?_ _ | refine blk_drew ?_ | refine blk_alloc ?_ _)); exact BK824.out⟩, ⟨by repeat (first | (with_reducible first | exact HB.out | apply below_alloc | apply pw_below_drewN | apply below_drew1 | refine below_set ?_ GE823.out | refine below_set ?_ GE824.out) | exact HB.out)⟩⟩
      ·rw [if_neg c43] at H
       have c43b0 : (a0_0 == 1) = false := beq_eq_false_iff_ne.mpr c43
       have c43b1 : (a0_0 != 1) = true := bne_iff_ne.mpr c43
       (first | rw [c43b0] | (simp only [i64_w, i32_w]; rw [c43b0]) | rw [c43b1] | rw [c43b2] | skip)
       have H' := Aside0.mk H
       clear H
       have hnb55 := NB823_824.out
       have hnc55 := NB824_823.out
       obtain ⟨hcz56_0, hcz56_1, hcz56_2, hcz56_3, hcz56_4, hcz56_5, hcz56_6, hcz56_7, hcz56_8, hcz56_9, hfz56_0, hfz56_1, hfz56_2, hfz56_3, hfz56_4, hfz56_5, hfz56_6, hfz56_7, hfz56_8, hfz56_9⟩ := cells10 BK823.out
       go_wp2
       go_meet
       case rel => exact ⟨_, (false), (by first | rfl | (simp; done) | (simp [*]; done)), H', ⟨by have := HJ1.out; first | omega | exact Nat.le_refl _⟩, ⟨by (with_reducible repeat (first | refine blk_drewN ?_ _ | refine blk_drew ?_ | refine blk_alloc ?_ _)); exact BK823.out⟩, ⟨by (with_reducible repeat (first | refine blk_drewN ?_ _ | refine blk_drew ?_ | refine blk_alloc ?_ _)); exact BK824.out⟩, ⟨by repeat (first | (with_reducible first | exact HB.out | apply below_alloc | apply pw_below_drewN | apply below_drew1 | refine below_set ?_ GE823.out | refine below_set ?_ GE824.out) | exact HB.out)⟩⟩
     case rest =>
      clear HC40
      try clear c31
      try clear c39
      try clear c39b0
      try clear c39b1
      try clear hcz42_0 hcz42_1 hcz42_2 hcz42_3 hcz42_4 hcz42_5 hcz42_6 hcz42_7 hcz42_8 hcz42_9 hfz42_0 hfz42_1 hfz42_2 hfz42_3 hfz42_4 hfz42_5 hfz42_6 hfz42_7 hfz42_8 hfz42_9
      try clear hcz4_0 hcz4_1 hcz4_2 hcz4_3 hcz4_4 hcz4_5 hcz4_6 hcz4_7 hcz4_8 hcz4_9 hfz4_0 hfz4_1 hfz4_2 hfz4_3 hfz4_4 hfz4_5 hfz4_6 hfz4_7 hfz4_8 hfz4_9
      try clear hcz7_0 hcz7_1 hcz7_2 hcz7_3 hcz7_4 hcz7_5 hcz7_6 hfz7_0 hfz7_1 hfz7_2 hfz7_3 hfz7_4 hfz7_5 hfz7_6
      try clear hcz8_0 hcz8_1 hcz8_2 hcz8_3 hcz8_4 hcz8_5 hcz8_6 hcz8_7 hcz8_8 hcz8_9 hfz8_0 hfz8_1 hfz8_2 hfz8_3 hfz8_4 hfz8_5 hfz8_6 hfz8_7 hfz8_8 hfz8_9
      obtain ⟨kq, x62_39, rfl, HA, HJ39, BK823, BK824, HB⟩ := hcut
      cases kq with
      | zero => exact absurd HA.out (by simp [rafterref35_Line.j1])
      | succ kj39 =>
       have H := HA.out
       clear HA
       simp only [rafterref35_Line.j1] at H
       by_cases c57 : x62_39 = true
       ·subst c57
        have H1 : ((rafterref35_edit.f kj39 a0_1 a0_6 a0_7 a0_8 l0_9).bind fun t832 => (some t832)) = some r := by rw [if_pos rfl] at H; exact H
        clear H
        have H := H1
        clear H1
        replace H := Option.bind_eq_some_iff.mp H
        obtain ⟨t832, A580, H⟩ := H
        replace H : (some t832) = some r := H
        have A58 := Aside0.mk A580
        clear A580
        obtain rfl := Option.some.inj H
        have hnb59 := NB824_823.out
        have hnc59 := NB823_824.out
        obtain ⟨hcz60_0, hcz60_1, hcz60_2, hcz60_3, hcz60_4, hcz60_5, hcz60_6, hfz60_0, hfz60_1, hfz60_2, hfz60_3, hfz60_4, hfz60_5, hfz60_6⟩ := cells7 BK824.out
        go_wp2_with (first | ((with_reducible refine gate_callee (f := 60) rfl ?_); refine goesL_ (some 66) rfl rfl Tryd.func60 (by kernel_rfl) rfl #[.string a0_1, .agg #[.int .i64 a0_6, .string a0_7, .string a0_8, .slice A0_9 l0_9.length c0_9]] rfl (by (try simp only [List.map_toArray, List.map_cons, List.map_nil]); first | done | rfl | (simp only [List.length_drop, List.length_take]; rfl) | ((repeat rw [IntWalk.u64_in]) <;> first | rfl | omega)) ?_; (with_reducible refine (rafterref35_edit.calls kj39 a0_1 a0_6 a0_7 a0_8 _ _ l0_9 t832 _ ?side1 ?side2 A58.out).mono ?_); (case side1 => repeat (first | exact (Kd.C_below HR0_9.out HB.out) | (with_reducible refine Kd.C_alloc ?_ _) | (with_reducible refine Kd.C_drewN ?_ _) | (with_reducible refine Kd.C_drew ?_))); (case side2 => exact HC0_9.out); rintro e w61 ⟨v833, rfl, ho0, hb⟩; refine ⟨_, rfl, ?_⟩; have n0_ := Aside0.mk (Kd.R_lower ho0 (below_size (by repeat (first | (with_reducible first | exact HB.out | apply below_alloc | apply pw_below_drewN | apply below_drew1 | refine below_set ?_ GE823.out | refine below_set ?_ GE824.out) | exact HB.out)))); have n1_ := Aside0.mk (blk_below (g := gb823) (o := .cells #[.int .i64 a0_0, .string a0_1, .string a0_2, .int .i64 a0_3, .string a0_4, .slice A0_5 l0_5.length c0_5, .int .i64 a0_6, .string a0_7, .string a0_8, .slice A0_9 l0_9.length c0_9] 34 (0, 0)) (by (with_reducible repeat (first | refine blk_drewN ?_ _ | refine blk_drew ?_ | refine blk_alloc ?_ _)); exact BK823.out) hb); have n2_ := Aside0.mk (blk_below (g := gb824) (o := .cells #[.int .i64 a0_3, .string a0_4, .slice A0_5 l0_5.length c0_5, .int .i64 a0_6, .string a0_7, .string a0_8, .slice A0_9 l0_9.length c0_9] 32 (0, 0)) (by (with_reducible repeat (first | refine blk_drewN ?_ _ | refine blk_drew ?_ | refine blk_alloc ?_ _)); exact BK824.out) hb); have n3_ := Aside0.mk (below_step (by repeat (first | (with_reducible first | exact HB.out | apply below_alloc | apply pw_below_drewN | apply below_drew1 | refine below_set ?_ GE823.out | refine below_set ?_ GE824.out) | exact HB.out)) hb); clear BK823; clear BK824; clear HB; have HO834 := n0_; have BK823 := n1_; have BK824 := n2_; have HB := n3_; clear n0_ n1_ n2_ n3_; (try clear hb); (try clear hb2); (try clear hk); (try clear hi); (try clear ho0)))
        go_ret
        exact ⟨_, by first | rfl | (simp [errW_none, errW_some] <;> rfl) | (simp [*, errW_none, errW_some] <;> rfl), by (with_reducible repeat (first | apply Kd.R_alloc | apply Kd.R_drewN | apply Kd.R_drew)); exact HO834.out, by repeat (first | (with_reducible first | exact HB.out | apply below_alloc | apply pw_below_drewN | apply below_drew1 | refine below_set ?_ GE823.out | refine below_set ?_ GE824.out) | exact HB.out)⟩
       ·replace c57 := Bool.eq_false_iff.mpr c57
        subst c57
        have H1 : ((rafterref35_none.f a0_6 a0_7 a0_8 l0_9).bind fun t835 => (if t835 = true then (rafterref35_Line.j2 kj39 a0_1 (a0_6 != 0) a0_0 a0_1 a0_2 a0_3 a0_4 l0_5 a0_6 a0_7 a0_8 l0_9 a0_3 a0_4 l0_5 a0_6 a0_7 a0_8 l0_9) else (rafterref35_Line.j2 kj39 a0_1 true a0_0 a0_1 a0_2 a0_3 a0_4 l0_5 a0_6 a0_7 a0_8 l0_9 a0_3 a0_4 l0_5 a0_6 a0_7 a0_8 l0_9))) = some r := by rw [if_neg (show ¬ (false = true) by decide)] at H; exact H
        clear H
        have H := H1
        clear H1
        have HC62 := Aside0.mk H
        clear H
        go_upto_region 9 with (fail)
        rename_i a_x1 _ a_x
        exact rafterref35_Line.part9 HR0_5 HR0_9 HC0_9 GW823 GE823 GW824 GE824 NB823_824 NB824_823 HJ1 BK823 BK824 HB HJ39 HC62 rfl a_x1 a_x
    ·rw [if_neg c39] at H
     have c39b0 : (a0_2.toList == ([] : List UInt8)) = false := beq_eq_false_iff_ne.mpr c39
     have c39b1 : (a0_2.toList != ([] : List UInt8)) = true := bne_iff_ne.mpr c39
     obtain rfl := Option.some.inj H
     have hnb183 := NB823_824.out
     have hnc183 := NB824_823.out
     obtain ⟨hcz184_0, hcz184_1, hcz184_2, hcz184_3, hcz184_4, hcz184_5, hcz184_6, hcz184_7, hcz184_8, hcz184_9, hfz184_0, hfz184_1, hfz184_2, hfz184_3, hfz184_4, hfz184_5, hfz184_6, hfz184_7, hfz184_8, hfz184_9⟩ := cells10 BK823.out
     go_wp2
     go_ret
     exact ⟨_, by first | rfl | (simp [errW_none, errW_some] <;> rfl) | (simp [*, errW_none, errW_some] <;> rfl), by first | exact Kd.R_nil _ _ _ _ _ | exact Kd.N_nil _ _ _ _ _ | exact Kd.V_nil _ _ _ _ _ | exact Kd.Q_nil _ _ _ _ _ | exact Kd.S_nil _ _ _ _ _, by repeat (first | (with_reducible first | exact HB.out | apply below_alloc | apply pw_below_drewN | apply below_drew1 | refine below_set ?_ GE823.out | refine below_set ?_ GE824.out) | exact HB.out)⟩
end Go.Proofs.YtloibeefopdhpaaDoor.G
