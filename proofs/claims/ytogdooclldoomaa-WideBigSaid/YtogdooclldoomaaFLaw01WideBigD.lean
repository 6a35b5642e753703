-- Contracts of functions, laid by a program of this session (wip/xp/xp.py)
import Derived.Test.YtogdooclldoomaaF0
import Derived.Test.YtogdooclldoomaaFeq
import Derived.Test.YtogdooclldoomaaFRef01A
import Derived.Test.YtogdooclldoomaaFRef01B
import Derived.Test.YtogdooclldoomaaFWideA
import Derived.Test.YtogdooclldoomaaFLaw01small
import Derived.Test.YtogdooclldoomaaFRef01C
import Derived.Test.YtogdooclldoomaaFLaw01big
import Derived.Test.YtogdooclldoomaaFLaw01alive
import Derived.Test.YtogdooclldoomaaFRef01E
import Derived.Test.YtogdooclldoomaaFWideC
import Derived.Test.YtogdooclldoomaaFRef01F
import Derived.Test.YtogdooclldoomaaFRef01G
import Derived.Test.YtogdooclldoomaaFWideD
namespace Go.Proofs.Ytogdooclldoomaa.F
open Go.RowKit Go.Proofs.YtogdooclldoomaaW.PrintWords Go.Proofs.YtogdooclldoomaaW.PrintLast Go.Proofs.YtogdooclldoomaaW.PrintMore
attribute [local go_sem] max2_int min2_int max_two min_two max_three min_three max_four min_four   -- for this text's walks alone
set_option linter.unusedVariables false
set_option linter.unusedSimpArgs false

attribute [local go_sem high] eqA45
/-! ### tombolalaw01_WideBig: function 7 -/
def tombolalaw01_WideBig.j0 : Nat → Bool → Int → Bool → List Int → List Int → Int → Int → Option (Bool)
 | 0, _, _, _, _, _, _, _ => none
 | k + 1, x12, x17, x78, x110000, x111000, x119000, x119001 => if x78 = true then (some false) else (if x17 < 0 then (if (x119000 == 0 && (x119001 == 0)) = true then (if x12 = true then (some false) else ((tombolalaw01_alive.f k).bind fun t139 => (some t139))) else (some false)) else ((tombolaref01_Sub.f k x110000 x111000).bind fun t140 => ((tombolalaw01_big.f k x119000 x119001 x12 t140).bind fun t143 => (if t143 = true then ((tombolalaw01_alive.f k).bind fun t144 => (some t144)) else (some false)))))
def tombolalaw01_WideBig.f (k : Nat) (a0_0 : Int) (a0_1 : Int) (a1_0 : Int) (a1_1 : Int) (a2 : Int) : Option (Bool) := (tombolaref01_Wide.f k a0_0 a0_1).bind fun t103 => ((tombolaref01_Wide.f k a1_0 a1_1).bind fun t106 => ((wide_Sum.f k a0_0 a0_1 a1_0 a1_1).bind fun bt111 => ((wide_Less.f k a0_0 a0_1 a1_0 a1_1).bind fun bt115 => ((wide_Times.f k a0_0 a0_1 a2).bind fun bt119 => ((wide_Fits.f a0_0 a0_1).bind fun bt123 => ((tombolaref01_Cmp.f k t103 t106).bind fun t125 => ((tombolaref01_Add.f k t103 t106).bind fun t126 => ((tombolalaw01_big.f k bt111.1 bt111.2.1 bt111.2.2 t126).bind fun t129 => (if t129 = true then ((tombolaref01_Of.f k a2).bind fun t130 => ((tombolaref01_Mul.f k t103 t130).bind fun t133 => ((tombolalaw01_big.f k bt119.1 bt119.2.1 bt119.2.2 t133).bind fun t136 => (if t136 = true then ((tombolalaw01_small.f k bt123.1 bt123.2 t103).bind fun t137 => (if t137 = true then ((wide_Cmp.f k a0_0 a0_1 a1_0 a1_1).bind fun t138 => (tombolalaw01_WideBig.j0 k bt115.2.2 t125 (t138 != t125) t103 t106 bt115.1 bt115.2.1)) else (tombolalaw01_WideBig.j0 k bt115.2.2 t125 true t103 t106 bt115.1 bt115.2.1))) else (tombolalaw01_WideBig.j0 k bt115.2.2 t125 true t103 t106 bt115.1 bt115.2.1))))) else (tombolalaw01_WideBig.j0 k bt115.2.2 t125 true t103 t106 bt115.1 bt115.2.1))))))))))
theorem tombolalaw01_WideBig.mono_l : ∀ k, (∀ y0 y1 y2 y3 y4 y5 y6, LeO (tombolalaw01_WideBig.j0 k y0 y1 y2 y3 y4 y5 y6) (tombolalaw01_WideBig.j0 (k + 1) y0 y1 y2 y3 y4 y5 y6))
 | 0 => fun _ _ _ _ _ _ _ r h => by simp [tombolalaw01_WideBig.j0] at h
 | k + 1 => by
  have ih0 := tombolalaw01_WideBig.mono_l k
  ·intro y0 y1 y2 y3 y4 y5 y6
   unfold tombolalaw01_WideBig.j0
   repeat' first
   | (with_reducible exact ih0 _ _ _ _ _ _ _)
   | (with_reducible exact tombolalaw01_alive.mono _)
   | (with_reducible exact tombolalaw01_big.mono _ _ _ _ _)
   | (with_reducible exact tombolalaw01_small.mono _ _ _ _)
   | (with_reducible exact tombolaref01_Add.mono _ _ _)
   | (with_reducible exact tombolaref01_Cmp.mono _ _ _)
   | (with_reducible exact tombolaref01_Mul.mono _ _ _)
   | (with_reducible exact tombolaref01_Of.mono _ _)
   | (with_reducible exact tombolaref01_Sub.mono _ _ _)
   | (with_reducible exact tombolaref01_Wide.mono _ _ _)
   | (with_reducible exact wide_Cmp.mono _ _ _ _ _)
   | (with_reducible exact wide_Less.mono _ _ _ _ _)
   | (with_reducible exact wide_Sum.mono _ _ _ _ _)
   | (with_reducible exact wide_Times.mono _ _ _ _)
   | (with_reducible exact LeO.refl _)
   | (with_reducible exact LeO.none _)
   | (with_reducible refine LeO.ite ?_ ?_)
   | (with_reducible refine LeO.bind ?_ (fun _ => ?_))
   | exact ih0 _ _ _ _ _ _ _
   | exact tombolalaw01_alive.mono _
   | exact tombolalaw01_big.mono _ _ _ _ _
   | exact tombolalaw01_small.mono _ _ _ _
   | exact tombolaref01_Add.mono _ _ _
   | exact tombolaref01_Cmp.mono _ _ _
   | exact tombolaref01_Mul.mono _ _ _
   | exact tombolaref01_Of.mono _ _
   | exact tombolaref01_Sub.mono _ _ _
   | exact tombolaref01_Wide.mono _ _ _
   | exact wide_Cmp.mono _ _ _ _ _
   | exact wide_Less.mono _ _ _ _ _
   | exact wide_Sum.mono _ _ _ _ _
   | exact wide_Times.mono _ _ _ _
   | exact LeO.none _
   | refine LeO.ite ?_ ?_
   | refine LeO.bind ?_ (fun _ => ?_)
theorem tombolalaw01_WideBig.mono : ∀ a0 a1 a2 a3 a4 k, LeO (tombolalaw01_WideBig.f k a0 a1 a2 a3 a4) (tombolalaw01_WideBig.f (k + 1) a0 a1 a2 a3 a4) := by
 intro a0 a1 a2 a3 a4 k
 have ih0 := tombolalaw01_WideBig.mono_l k
 unfold tombolalaw01_WideBig.f
 repeat' first
   | (with_reducible exact ih0 _ _ _ _ _ _ _)
   | (with_reducible exact tombolalaw01_alive.mono _)
   | (with_reducible exact tombolalaw01_big.mono _ _ _ _ _)
   | (with_reducible exact tombolalaw01_small.mono _ _ _ _)
   | (with_reducible exact tombolaref01_Add.mono _ _ _)
   | (with_reducible exact tombolaref01_Cmp.mono _ _ _)
   | (with_reducible exact tombolaref01_Mul.mono _ _ _)
   | (with_reducible exact tombolaref01_Of.mono _ _)
   | (with_reducible exact tombolaref01_Sub.mono _ _ _)
   | (with_reducible exact tombolaref01_Wide.mono _ _ _)
   | (with_reducible exact wide_Cmp.mono _ _ _ _ _)
   | (with_reducible exact wide_Less.mono _ _ _ _ _)
   | (with_reducible exact wide_Sum.mono _ _ _ _ _)
   | (with_reducible exact wide_Times.mono _ _ _ _)
   | (with_reducible exact LeO.refl _)
   | (with_reducible exact LeO.none _)
   | (with_reducible refine LeO.ite ?_ ?_)
   | (with_reducible refine LeO.bind ?_ (fun _ => ?_))
   | exact ih0 _ _ _ _ _ _ _
   | exact tombolalaw01_alive.mono _
   | exact tombolalaw01_big.mono _ _ _ _ _
   | exact tombolalaw01_small.mono _ _ _ _
   | exact tombolaref01_Add.mono _ _ _
   | exact tombolaref01_Cmp.mono _ _ _
   | exact tombolaref01_Mul.mono _ _ _
   | exact tombolaref01_Of.mono _ _
   | exact tombolaref01_Sub.mono _ _ _
   | exact tombolaref01_Wide.mono _ _ _
   | exact wide_Cmp.mono _ _ _ _ _
   | exact wide_Less.mono _ _ _ _ _
   | exact wide_Sum.mono _ _ _ _ _
   | exact wide_Times.mono _ _ _ _
   | exact LeO.none _
   | refine LeO.ite ?_ ?_
   | refine LeO.bind ?_ (fun _ => ?_)
def tombolalaw01_WideBig.T1 : Bool × List (List Nat × List Nat) := (true, [([], []), ([0], [0]), ([], []), ([2, 1], [2]), ([], []), ([], []), ([4, 1, 3, 0, 1, 4, 5], [1, 4]), ([5, 3, 6, 0, 1, 2, 3, 4, 5, 6], [3, 5])])
def tombolalaw01_WideBig.B1 : List Nat := [0, 1, 0, 7, 0, 0, 63, 127]
theorem tombolalaw01_WideBig.tab1 : rtab .any (opsOf Try.f7 1) = tombolalaw01_WideBig.T1 := by kernel_rfl
theorem tombolalaw01_WideBig.bits1 : waitsOk tombolalaw01_WideBig.T1.2 tombolalaw01_WideBig.B1 = true := by kernel_rfl
def tombolalaw01_WideBig.T7 : Bool × List (List Nat × List Nat) := (true, [([], []), ([], []), ([], []), ([], []), ([2, 3], [2, 3]), ([0, 1, 4, 4], [0, 1, 4]), ([5], [5]), ([6, 5], [6]), ([7], [7]), ([7], [7]), ([7], [7]), ([7], [7]), ([11, 7, 7], [7, 11]), ([10, 12, 12, 7], [7, 10, 12]), ([8, 9, 13, 13, 7], [7, 8, 9, 13]), ([14, 7], [7, 14]), ([7, 15], [7, 15]), ([16, 14], [16]), ([17], [17]), ([17], [17]), ([17], [17]), ([18, 19, 20, 17, 17], [17, 18, 19, 20]), ([21, 17], [17, 21]), ([17, 22], [17, 22]), ([23, 21], [23]), ([24], [24]), ([24], [24]), ([25, 26, 24, 24], [24, 25, 26]), ([24], [24]), ([27, 28, 24], [24, 27, 28]), ([24, 29], [24, 29])])
def tombolalaw01_WideBig.B7 : List Nat := [0, 0, 0, 0, 12, 31, 63, 127, 255, 255, 255, 255, 2303, 7423, 16383, 32767, 65535, 131071, 262143, 262143, 262143, 2097151, 4194303, 8388607, 16777215, 33554431, 33554431, 134217727, 33554431, 536870911, 1073741823]
theorem tombolalaw01_WideBig.tab7 : rtab .any (opsOf Try.f7 7) = tombolalaw01_WideBig.T7 := by kernel_rfl
theorem tombolalaw01_WideBig.bits7 : waitsOk tombolalaw01_WideBig.T7.2 tombolalaw01_WideBig.B7 = true := by kernel_rfl
def tombolalaw01_WideBig.T11 : Bool × List (List Nat × List Nat) := (true, [([], []), ([], []), ([], []), ([], []), ([2, 3], [2, 3]), ([0, 1, 4, 4], [0, 1, 4]), ([5, 5], [5]), ([6, 6], [6]), ([6, 7], [6, 7]), ([8, 7, 0, 1, 2, 3, 4, 5, 6, 7, 8], [8])])
def tombolalaw01_WideBig.B11 : List Nat := [0, 0, 0, 0, 12, 31, 63, 127, 255, 511]
theorem tombolalaw01_WideBig.tab11 : rtab .any (opsOf Try.f7 11) = tombolalaw01_WideBig.T11 := by kernel_rfl
theorem tombolalaw01_WideBig.bits11 : waitsOk tombolalaw01_WideBig.T11.2 tombolalaw01_WideBig.B11 = true := by kernel_rfl

end Go.Proofs.Ytogdooclldoomaa.F
