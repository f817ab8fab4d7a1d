-- Printed by a program of this claim's writer (wip/ext): an extension of the kit's print.
import Derived.Test.YtcncilipmekfhaaPClockStopsx0
import Derived.Test.YtcncilipmekfhaaPClockStopsx2
import Derived.Test.YtcncilipmekfhaaPClockStopsx3
import Derived.Test.YtcncilipmekfhaaPClockStopsx4
import Derived.Test.YtcncilipmekfhaaPClockStopsx5
import Derived.Test.YtcncilipmekfhaaPClockStopsx6
namespace Go.Proofs.Ytcncilipmekfhaa.PClockStops
open Go.RowKit Go.Proofs.YtcncilipmekfhaaW.PrintWords Go.Proofs.YtcncilipmekfhaaW.PrintLast Go.Proofs.YtcncilipmekfhaaW.PrintMore
attribute [local go_sem] max2_int min2_int max_two min_two max_three min_three max_four min_four   -- for this text's walks alone
set_option linter.unusedVariables false
set_option linter.unusedSimpArgs false

attribute [local go_sem high] eqA45
/-! ### gamehalllaw3_ClockStops: function 7 -/
mutual
def gamehalllaw3_ClockStops.j0 : Nat → Int → Int → Int → Int → Bool → List (S91) → Int → Int → Int → Int → Int → Int → Int → Int → Int → Int → Bool → Int → Int → Int → Int → Int → Int → Int → Int → Int → Bool → Int → Option (Bool)
  | 0, _, _, _, _, _, _, _, _, _, _, _, _, _, _, _, _, _, _, _, _, _, _, _, _, _, _, _, _ => none
  | k + 1, x2, x3, x12, x13, x39, z178a, z178b, z178c, z179a, z179b, z179c, z179d, z179e, z179f, z179g, z179h, z179i, z179j, z192a, z192b, z192c, z192d, z192e, z192f, z192g, z192h, z192i, z192j => if x39 = true then (gamehalllaw3_ClockStops.j1 k x2 x3 x12 4 z178a z178b z178c z179a z179b z179c z179d z179e z179f z179g z179h z179i z179j z192a z192b z192c z192d z192e z192f z192g z192h z192i z192j) else (gamehalllaw3_ClockStops.j1 k x2 x3 x12 x13 z178a z178b z178c z179a z179b z179c z179d z179e z179f z179g z179h z179i z179j z192a z192b z192c z192d z192e z192f z192g z192h z192i z192j)
def gamehalllaw3_ClockStops.j1 : Nat → Int → Int → Int → Int → List (S91) → Int → Int → Int → Int → Int → Int → Int → Int → Int → Int → Bool → Int → Int → Int → Int → Int → Int → Int → Int → Int → Bool → Int → Option (Bool)
  | 0, _, _, _, _, _, _, _, _, _, _, _, _, _, _, _, _, _, _, _, _, _, _, _, _, _, _, _ => none
  | k + 1, x2, x3, x12, x13, z178a, z178b, z178c, z179a, z179b, z179c, z179d, z179e, z179f, z179g, z179h, z179i, z179j, z192a, z192b, z192c, z192d, z192e, z192f, z192g, z192h, z192i, z192j => (clock_Valid.f k z178a z178b z178c z179a z179b z179c z179d z179e z179f z179g z179h z179i z179j).bind fun t194 => (if t194 = x13 then (if x13 = 0 then (if x2 < z179h then (gamehalllaw3_ClockStops.j2 k x2 x3 x12 x13 true z178a z178b z178c z179a z179b z179c z179d z179e z179f z179g z179h z179i z179j z192a z192b z192c z192d z192e z192f z192g z192h z192i z192j) else (gamehalllaw3_ClockStops.j2 k x2 x3 x12 x13 (decide (x2 > 100000000)) z178a z178b z178c z179a z179b z179c z179d z179e z179f z179g z179h z179i z179j z192a z192b z192c z192d z192e z192f z192g z192h z192i z192j)) else (gamehalllaw3_ClockStops.j2 k x2 x3 x12 x13 false z178a z178b z178c z179a z179b z179c z179d z179e z179f z179g z179h z179i z179j z192a z192b z192c z192d z192e z192f z192g z192h z192i z192j)) else (some false))
def gamehalllaw3_ClockStops.j2 : Nat → Int → Int → Int → Int → Bool → List (S91) → Int → Int → Int → Int → Int → Int → Int → Int → Int → Int → Bool → Int → Int → Int → Int → Int → Int → Int → Int → Int → Bool → Int → Option (Bool)
  | 0, _, _, _, _, _, _, _, _, _, _, _, _, _, _, _, _, _, _, _, _, _, _, _, _, _, _, _, _ => none
  | k + 1, x2, x3, x12, x13, x56, z178a, z178b, z178c, z179a, z179b, z179c, z179d, z179e, z179f, z179g, z179h, z179i, z179j, z192a, z192b, z192c, z192d, z192e, z192f, z192g, z192h, z192i, z192j => if x56 = true then (gamehalllaw3_ClockStops.j3 k x2 x3 x12 11 z178a z178b z178c z179a z179b z179c z179d z179e z179f z179g z179h z179i z179j z192a z192b z192c z192d z192e z192f z192g z192h z192i z192j) else (gamehalllaw3_ClockStops.j3 k x2 x3 x12 x13 z178a z178b z178c z179a z179b z179c z179d z179e z179f z179g z179h z179i z179j z192a z192b z192c z192d z192e z192f z192g z192h z192i z192j)
def gamehalllaw3_ClockStops.j3 : Nat → Int → Int → Int → Int → List (S91) → Int → Int → Int → Int → Int → Int → Int → Int → Int → Int → Bool → Int → Int → Int → Int → Int → Int → Int → Int → Int → Bool → Int → Option (Bool)
  | 0, _, _, _, _, _, _, _, _, _, _, _, _, _, _, _, _, _, _, _, _, _, _, _, _, _, _, _ => none
  | k + 1, x2, x3, x12, x13, z178a, z178b, z178c, z179a, z179b, z179c, z179d, z179e, z179f, z179g, z179h, z179i, z179j, z192a, z192b, z192c, z192d, z192e, z192f, z192g, z192h, z192i, z192j => if x13 = 0 then (if z179i = true then ((clock_Go.f k z178a z178b z178c z179a z179b z179c z179d z179e z179f z179g z179h z179i z179j x2).bind fun bt195 => (if z179j ≥ 0 then (if x12 = 14 then (some (bt195.2.2.2.2.2.2.2.2.2.2 == 14)) else (some false)) else (if x12 = 10 then (if bt195.2.2.2.2.2.2.2.2.2.2 = 0 then (some ((bt195.1 == z179a && (bt195.2.1 == z179b)) && ((bt195.2.2.1 == z179c && (bt195.2.2.2.1 == z179d)) && ((bt195.2.2.2.2.1 == z179e && (bt195.2.2.2.2.2.1 == z179f)) && (bt195.2.2.2.2.2.2.1 == z179g && (bt195.2.2.2.2.2.2.2.1 == x2 && (!bt195.2.2.2.2.2.2.2.2.1 && (bt195.2.2.2.2.2.2.2.2.2.1 == z179j)))))))) else (some false)) else (some false)))) else ((gamehallref3_Spent.f z178a z178b z178c (wrap64 (x2 - z179h))).bind fun t207 => (if z179j ≥ 0 then (gamehalllaw3_ClockStops.j4 k x2 x3 x12 t207 true z178a z178b z178c z179a z179b z179c z179d z179e z179f z179g z179h z179i z179j z192a z192b z192c z192d z192e z192f z192g z192h z192i z192j) else (if 0 ≤ z179g then (if z179g < 2 then (if z179g = 0 then (gamehalllaw3_ClockStops.j4 k x2 x3 x12 t207 (decide (t207 > z179a)) z178a z178b z178c z179a z179b z179c z179d z179e z179f z179g z179h z179i z179j z192a z192b z192c z192d z192e z192f z192g z192h z192i z192j) else (gamehalllaw3_ClockStops.j4 k x2 x3 x12 t207 (decide (t207 > z179b)) z178a z178b z178c z179a z179b z179c z179d z179e z179f z179g z179h z179i z179j z192a z192b z192c z192d z192e z192f z192g z192h z192i z192j)) else (none)) else (none))))) else (if x12 = x13 then (some ((z192a == 0 && (z192b == 0)) && ((z192c == 0 && (z192d == 0)) && ((z192e == 0 && (z192f == 0)) && (z192g == 0 && (z192h == 0 && (!z192i && (z192j == 0)))))))) else (some false))
def gamehalllaw3_ClockStops.j4 : Nat → Int → Int → Int → Int → Bool → List (S91) → Int → Int → Int → Int → Int → Int → Int → Int → Int → Int → Bool → Int → Int → Int → Int → Int → Int → Int → Int → Int → Bool → Int → Option (Bool)
  | 0, _, _, _, _, _, _, _, _, _, _, _, _, _, _, _, _, _, _, _, _, _, _, _, _, _, _, _, _ => none
  | k + 1, x2, x3, x12, x16, x116, z178a, z178b, z178c, z179a, z179b, z179c, z179d, z179e, z179f, z179g, z179h, z179i, z179j, z192a, z192b, z192c, z192d, z192e, z192f, z192g, z192h, z192i, z192j => if x116 = true then (if x12 = 14 then (some ((z192a == 0 && (z192b == 0)) && ((z192c == 0 && (z192d == 0)) && ((z192e == 0 && (z192f == 0)) && (z192g == 0 && (z192h == 0 && (!z192i && (z192j == 0)))))))) else (some false)) else (if 0 ≤ z179g then (if z179g < 2 then (if z179g = 0 then (gamehalllaw3_ClockStops.j5 k x2 x3 x12 z178a z178b z178c (wrap64 (z179a - x16)) z179b z179c z179d z179e z179f z179g z179h z179i z179j z192a z192b z192c z192d z192e z192f z192g z192h z192i z192j) else (gamehalllaw3_ClockStops.j5 k x2 x3 x12 z178a z178b z178c z179a (wrap64 (z179b - x16)) z179c z179d z179e z179f z179g z179h z179i z179j z192a z192b z192c z192d z192e z192f z192g z192h z192i z192j)) else (none)) else (none))
def gamehalllaw3_ClockStops.j5 : Nat → Int → Int → Int → List (S91) → Int → Int → Int → Int → Int → Int → Int → Int → Int → Int → Bool → Int → Int → Int → Int → Int → Int → Int → Int → Int → Bool → Int → Option (Bool)
  | 0, _, _, _, _, _, _, _, _, _, _, _, _, _, _, _, _, _, _, _, _, _, _, _, _, _, _ => none
  | k + 1, x2, x3, x12, z178a, z178b, z178c, z179a, z179b, z179c, z179d, z179e, z179f, z179g, z179h, z179i, z179j, z192a, z192b, z192c, z192d, z192e, z192f, z192g, z192h, z192i, z192j => if x12 = 0 then (if ((!(z192a == z179a) || (!(z192b == z179b))) || ((!(z192c == z179c) || (!(z192d == z179d))) || ((!(z192e == z179e) || (!(z192f == z179f))) || (!(z192g == z179g) || (!(z192h == x2) || (!z192i || (!(z192j == z179j)))))))) = true then (gamehalllaw3_ClockStops.j6 k x3 x12 true z178a z178b z178c z179a z179b z179c z179d z179e z179f z179g x2 true z179j z192a z192b z192c z192d z192e z192f z192g z192h z192i z192j) else (if x3 < x2 then (gamehalllaw3_ClockStops.j6 k x3 x12 true z178a z178b z178c z179a z179b z179c z179d z179e z179f z179g x2 true z179j z192a z192b z192c z192d z192e z192f z192g z192h z192i z192j) else (gamehalllaw3_ClockStops.j6 k x3 x12 (decide (x3 > 100000000)) z178a z178b z178c z179a z179b z179c z179d z179e z179f z179g x2 true z179j z192a z192b z192c z192d z192e z192f z192g z192h z192i z192j))) else (gamehalllaw3_ClockStops.j6 k x3 x12 true z178a z178b z178c z179a z179b z179c z179d z179e z179f z179g x2 true z179j z192a z192b z192c z192d z192e z192f z192g z192h z192i z192j)
def gamehalllaw3_ClockStops.j6 : Nat → Int → Int → Bool → List (S91) → Int → Int → Int → Int → Int → Int → Int → Int → Int → Int → Bool → Int → Int → Int → Int → Int → Int → Int → Int → Int → Bool → Int → Option (Bool)
  | 0, _, _, _, _, _, _, _, _, _, _, _, _, _, _, _, _, _, _, _, _, _, _, _, _, _, _ => none
  | k + 1, x3, x12, x151, z178a, z178b, z178c, z179a, z179b, z179c, z179d, z179e, z179f, z179g, z179h, z179i, z179j, z192a, z192b, z192c, z192d, z192e, z192f, z192g, z192h, z192i, z192j => if x151 = true then (if x12 = 0 then (some ((z192a == z179a && (z192b == z179b)) && ((z192c == z179c && (z192d == z179d)) && ((z192e == z179e && (z192f == z179f)) && (z192g == z179g && (z192h == z179h && (z192i == z179i && (z192j == z179j)))))))) else (some false)) else ((clock_Look.f k z178a z178b z178c z192a z192b z192c z192d z192e z192f z192g z192h z192i z192j x3).bind fun bt208 => ((clock_Go.f k z178a z178b z178c z192a z192b z192c z192d z192e z192f z192g z192h z192i z192j x3).bind fun bt220 => (if bt208.2.2.2.2.2.2.2.2.2.2 = 0 then (if ((bt208.1 == z192a && (bt208.2.1 == z192b)) && ((bt208.2.2.1 == z192c && (bt208.2.2.2.1 == z192d)) && ((bt208.2.2.2.2.1 == z192e && (bt208.2.2.2.2.2.1 == z192f)) && (bt208.2.2.2.2.2.2.1 == z192g && (bt208.2.2.2.2.2.2.2.1 == z192h && (bt208.2.2.2.2.2.2.2.2.1 == z192i && (bt208.2.2.2.2.2.2.2.2.2.1 == z192j))))))) = true then (if bt220.2.2.2.2.2.2.2.2.2.2 = 0 then (some ((bt220.1 == z179a && (bt220.2.1 == z179b)) && ((bt220.2.2.1 == z179c && (bt220.2.2.2.1 == z179d)) && ((bt220.2.2.2.2.1 == z179e && (bt220.2.2.2.2.2.1 == z179f)) && (bt220.2.2.2.2.2.2.1 == z179g && (bt220.2.2.2.2.2.2.2.1 == x3 && (!bt220.2.2.2.2.2.2.2.2.1 && (bt220.2.2.2.2.2.2.2.2.2.1 == z179j)))))))) else (some false)) else (some false)) else (some false))))
end
def gamehalllaw3_ClockStops.f (k : Nat) (l0_0 : List (S91)) (a0_1 : Int) (a0_2 : Int) (a1_0 : Int) (a1_1 : Int) (a1_2 : Int) (a1_3 : Int) (a1_4 : Int) (a1_5 : Int) (a1_6 : Int) (a1_7 : Int) (a1_8 : Bool) (a1_9 : Int) (a2 : Int) (a3 : Int) (a4 : Int) : Option (Bool) := (gamehalllaw3_ticks.f k).bind fun t179 => (if t179 = true then ((clock_Stop.f k l0_0 a0_1 a0_2 a1_0 a1_1 a1_2 a1_3 a1_4 a1_5 a1_6 a1_7 a1_8 a1_9 a2).bind fun bt180 => ((gamehallref3_Ruled.f k l0_0 a0_1 a0_2).bind fun t192 => (if t192 = 0 then ((gamehalllaw3_clocked.f k l0_0 a0_1 a0_2 a1_0 a1_1 a1_2 a1_3 a1_4 a1_5 a1_6 a1_7 a1_8 a1_9).bind fun t193 => (gamehalllaw3_ClockStops.j0 k a2 a3 bt180.2.2.2.2.2.2.2.2.2.2 t192 (!t193) l0_0 a0_1 a0_2 a1_0 a1_1 a1_2 a1_3 a1_4 a1_5 a1_6 a1_7 a1_8 a1_9 bt180.1 bt180.2.1 bt180.2.2.1 bt180.2.2.2.1 bt180.2.2.2.2.1 bt180.2.2.2.2.2.1 bt180.2.2.2.2.2.2.1 bt180.2.2.2.2.2.2.2.1 bt180.2.2.2.2.2.2.2.2.1 bt180.2.2.2.2.2.2.2.2.2.1)) else (gamehalllaw3_ClockStops.j0 k a2 a3 bt180.2.2.2.2.2.2.2.2.2.2 t192 false l0_0 a0_1 a0_2 a1_0 a1_1 a1_2 a1_3 a1_4 a1_5 a1_6 a1_7 a1_8 a1_9 bt180.1 bt180.2.1 bt180.2.2.1 bt180.2.2.2.1 bt180.2.2.2.2.1 bt180.2.2.2.2.2.1 bt180.2.2.2.2.2.2.1 bt180.2.2.2.2.2.2.2.1 bt180.2.2.2.2.2.2.2.2.1 bt180.2.2.2.2.2.2.2.2.2.1)))) else (some false))
theorem gamehalllaw3_ClockStops.mono_l : ∀ k, (∀ y0 y1 y2 y3 y4 y5 y6 y7 y8 y9 y10 y11 y12 y13 y14 y15 y16 y17 y18 y19 y20 y21 y22 y23 y24 y25 y26 y27, LeO (gamehalllaw3_ClockStops.j0 k y0 y1 y2 y3 y4 y5 y6 y7 y8 y9 y10 y11 y12 y13 y14 y15 y16 y17 y18 y19 y20 y21 y22 y23 y24 y25 y26 y27) (gamehalllaw3_ClockStops.j0 (k + 1) y0 y1 y2 y3 y4 y5 y6 y7 y8 y9 y10 y11 y12 y13 y14 y15 y16 y17 y18 y19 y20 y21 y22 y23 y24 y25 y26 y27)) ∧ (∀ y0 y1 y2 y3 y4 y5 y6 y7 y8 y9 y10 y11 y12 y13 y14 y15 y16 y17 y18 y19 y20 y21 y22 y23 y24 y25 y26, LeO (gamehalllaw3_ClockStops.j1 k y0 y1 y2 y3 y4 y5 y6 y7 y8 y9 y10 y11 y12 y13 y14 y15 y16 y17 y18 y19 y20 y21 y22 y23 y24 y25 y26) (gamehalllaw3_ClockStops.j1 (k + 1) y0 y1 y2 y3 y4 y5 y6 y7 y8 y9 y10 y11 y12 y13 y14 y15 y16 y17 y18 y19 y20 y21 y22 y23 y24 y25 y26)) ∧ (∀ y0 y1 y2 y3 y4 y5 y6 y7 y8 y9 y10 y11 y12 y13 y14 y15 y16 y17 y18 y19 y20 y21 y22 y23 y24 y25 y26 y27, LeO (gamehalllaw3_ClockStops.j2 k y0 y1 y2 y3 y4 y5 y6 y7 y8 y9 y10 y11 y12 y13 y14 y15 y16 y17 y18 y19 y20 y21 y22 y23 y24 y25 y26 y27) (gamehalllaw3_ClockStops.j2 (k + 1) y0 y1 y2 y3 y4 y5 y6 y7 y8 y9 y10 y11 y12 y13 y14 y15 y16 y17 y18 y19 y20 y21 y22 y23 y24 y25 y26 y27)) ∧ (∀ y0 y1 y2 y3 y4 y5 y6 y7 y8 y9 y10 y11 y12 y13 y14 y15 y16 y17 y18 y19 y20 y21 y22 y23 y24 y25 y26, LeO (gamehalllaw3_ClockStops.j3 k y0 y1 y2 y3 y4 y5 y6 y7 y8 y9 y10 y11 y12 y13 y14 y15 y16 y17 y18 y19 y20 y21 y22 y23 y24 y25 y26) (gamehalllaw3_ClockStops.j3 (k + 1) y0 y1 y2 y3 y4 y5 y6 y7 y8 y9 y10 y11 y12 y13 y14 y15 y16 y17 y18 y19 y20 y21 y22 y23 y24 y25 y26)) ∧ (∀ y0 y1 y2 y3 y4 y5 y6 y7 y8 y9 y10 y11 y12 y13 y14 y15 y16 y17 y18 y19 y20 y21 y22 y23 y24 y25 y26 y27, LeO (gamehalllaw3_ClockStops.j4 k y0 y1 y2 y3 y4 y5 y6 y7 y8 y9 y10 y11 y12 y13 y14 y15 y16 y17 y18 y19 y20 y21 y22 y23 y24 y25 y26 y27) (gamehalllaw3_ClockStops.j4 (k + 1) y0 y1 y2 y3 y4 y5 y6 y7 y8 y9 y10 y11 y12 y13 y14 y15 y16 y17 y18 y19 y20 y21 y22 y23 y24 y25 y26 y27)) ∧ (∀ y0 y1 y2 y3 y4 y5 y6 y7 y8 y9 y10 y11 y12 y13 y14 y15 y16 y17 y18 y19 y20 y21 y22 y23 y24 y25, LeO (gamehalllaw3_ClockStops.j5 k y0 y1 y2 y3 y4 y5 y6 y7 y8 y9 y10 y11 y12 y13 y14 y15 y16 y17 y18 y19 y20 y21 y22 y23 y24 y25) (gamehalllaw3_ClockStops.j5 (k + 1) y0 y1 y2 y3 y4 y5 y6 y7 y8 y9 y10 y11 y12 y13 y14 y15 y16 y17 y18 y19 y20 y21 y22 y23 y24 y25)) ∧ (∀ y0 y1 y2 y3 y4 y5 y6 y7 y8 y9 y10 y11 y12 y13 y14 y15 y16 y17 y18 y19 y20 y21 y22 y23 y24 y25, LeO (gamehalllaw3_ClockStops.j6 k y0 y1 y2 y3 y4 y5 y6 y7 y8 y9 y10 y11 y12 y13 y14 y15 y16 y17 y18 y19 y20 y21 y22 y23 y24 y25) (gamehalllaw3_ClockStops.j6 (k + 1) y0 y1 y2 y3 y4 y5 y6 y7 y8 y9 y10 y11 y12 y13 y14 y15 y16 y17 y18 y19 y20 y21 y22 y23 y24 y25))
  | 0 => ⟨fun _ _ _ _ _ _ _ _ _ _ _ _ _ _ _ _ _ _ _ _ _ _ _ _ _ _ _ _ r h => by simp [gamehalllaw3_ClockStops.j0] at h, fun _ _ _ _ _ _ _ _ _ _ _ _ _ _ _ _ _ _ _ _ _ _ _ _ _ _ _ r h => by simp [gamehalllaw3_ClockStops.j1] at h, fun _ _ _ _ _ _ _ _ _ _ _ _ _ _ _ _ _ _ _ _ _ _ _ _ _ _ _ _ r h => by simp [gamehalllaw3_ClockStops.j2] at h, fun _ _ _ _ _ _ _ _ _ _ _ _ _ _ _ _ _ _ _ _ _ _ _ _ _ _ _ r h => by simp [gamehalllaw3_ClockStops.j3] at h, fun _ _ _ _ _ _ _ _ _ _ _ _ _ _ _ _ _ _ _ _ _ _ _ _ _ _ _ _ r h => by simp [gamehalllaw3_ClockStops.j4] at h, fun _ _ _ _ _ _ _ _ _ _ _ _ _ _ _ _ _ _ _ _ _ _ _ _ _ _ r h => by simp [gamehalllaw3_ClockStops.j5] at h, fun _ _ _ _ _ _ _ _ _ _ _ _ _ _ _ _ _ _ _ _ _ _ _ _ _ _ r h => by simp [gamehalllaw3_ClockStops.j6] at h⟩
  | k + 1 => by
    obtain ⟨ih0, ih1, ih2, ih3, ih4, ih5, ih6⟩ := gamehalllaw3_ClockStops.mono_l k
    refine ⟨?_, ?_, ?_, ?_, ?_, ?_, ?_⟩
    · intros
      unfold gamehalllaw3_ClockStops.j0
      repeat' first
      | (with_reducible apply ih0)
      | (with_reducible apply ih1)
      | (with_reducible apply ih2)
      | (with_reducible apply ih3)
      | (with_reducible apply ih4)
      | (with_reducible apply ih5)
      | (with_reducible apply ih6)
      | (with_reducible apply clock_Go.mono)
      | (with_reducible apply clock_Look.mono)
      | (with_reducible apply clock_Stop.mono)
      | (with_reducible apply clock_Valid.mono)
      | (with_reducible apply gamehalllaw3_clocked.mono)
      | (with_reducible apply gamehalllaw3_ticks.mono)
      | (with_reducible apply gamehallref3_Ruled.mono)
      | (with_reducible exact LeO.refl _)
      | (with_reducible exact LeO.none _)
      | (with_reducible refine LeO.ite ?_ ?_)
      | (with_reducible refine LeO.bind ?_ (fun _ => ?_))
      | apply ih0
      | apply ih1
      | apply ih2
      | apply ih3
      | apply ih4
      | apply ih5
      | apply ih6
      | apply clock_Go.mono
      | apply clock_Look.mono
      | apply clock_Stop.mono
      | apply clock_Valid.mono
      | apply gamehalllaw3_clocked.mono
      | apply gamehalllaw3_ticks.mono
      | apply gamehallref3_Ruled.mono
      | exact LeO.none _
      | refine LeO.ite ?_ ?_
      | refine LeO.bind ?_ (fun _ => ?_)
    · intros
      unfold gamehalllaw3_ClockStops.j1
      repeat' first
      | (with_reducible apply ih0)
      | (with_reducible apply ih1)
      | (with_reducible apply ih2)
      | (with_reducible apply ih3)
      | (with_reducible apply ih4)
      | (with_reducible apply ih5)
      | (with_reducible apply ih6)
      | (with_reducible apply clock_Go.mono)
      | (with_reducible apply clock_Look.mono)
      | (with_reducible apply clock_Stop.mono)
      | (with_reducible apply clock_Valid.mono)
      | (with_reducible apply gamehalllaw3_clocked.mono)
      | (with_reducible apply gamehalllaw3_ticks.mono)
      | (with_reducible apply gamehallref3_Ruled.mono)
      | (with_reducible exact LeO.refl _)
      | (with_reducible exact LeO.none _)
      | (with_reducible refine LeO.ite ?_ ?_)
      | (with_reducible refine LeO.bind ?_ (fun _ => ?_))
      | apply ih0
      | apply ih1
      | apply ih2
      | apply ih3
      | apply ih4
      | apply ih5
      | apply ih6
      | apply clock_Go.mono
      | apply clock_Look.mono
      | apply clock_Stop.mono
      | apply clock_Valid.mono
      | apply gamehalllaw3_clocked.mono
      | apply gamehalllaw3_ticks.mono
      | apply gamehallref3_Ruled.mono
      | exact LeO.none _
      | refine LeO.ite ?_ ?_
      | refine LeO.bind ?_ (fun _ => ?_)
    · intros
      unfold gamehalllaw3_ClockStops.j2
      repeat' first
      | (with_reducible apply ih0)
      | (with_reducible apply ih1)
      | (with_reducible apply ih2)
      | (with_reducible apply ih3)
      | (with_reducible apply ih4)
      | (with_reducible apply ih5)
      | (with_reducible apply ih6)
      | (with_reducible apply clock_Go.mono)
      | (with_reducible apply clock_Look.mono)
      | (with_reducible apply clock_Stop.mono)
      | (with_reducible apply clock_Valid.mono)
      | (with_reducible apply gamehalllaw3_clocked.mono)
      | (with_reducible apply gamehalllaw3_ticks.mono)
      | (with_reducible apply gamehallref3_Ruled.mono)
      | (with_reducible exact LeO.refl _)
      | (with_reducible exact LeO.none _)
      | (with_reducible refine LeO.ite ?_ ?_)
      | (with_reducible refine LeO.bind ?_ (fun _ => ?_))
      | apply ih0
      | apply ih1
      | apply ih2
      | apply ih3
      | apply ih4
      | apply ih5
      | apply ih6
      | apply clock_Go.mono
      | apply clock_Look.mono
      | apply clock_Stop.mono
      | apply clock_Valid.mono
      | apply gamehalllaw3_clocked.mono
      | apply gamehalllaw3_ticks.mono
      | apply gamehallref3_Ruled.mono
      | exact LeO.none _
      | refine LeO.ite ?_ ?_
      | refine LeO.bind ?_ (fun _ => ?_)
    · intros
      unfold gamehalllaw3_ClockStops.j3
      repeat' first
      | (with_reducible apply ih0)
      | (with_reducible apply ih1)
      | (with_reducible apply ih2)
      | (with_reducible apply ih3)
      | (with_reducible apply ih4)
      | (with_reducible apply ih5)
      | (with_reducible apply ih6)
      | (with_reducible apply clock_Go.mono)
      | (with_reducible apply clock_Look.mono)
      | (with_reducible apply clock_Stop.mono)
      | (with_reducible apply clock_Valid.mono)
      | (with_reducible apply gamehalllaw3_clocked.mono)
      | (with_reducible apply gamehalllaw3_ticks.mono)
      | (with_reducible apply gamehallref3_Ruled.mono)
      | (with_reducible exact LeO.refl _)
      | (with_reducible exact LeO.none _)
      | (with_reducible refine LeO.ite ?_ ?_)
      | (with_reducible refine LeO.bind ?_ (fun _ => ?_))
      | apply ih0
      | apply ih1
      | apply ih2
      | apply ih3
      | apply ih4
      | apply ih5
      | apply ih6
      | apply clock_Go.mono
      | apply clock_Look.mono
      | apply clock_Stop.mono
      | apply clock_Valid.mono
      | apply gamehalllaw3_clocked.mono
      | apply gamehalllaw3_ticks.mono
      | apply gamehallref3_Ruled.mono
      | exact LeO.none _
      | refine LeO.ite ?_ ?_
      | refine LeO.bind ?_ (fun _ => ?_)
    · intros
      unfold gamehalllaw3_ClockStops.j4
      repeat' first
      | (with_reducible apply ih0)
      | (with_reducible apply ih1)
      | (with_reducible apply ih2)
      | (with_reducible apply ih3)
      | (with_reducible apply ih4)
      | (with_reducible apply ih5)
      | (with_reducible apply ih6)
      | (with_reducible apply clock_Go.mono)
      | (with_reducible apply clock_Look.mono)
      | (with_reducible apply clock_Stop.mono)
      | (with_reducible apply clock_Valid.mono)
      | (with_reducible apply gamehalllaw3_clocked.mono)
      | (with_reducible apply gamehalllaw3_ticks.mono)
      | (with_reducible apply gamehallref3_Ruled.mono)
      | (with_reducible exact LeO.refl _)
      | (with_reducible exact LeO.none _)
      | (with_reducible refine LeO.ite ?_ ?_)
      | (with_reducible refine LeO.bind ?_ (fun _ => ?_))
      | apply ih0
      | apply ih1
      | apply ih2
      | apply ih3
      | apply ih4
      | apply ih5
      | apply ih6
      | apply clock_Go.mono
      | apply clock_Look.mono
      | apply clock_Stop.mono
      | apply clock_Valid.mono
      | apply gamehalllaw3_clocked.mono
      | apply gamehalllaw3_ticks.mono
      | apply gamehallref3_Ruled.mono
      | exact LeO.none _
      | refine LeO.ite ?_ ?_
      | refine LeO.bind ?_ (fun _ => ?_)
    · intros
      unfold gamehalllaw3_ClockStops.j5
      repeat' first
      | (with_reducible apply ih0)
      | (with_reducible apply ih1)
      | (with_reducible apply ih2)
      | (with_reducible apply ih3)
      | (with_reducible apply ih4)
      | (with_reducible apply ih5)
      | (with_reducible apply ih6)
      | (with_reducible apply clock_Go.mono)
      | (with_reducible apply clock_Look.mono)
      | (with_reducible apply clock_Stop.mono)
      | (with_reducible apply clock_Valid.mono)
      | (with_reducible apply gamehalllaw3_clocked.mono)
      | (with_reducible apply gamehalllaw3_ticks.mono)
      | (with_reducible apply gamehallref3_Ruled.mono)
      | (with_reducible exact LeO.refl _)
      | (with_reducible exact LeO.none _)
      | (with_reducible refine LeO.ite ?_ ?_)
      | (with_reducible refine LeO.bind ?_ (fun _ => ?_))
      | apply ih0
      | apply ih1
      | apply ih2
      | apply ih3
      | apply ih4
      | apply ih5
      | apply ih6
      | apply clock_Go.mono
      | apply clock_Look.mono
      | apply clock_Stop.mono
      | apply clock_Valid.mono
      | apply gamehalllaw3_clocked.mono
      | apply gamehalllaw3_ticks.mono
      | apply gamehallref3_Ruled.mono
      | exact LeO.none _
      | refine LeO.ite ?_ ?_
      | refine LeO.bind ?_ (fun _ => ?_)
    · intros
      unfold gamehalllaw3_ClockStops.j6
      repeat' first
      | (with_reducible apply ih0)
      | (with_reducible apply ih1)
      | (with_reducible apply ih2)
      | (with_reducible apply ih3)
      | (with_reducible apply ih4)
      | (with_reducible apply ih5)
      | (with_reducible apply ih6)
      | (with_reducible apply clock_Go.mono)
      | (with_reducible apply clock_Look.mono)
      | (with_reducible apply clock_Stop.mono)
      | (with_reducible apply clock_Valid.mono)
      | (with_reducible apply gamehalllaw3_clocked.mono)
      | (with_reducible apply gamehalllaw3_ticks.mono)
      | (with_reducible apply gamehallref3_Ruled.mono)
      | (with_reducible exact LeO.refl _)
      | (with_reducible exact LeO.none _)
      | (with_reducible refine LeO.ite ?_ ?_)
      | (with_reducible refine LeO.bind ?_ (fun _ => ?_))
      | apply ih0
      | apply ih1
      | apply ih2
      | apply ih3
      | apply ih4
      | apply ih5
      | apply ih6
      | apply clock_Go.mono
      | apply clock_Look.mono
      | apply clock_Stop.mono
      | apply clock_Valid.mono
      | apply gamehalllaw3_clocked.mono
      | apply gamehalllaw3_ticks.mono
      | apply gamehallref3_Ruled.mono
      | exact LeO.none _
      | refine LeO.ite ?_ ?_
      | refine LeO.bind ?_ (fun _ => ?_)
theorem gamehalllaw3_ClockStops.mono : ∀ a0 a1 a2 a3 a4 a5 a6 a7 a8 a9 a10 a11 a12 a13 a14 a15 k, LeO (gamehalllaw3_ClockStops.f k a0 a1 a2 a3 a4 a5 a6 a7 a8 a9 a10 a11 a12 a13 a14 a15) (gamehalllaw3_ClockStops.f (k + 1) a0 a1 a2 a3 a4 a5 a6 a7 a8 a9 a10 a11 a12 a13 a14 a15) := by
  intro a0 a1 a2 a3 a4 a5 a6 a7 a8 a9 a10 a11 a12 a13 a14 a15 k
  obtain ⟨ih0, ih1, ih2, ih3, ih4, ih5, ih6⟩ := gamehalllaw3_ClockStops.mono_l k
  unfold gamehalllaw3_ClockStops.f
  repeat' first
      | (with_reducible apply ih0)
      | (with_reducible apply ih1)
      | (with_reducible apply ih2)
      | (with_reducible apply ih3)
      | (with_reducible apply ih4)
      | (with_reducible apply ih5)
      | (with_reducible apply ih6)
      | (with_reducible apply clock_Go.mono)
      | (with_reducible apply clock_Look.mono)
      | (with_reducible apply clock_Stop.mono)
      | (with_reducible apply clock_Valid.mono)
      | (with_reducible apply gamehalllaw3_clocked.mono)
      | (with_reducible apply gamehalllaw3_ticks.mono)
      | (with_reducible apply gamehallref3_Ruled.mono)
      | (with_reducible exact LeO.refl _)
      | (with_reducible exact LeO.none _)
      | (with_reducible refine LeO.ite ?_ ?_)
      | (with_reducible refine LeO.bind ?_ (fun _ => ?_))
      | apply ih0
      | apply ih1
      | apply ih2
      | apply ih3
      | apply ih4
      | apply ih5
      | apply ih6
      | apply clock_Go.mono
      | apply clock_Look.mono
      | apply clock_Stop.mono
      | apply clock_Valid.mono
      | apply gamehalllaw3_clocked.mono
      | apply gamehalllaw3_ticks.mono
      | apply gamehallref3_Ruled.mono
      | exact LeO.none _
      | refine LeO.ite ?_ ?_
      | refine LeO.bind ?_ (fun _ => ?_)
set_option maxHeartbeats 80000000 in
set_option maxRecDepth 100000 in
theorem gamehalllaw3_ClockStops.calls (k : Nat) (A0_0 : Option Addr) (c0_0 : Nat) (l0_0 : List (S91)) (a0_1 : Int) (a0_2 : Int) (a1_0 : Int) (a1_1 : Int) (a1_2 : Int) (a1_3 : Int) (a1_4 : Int) (a1_5 : Int) (a1_6 : Int) (a1_7 : Int) (a1_8 : Bool) (a1_9 : Int) (a2 : Int) (a3 : Int) (a4 : Int) (r : Bool) (w : World) (hr0_0 : Kd.C k91 w A0_0 l0_0.length l0_0) (hc0_0 : l0_0.length ≤ c0_0) (h : gamehalllaw3_ClockStops.f k l0_0 a0_1 a0_2 a1_0 a1_1 a1_2 a1_3 a1_4 a1_5 a1_6 a1_7 a1_8 a1_9 a2 a3 a4 = some r) :
    Calls Try.prog 7 #[.agg #[.slice A0_0 l0_0.length c0_0, .int .i64 a0_1, .int .i64 a0_2], .agg #[.int .i64 a1_0, .int .i64 a1_1, .int .i64 a1_2, .int .i64 a1_3, .int .i64 a1_4, .int .i64 a1_5, .int .i64 a1_6, .int .i64 a1_7, .bool a1_8, .int .i64 a1_9], .int .i64 a2, .int .i64 a3, .int .i64 a4] w fun e w' => e = .returned (.bool r) ∧ Below w.heap.size w w' := by
 have hu42 := Try.underlying42; have hu45 := Try.underlying45; have HR0_0 := Aside0.mk hr0_0; have HC0_0 := Aside0.mk hc0_0; clear hr0_0 hc0_0; have HB := Aside0.mk (Below.refl w.heap.size w); have hss_ := @isSome_setCell
 have H : ((gamehalllaw3_ticks.f k).bind fun t179 => (if t179 = true then ((clock_Stop.f k l0_0 a0_1 a0_2 a1_0 a1_1 a1_2 a1_3 a1_4 a1_5 a1_6 a1_7 a1_8 a1_9 a2).bind fun bt180 => ((gamehallref3_Ruled.f k l0_0 a0_1 a0_2).bind fun t192 => (if t192 = 0 then ((gamehalllaw3_clocked.f k l0_0 a0_1 a0_2 a1_0 a1_1 a1_2 a1_3 a1_4 a1_5 a1_6 a1_7 a1_8 a1_9).bind fun t193 => (gamehalllaw3_ClockStops.j0 k a2 a3 bt180.2.2.2.2.2.2.2.2.2.2 t192 (!t193) l0_0 a0_1 a0_2 a1_0 a1_1 a1_2 a1_3 a1_4 a1_5 a1_6 a1_7 a1_8 a1_9 bt180.1 bt180.2.1 bt180.2.2.1 bt180.2.2.2.1 bt180.2.2.2.2.1 bt180.2.2.2.2.2.1 bt180.2.2.2.2.2.2.1 bt180.2.2.2.2.2.2.2.1 bt180.2.2.2.2.2.2.2.2.1 bt180.2.2.2.2.2.2.2.2.2.1)) else (gamehalllaw3_ClockStops.j0 k a2 a3 bt180.2.2.2.2.2.2.2.2.2.2 t192 false l0_0 a0_1 a0_2 a1_0 a1_1 a1_2 a1_3 a1_4 a1_5 a1_6 a1_7 a1_8 a1_9 bt180.1 bt180.2.1 bt180.2.2.1 bt180.2.2.2.1 bt180.2.2.2.2.1 bt180.2.2.2.2.2.1 bt180.2.2.2.2.2.2.1 bt180.2.2.2.2.2.2.2.1 bt180.2.2.2.2.2.2.2.2.1 bt180.2.2.2.2.2.2.2.2.2.1)))) else (some false))) = some r := h
 clear h; replace H := Option.bind_eq_some_iff.mp H
 obtain ⟨t179, A60, H⟩ := H
 try dsimp only at H
 have A6 := Aside0.mk A60; clear A60
 by_cases c7 : t179 = true
 ·subst c7
  rw [if_pos rfl] at H
  replace H := Option.bind_eq_some_iff.mp H
  obtain ⟨⟨t180, t181, t182, t183, t184, t185, t186, t187, t188, t189, t190⟩, A80, H⟩ := H
  try dsimp only at H
  have A8 := Aside0.mk A80; clear A80; replace H := Option.bind_eq_some_iff.mp H
  obtain ⟨t192, A90, H⟩ := H
  try dsimp only at H
  have A9 := Aside0.mk A90; clear A90; have HC10 := Aside0.mk H; clear H
  go_enter Try.func7, Try.ntmps7
  go_upto_region 5 with (first | ((with_reducible refine gate_dst (N := 5) rfl ?_); refine box_event ?hg (N := 5) ?hd (cs := #[.slice A0_0 l0_0.length c0_0, .int .i64 a0_1, .int .i64 a0_2]) (t := 42) ?hr ?_; (case hd => rfl); (case hg => rfl); (case hr => first | (go_simp; done) | (go_simp; rfl)); intro gb177 hg w11 hbox hb; have BK177 := Aside0.mk (hbox); have GW177 := Aside0.mk (xZ HB hg); have GE177 := Aside0.mk (xZ HB hg); replace HB := Aside0.mk (xS HB hb); clear hb hbox hg) | ((with_reducible refine gate_dst (N := 6) rfl ?_); refine box_event ?hg (N := 6) ?hd (cs := #[.int .i64 a1_0, .int .i64 a1_1, .int .i64 a1_2, .int .i64 a1_3, .int .i64 a1_4, .int .i64 a1_5, .int .i64 a1_6, .int .i64 a1_7, .bool a1_8, .int .i64 a1_9]) (t := 45) ?hr ?_; (case hd => rfl); (case hg => rfl); (case hr => first | (go_simp; done) | (go_simp; rfl)); intro gb178 hg w12 hbox hb; have BK178 := Aside0.mk (hbox); have GW178 := Aside0.mk (xZ HB hg); have GE178 := Aside0.mk (xZ HB hg); have NB177_178 := Aside0.mk (xN BK177 hg); have NB178_177 := Aside0.mk (xM BK177 hg); replace BK177 := Aside0.mk (xB BK177 hb); replace HB := Aside0.mk (xS HB hb); clear hb hbox hg) | ((with_reducible refine gate_callee (f := 21) rfl ?_); refine goesL_ (some 21) rfl rfl Try.func21 kr_ rfl #[] rfl (by (try simp only [List.map_toArray, List.map_cons, List.map_nil]); first | done | rfl | (simp only [List.length_drop, List.length_take]; rfl)) ?_; (with_reducible refine (gamehalllaw3_ticks.calls k  true _ A6.out).mono ?_); rintro e w13 ⟨rfl, hb⟩; refine ⟨_, rfl, ?_⟩; replace BK177 := Aside0.mk (xB BK177 hb); replace BK178 := Aside0.mk (xB BK178 hb); replace HB := Aside0.mk (xS HB hb); (try clear hb); (try clear hb2); (try clear hk); (try clear hi); have hnb14 := NB177_178.out; have hnc14 := NB178_177.out; have hcz15_0 := blkc3 BK177.out; have hcz16_0 := blkc10 BK178.out) | ((with_reducible refine gate_callee (f := 22) rfl ?_); refine goesL_ (some 27) rfl rfl Try.func22 kr_ rfl #[.agg #[.slice A0_0 l0_0.length c0_0, .int .i64 a0_1, .int .i64 a0_2], .agg #[.int .i64 a1_0, .int .i64 a1_1, .int .i64 a1_2, .int .i64 a1_3, .int .i64 a1_4, .int .i64 a1_5, .int .i64 a1_6, .int .i64 a1_7, .bool a1_8, .int .i64 a1_9], .int .i64 a2] rfl (by (try simp only [List.map_toArray, List.map_cons, List.map_nil]); first | done | rfl | (simp only [List.length_drop, List.length_take]; rfl)) ?_; (with_reducible refine (clock_Stop.calls k _ _ l0_0 a0_1 a0_2 a1_0 a1_1 a1_2 a1_3 a1_4 a1_5 a1_6 a1_7 a1_8 a1_9 a2 t180 t181 t182 t183 t184 t185 t186 t187 t188 t189 t190 _ ?side1 ?side2 A8.out).mono ?_); (case side1 => exact xC (Kd.C_below HR0_0.out HB.out)); (case side2 => exact HC0_0.out); rintro e w17 ⟨rfl, hb⟩; refine ⟨_, rfl, ?_⟩; replace BK177 := Aside0.mk (xB BK177 hb); replace BK178 := Aside0.mk (xB BK178 hb); replace HB := Aside0.mk (xS HB hb); (try clear hb); (try clear hb2); (try clear hk); (try clear hi)) | ((with_reducible refine gate_dst (N := 11) rfl ?_); refine box_event ?hg (N := 11) ?hd (cs := #[.int .i64 0, .int .i64 0, .int .i64 0, .int .i64 0, .int .i64 0, .int .i64 0, .int .i64 0, .int .i64 0, .bool false, .int .i64 0]) (t := 45) ?hr ?_; (case hd => rfl); (case hg => rfl); (case hr => first | (go_simp; done) | (go_simp; rfl)); intro gb191 hg w18 hbox hb; have BK191 := Aside0.mk (hbox); have GW191 := Aside0.mk (xZ HB hg); have GE191 := Aside0.mk (xZ HB hg); have NB177_191 := Aside0.mk (xN BK177 hg); have NB191_177 := Aside0.mk (xM BK177 hg); have NB178_191 := Aside0.mk (xN BK178 hg); have NB191_178 := Aside0.mk (xM BK178 hg); replace BK177 := Aside0.mk (xB BK177 hb); replace BK178 := Aside0.mk (xB BK178 hb); replace HB := Aside0.mk (xS HB hb); clear hb hbox hg; have hnb19 := NB191_177.out; have hnc19 := NB177_191.out; have hnb20 := NB191_178.out; have hnc20 := NB178_191.out; have hcz21_0 := blkc10 BK191.out; have hcz22_0 := blkc3 BK177.out) | ((with_reducible refine gate_callee (f := 23) rfl ?_); refine goesL_ (some 31) rfl rfl Try.func23 kr_ rfl #[.agg #[.slice A0_0 l0_0.length c0_0, .int .i64 a0_1, .int .i64 a0_2]] rfl (by (try simp only [List.map_toArray, List.map_cons, List.map_nil]); first | done | rfl | (simp only [List.length_drop, List.length_take]; rfl)) ?_; (with_reducible refine (gamehallref3_Ruled.calls k _ _ l0_0 a0_1 a0_2 t192 _ ?side1 ?side2 A9.out).mono ?_); (case side1 => exact Kd.C_below HR0_0.out (xW HB)); (case side2 => exact HC0_0.out); rintro e w23 ⟨rfl, hb⟩; refine ⟨_, rfl, ?_⟩; replace BK177 := Aside0.mk (xB BK177 hb); replace BK178 := Aside0.mk (xB BK178 hb); replace BK191 := Aside0.mk (xP (l' := [.int .i64 t180, .int .i64 t181, .int .i64 t182, .int .i64 t183, .int .i64 t184, .int .i64 t185, .int .i64 t186, .int .i64 t187, .bool t188, .int .i64 t189]) BK191 hb); replace HB := Aside0.mk (xS HB hb); (try clear hb); (try clear hb2); (try clear hk); (try clear hi)))
  (try have hq177_178 := NB177_178.out); (try have hq178_177 := NB178_177.out); (try have hq177_191 := NB177_191.out); (try have hq191_177 := NB191_177.out); (try have hq178_191 := NB178_191.out); (try have hq191_178 := NB191_178.out)
  (try simp only [Act.put, List.setIfInBounds_toArray, List.set_cons_zero, List.set_cons_succ])
  go_cut [39] (fun vs39 wc => ∃ (kq : Nat) (x39_9 : Bool), vs39 = .bool x39_9 ∧ Aside0 (gamehalllaw3_ClockStops.j0 kq a2 a3 t190 t192 x39_9 l0_0 a0_1 a0_2 a1_0 a1_1 a1_2 a1_3 a1_4 a1_5 a1_6 a1_7 a1_8 a1_9 t180 t181 t182 t183 t184 t185 t186 t187 t188 t189 = some r) ∧ Aside0 (kq ≤ k) ∧ Aside0 (wc.heap[gb177]? = some (.cells #[(.slice A0_0 l0_0.length c0_0), .int .i64 a0_1, .int .i64 a0_2] 42 (0, 0))) ∧ Aside0 (wc.heap[gb178]? = some (.cells #[.int .i64 a1_0, .int .i64 a1_1, .int .i64 a1_2, .int .i64 a1_3, .int .i64 a1_4, .int .i64 a1_5, .int .i64 a1_6, .int .i64 a1_7, .bool a1_8, .int .i64 a1_9] 45 (0, 0))) ∧ Aside0 (wc.heap[gb191]? = some (.cells #[.int .i64 t180, .int .i64 t181, .int .i64 t182, .int .i64 t183, .int .i64 t184, .int .i64 t185, .int .i64 t186, .int .i64 t187, .bool t188, .int .i64 t189] 45 (0, 0))) ∧ Aside0 (Below w.heap.size w wc))
  case first =>
   refine box_ ?g1;letI i:type_of% ?g1:=⟨by
   have H := HC10.out; clear HC10
   by_cases c24 : t192 = 0
   ·rw [if_pos c24] at H
    have c24b0 : (t192 == 0) = true := beq_iff_eq.mpr c24
    have c24b1 : (t192 != 0) = false := bne_eq_false_iff_eq.mpr c24
    clear c24
    (first | rw [c24b0] | (simp only [i64_w, i32_w]; rw [c24b0]) | skip)
    replace H := Option.bind_eq_some_iff.mp H
    obtain ⟨t193, A250, H⟩ := H
    try dsimp only at H
    have A25 := Aside0.mk A250; clear A250
    have H' := Aside0.mk H
    clear H; have hcz28_0 := blkc3 BK177.out; have hcz30_0 := blkc10 BK178.out
    go_wp2_with (first | (go_at_call 24; (with_reducible refine (gamehalllaw3_clocked.calls k _ _ l0_0 a0_1 a0_2 a1_0 a1_1 a1_2 a1_3 a1_4 a1_5 a1_6 a1_7 a1_8 a1_9 t193 _ ?side1 ?side2 A25.out).mono ?_); (case side1 => exact xC (Kd.C_below HR0_0.out HB.out)); (case side2 => exact HC0_0.out); rintro e w31 ⟨rfl, hb⟩; replace BK177 := Aside0.mk (xB BK177 hb); replace BK178 := Aside0.mk (xB BK178 hb); replace BK191 := Aside0.mk (xB BK191 hb); replace HB := Aside0.mk (xS HB hb); (try clear hb); (try clear hb2); (try clear hk); (try clear hi)))
    go_meet
    case rel => exact ⟨_, (!t193), (xrf), H', ⟨by first | omega | exact Nat.le_refl _⟩, ⟨xK BK177⟩, ⟨xK BK178⟩, ⟨xK BK191⟩, ⟨xW HB⟩⟩
   ·rw [if_neg c24] at H
    have c24b0 : (t192 == 0) = false := beq_eq_false_iff_ne.mpr c24
    have c24b1 : (t192 != 0) = true := bne_iff_ne.mpr c24
    (first | rw [c24b0] | (simp only [i64_w, i32_w]; rw [c24b0]) | skip)
    have H' := Aside0.mk H
    clear H
    go_wp2
    go_meet
    case rel => exact ⟨_, (false), (xrf), H', ⟨by first | omega | exact Nat.le_refl _⟩, ⟨xK BK177⟩, ⟨xK BK178⟩, ⟨xK BK191⟩, ⟨xW HB⟩⟩⟩
   exact inferInstanceAs _
  case rest =>
   refine box_ ?g2;letI i:type_of% ?g2:=⟨by
   clear HC10; (try clear p2)
   obtain ⟨kq, x39_9, rfl, HA, HJ9, BK177, BK178, BK191, HB⟩ := hcut
   cases kq with
   | zero => exact absurd HA.out (by simp [gamehalllaw3_ClockStops.j0])
   | succ kj9 =>
    have H := HA.out; clear HA
    simp only [gamehalllaw3_ClockStops.j0] at H
    have HC32 := Aside0.mk H; clear H
    go_upto_if 39 with (fail)
    go_cut [13] (fun vs13 wc => ∃ (kq : Nat) (x13_31 : Int), vs13 = .int .i64 x13_31 ∧ Aside0 (gamehalllaw3_ClockStops.j1 kq a2 a3 t190 x13_31 l0_0 a0_1 a0_2 a1_0 a1_1 a1_2 a1_3 a1_4 a1_5 a1_6 a1_7 a1_8 a1_9 t180 t181 t182 t183 t184 t185 t186 t187 t188 t189 = some r) ∧ Aside0 (kq ≤ kj9) ∧ Aside0 (wc.heap[gb177]? = some (.cells #[(.slice A0_0 l0_0.length c0_0), .int .i64 a0_1, .int .i64 a0_2] 42 (0, 0))) ∧ Aside0 (wc.heap[gb178]? = some (.cells #[.int .i64 a1_0, .int .i64 a1_1, .int .i64 a1_2, .int .i64 a1_3, .int .i64 a1_4, .int .i64 a1_5, .int .i64 a1_6, .int .i64 a1_7, .bool a1_8, .int .i64 a1_9] 45 (0, 0))) ∧ Aside0 (wc.heap[gb191]? = some (.cells #[.int .i64 t180, .int .i64 t181, .int .i64 t182, .int .i64 t183, .int .i64 t184, .int .i64 t185, .int .i64 t186, .int .i64 t187, .bool t188, .int .i64 t189] 45 (0, 0))) ∧ Aside0 (Below w.heap.size w wc))
    case first =>
     refine box_ ?g3;letI i:type_of% ?g3:=⟨by
     have H := HC32.out; clear HC32
     by_cases c33 : x39_9 = true
     ·subst c33
      rw [if_pos rfl] at H
      have H' := Aside0.mk H
      clear H
      go_wp2
      go_meet
      case rel => exact ⟨_, (4), (xrf), H', ⟨by have := HJ9.out; first | omega | exact Nat.le_refl _⟩, ⟨xK BK177⟩, ⟨xK BK178⟩, ⟨xK BK191⟩, ⟨xW HB⟩⟩
     ·replace c33 := Bool.eq_false_iff.mpr c33
      subst c33
      rw [if_neg (show ¬ (false = true) by decide)] at H
      have H' := Aside0.mk H
      clear H
      go_wp2
      go_meet
      case rel => exact ⟨_, (t192), (xrf), H', ⟨by have := HJ9.out; first | omega | exact Nat.le_refl _⟩, ⟨xK BK177⟩, ⟨xK BK178⟩, ⟨xK BK191⟩, ⟨xW HB⟩⟩⟩
     exact inferInstanceAs _
    case rest =>
     refine box_ ?g4;letI i:type_of% ?g4:=⟨by
     clear HC32; (try clear p2); (try clear p2)
     obtain ⟨kq, x13_31, rfl, HA, HJ31, BK177, BK178, BK191, HB⟩ := hcut
     cases kq with
     | zero => exact absurd HA.out (by simp [gamehalllaw3_ClockStops.j1])
     | succ kj31 =>
      have H := HA.out; clear HA
      simp only [gamehalllaw3_ClockStops.j1] at H
      replace H := Option.bind_eq_some_iff.mp H
      obtain ⟨t194, A340, H⟩ := H
      try dsimp only at H
      have A34 := Aside0.mk A340; clear A340
      by_cases c35 : t194 = x13_31
      ·refine box_ ?g5;letI i:type_of% ?g5:=⟨by
       rw [if_pos c35] at H
       have c35b0 : (t194 == x13_31) = true := beq_iff_eq.mpr c35
       have c35b1 : (t194 != x13_31) = false := bne_eq_false_iff_eq.mpr c35
       clear c35; have HC36 := Aside0.mk H; clear H; have hcz39_0 := blkc3 BK177.out; have hcz41_0 := blkc10 BK178.out
       go_upto_region 9 with (first | ((with_reducible refine gate_callee (f := 25) rfl ?_); refine goesL_ (some 42) rfl rfl Try.func25 kr_ rfl #[.agg #[.slice A0_0 l0_0.length c0_0, .int .i64 a0_1, .int .i64 a0_2], .agg #[.int .i64 a1_0, .int .i64 a1_1, .int .i64 a1_2, .int .i64 a1_3, .int .i64 a1_4, .int .i64 a1_5, .int .i64 a1_6, .int .i64 a1_7, .bool a1_8, .int .i64 a1_9]] rfl (by (try simp only [List.map_toArray, List.map_cons, List.map_nil]); first | done | rfl | (simp only [List.length_drop, List.length_take]; rfl)) ?_; (with_reducible refine (clock_Valid.calls kj31 _ _ l0_0 a0_1 a0_2 a1_0 a1_1 a1_2 a1_3 a1_4 a1_5 a1_6 a1_7 a1_8 a1_9 t194 _ ?side1 ?side2 A34.out).mono ?_); (case side1 => exact xC (Kd.C_below HR0_0.out HB.out)); (case side2 => exact HC0_0.out); rintro e w42 ⟨rfl, hb⟩; refine ⟨_, rfl, ?_⟩; replace BK177 := Aside0.mk (xB BK177 hb); replace BK178 := Aside0.mk (xB BK178 hb); replace BK191 := Aside0.mk (xB BK191 hb); replace HB := Aside0.mk (xS HB hb); (try clear hb); (try clear hb2); (try clear hk); (try clear hi)))
       (try simp only [Act.put, List.setIfInBounds_toArray, List.set_cons_zero, List.set_cons_succ])
       go_cut [56] (fun vs56 wc => ∃ (kq : Nat) (x56_35 : Bool), vs56 = .bool x56_35 ∧ Aside0 (gamehalllaw3_ClockStops.j2 kq a2 a3 t190 x13_31 x56_35 l0_0 a0_1 a0_2 a1_0 a1_1 a1_2 a1_3 a1_4 a1_5 a1_6 a1_7 a1_8 a1_9 t180 t181 t182 t183 t184 t185 t186 t187 t188 t189 = some r) ∧ Aside0 (kq ≤ kj31) ∧ Aside0 (wc.heap[gb177]? = some (.cells #[(.slice A0_0 l0_0.length c0_0), .int .i64 a0_1, .int .i64 a0_2] 42 (0, 0))) ∧ Aside0 (wc.heap[gb178]? = some (.cells #[.int .i64 a1_0, .int .i64 a1_1, .int .i64 a1_2, .int .i64 a1_3, .int .i64 a1_4, .int .i64 a1_5, .int .i64 a1_6, .int .i64 a1_7, .bool a1_8, .int .i64 a1_9] 45 (0, 0))) ∧ Aside0 (wc.heap[gb191]? = some (.cells #[.int .i64 t180, .int .i64 t181, .int .i64 t182, .int .i64 t183, .int .i64 t184, .int .i64 t185, .int .i64 t186, .int .i64 t187, .bool t188, .int .i64 t189] 45 (0, 0))) ∧ Aside0 (Below w.heap.size w wc))
       case first =>
        refine box_ ?g6;letI i:type_of% ?g6:=⟨by
        have H := HC36.out; clear HC36
        by_cases c43 : x13_31 = 0
        ·refine box_ ?g7;letI i:type_of% ?g7:=⟨by
         rw [if_pos c43] at H
         have c43b0 : (x13_31 == 0) = true := beq_iff_eq.mpr c43
         have c43b1 : (x13_31 != 0) = false := bne_eq_false_iff_eq.mpr c43
         clear c43
         (first | rw [c43b0] | (simp only [i64_w, i32_w]; rw [c43b0]) | skip)
         by_cases c44 : a2 < a1_7
         ·rw [if_pos c44] at H
          have c44b0 : decide (a2 < a1_7) = true := decide_eq_true c44
          clear c44
          have H' := Aside0.mk H
          clear H; have hcz47_0 := blkc10 BK178.out
          go_wp2
          go_meet
          case rel => exact ⟨_, (true), (xrf), H', ⟨by have := HJ9.out; have := HJ31.out; first | omega | exact Nat.le_refl _⟩, ⟨xK BK177⟩, ⟨xK BK178⟩, ⟨xK BK191⟩, ⟨xW HB⟩⟩
         ·rw [if_neg c44] at H
          have c44b0 : decide (a2 < a1_7) = false := decide_eq_false c44
          clear c44
          have H' := Aside0.mk H
          clear H; have hcz50_0 := blkc10 BK178.out
          go_wp2
          go_meet
          case rel => exact ⟨_, (decide (a2 > 100000000)), (xrf), H', ⟨by have := HJ9.out; have := HJ31.out; first | omega | exact Nat.le_refl _⟩, ⟨xK BK177⟩, ⟨xK BK178⟩, ⟨xK BK191⟩, ⟨xW HB⟩⟩⟩
         exact inferInstanceAs _
        ·rw [if_neg c43] at H
         have c43b0 : (x13_31 == 0) = false := beq_eq_false_iff_ne.mpr c43
         have c43b1 : (x13_31 != 0) = true := bne_iff_ne.mpr c43
         (first | rw [c43b0] | (simp only [i64_w, i32_w]; rw [c43b0]) | skip)
         have H' := Aside0.mk H
         clear H
         go_wp2
         go_meet
         case rel => exact ⟨_, (false), (xrf), H', ⟨by have := HJ9.out; have := HJ31.out; first | omega | exact Nat.le_refl _⟩, ⟨xK BK177⟩, ⟨xK BK178⟩, ⟨xK BK191⟩, ⟨xW HB⟩⟩⟩
        exact inferInstanceAs _
       case rest =>
        refine box_ ?g8;letI i:type_of% ?g8:=⟨by
        clear HC36; (try clear p2); (try clear p2)
        obtain ⟨kq, x56_35, rfl, HA, HJ35, BK177, BK178, BK191, HB⟩ := hcut
        cases kq with
        | zero => exact absurd HA.out (by simp [gamehalllaw3_ClockStops.j2])
        | succ kj35 =>
         have H := HA.out; clear HA
         simp only [gamehalllaw3_ClockStops.j2] at H
         have HC51 := Aside0.mk H; clear H
         go_upto_if 56 with (fail)
         go_cut [13] (fun vs13 wc => ∃ (kq : Nat) (x13_50 : Int), vs13 = .int .i64 x13_50 ∧ Aside0 (gamehalllaw3_ClockStops.j3 kq a2 a3 t190 x13_50 l0_0 a0_1 a0_2 a1_0 a1_1 a1_2 a1_3 a1_4 a1_5 a1_6 a1_7 a1_8 a1_9 t180 t181 t182 t183 t184 t185 t186 t187 t188 t189 = some r) ∧ Aside0 (kq ≤ kj35) ∧ Aside0 (wc.heap[gb177]? = some (.cells #[(.slice A0_0 l0_0.length c0_0), .int .i64 a0_1, .int .i64 a0_2] 42 (0, 0))) ∧ Aside0 (wc.heap[gb178]? = some (.cells #[.int .i64 a1_0, .int .i64 a1_1, .int .i64 a1_2, .int .i64 a1_3, .int .i64 a1_4, .int .i64 a1_5, .int .i64 a1_6, .int .i64 a1_7, .bool a1_8, .int .i64 a1_9] 45 (0, 0))) ∧ Aside0 (wc.heap[gb191]? = some (.cells #[.int .i64 t180, .int .i64 t181, .int .i64 t182, .int .i64 t183, .int .i64 t184, .int .i64 t185, .int .i64 t186, .int .i64 t187, .bool t188, .int .i64 t189] 45 (0, 0))) ∧ Aside0 (Below w.heap.size w wc))
         case first =>
          refine box_ ?g9;letI i:type_of% ?g9:=⟨by
          have H := HC51.out; clear HC51
          by_cases c52 : x56_35 = true
          ·subst c52
           rw [if_pos rfl] at H
           have H' := Aside0.mk H
           clear H
           go_wp2
           go_meet
           case rel => exact ⟨_, (11), (xrf), H', ⟨by have := HJ9.out; have := HJ31.out; have := HJ35.out; first | omega | exact Nat.le_refl _⟩, ⟨xK BK177⟩, ⟨xK BK178⟩, ⟨xK BK191⟩, ⟨xW HB⟩⟩
          ·replace c52 := Bool.eq_false_iff.mpr c52
           subst c52
           rw [if_neg (show ¬ (false = true) by decide)] at H
           have H' := Aside0.mk H
           clear H
           go_wp2
           go_meet
           case rel => exact ⟨_, (x13_31), (xrf), H', ⟨by have := HJ9.out; have := HJ31.out; have := HJ35.out; first | omega | exact Nat.le_refl _⟩, ⟨xK BK177⟩, ⟨xK BK178⟩, ⟨xK BK191⟩, ⟨xW HB⟩⟩⟩
          exact inferInstanceAs _
         case rest =>
          refine box_ ?g10;letI i:type_of% ?g10:=⟨by
          clear HC51; (try clear p2); (try clear p2)
          obtain ⟨kq, x13_50, rfl, HA, HJ50, BK177, BK178, BK191, HB⟩ := hcut
          cases kq with
          | zero => exact absurd HA.out (by simp [gamehalllaw3_ClockStops.j3])
          | succ kj50 =>
           have H := HA.out; clear HA
           simp only [gamehalllaw3_ClockStops.j3] at H
           by_cases c53 : x13_50 = 0
           ·refine box_ ?g11;letI i:type_of% ?g11:=⟨by
            rw [if_pos c53] at H
            have c53b0 : (x13_50 == 0) = true := beq_iff_eq.mpr c53
            have c53b1 : (x13_50 != 0) = false := bne_eq_false_iff_eq.mpr c53
            clear c53
            by_cases c54 : a1_8 = true
            ·subst c54
             rw [if_pos rfl] at H
             replace H := Option.bind_eq_some_iff.mp H
             obtain ⟨⟨t195, t196, t197, t198, t199, t200, t201, t202, t203, t204, t205⟩, A550, H⟩ := H
             try dsimp only at H
             have A55 := Aside0.mk A550; clear A550
             by_cases c56 : a1_9 ≥ 0
             ·refine box_ ?g12;letI i:type_of% ?g12:=⟨by
              rw [if_pos c56] at H
              have c56b0 : decide (0 ≤ a1_9) = true := decide_eq_true c56
              clear c56
              by_cases c57 : t190 = 14
              ·rw [if_pos c57] at H
               have c57b0 : (t190 == 14) = true := beq_iff_eq.mpr c57
               have c57b1 : (t190 != 14) = false := bne_eq_false_iff_eq.mpr c57
               clear c57
               obtain rfl := Option.some.inj H
               have hcz60_0 := blkc10 BK178.out; have hcz62_0 := blkc3 BK177.out
               go_wp2_with (first | ((with_reducible refine gate_callee (f := 26) rfl ?_); refine goesL_ (some 73) rfl rfl Try.func26 kr_ rfl #[.agg #[.slice A0_0 l0_0.length c0_0, .int .i64 a0_1, .int .i64 a0_2], .agg #[.int .i64 a1_0, .int .i64 a1_1, .int .i64 a1_2, .int .i64 a1_3, .int .i64 a1_4, .int .i64 a1_5, .int .i64 a1_6, .int .i64 a1_7, .bool true, .int .i64 a1_9], .int .i64 a2] rfl (by (try simp only [List.map_toArray, List.map_cons, List.map_nil]); first | done | rfl | (simp only [List.length_drop, List.length_take]; rfl)) ?_; (with_reducible refine (clock_Go.calls kj50 _ _ l0_0 a0_1 a0_2 a1_0 a1_1 a1_2 a1_3 a1_4 a1_5 a1_6 a1_7 true a1_9 a2 t195 t196 t197 t198 t199 t200 t201 t202 t203 t204 t205 _ ?side1 ?side2 A55.out).mono ?_); (case side1 => exact xC (Kd.C_below HR0_0.out HB.out)); (case side2 => exact HC0_0.out); rintro e w63 ⟨rfl, hb⟩; refine ⟨_, rfl, ?_⟩; replace BK177 := Aside0.mk (xB BK177 hb); replace BK178 := Aside0.mk (xB BK178 hb); replace BK191 := Aside0.mk (xB BK191 hb); replace HB := Aside0.mk (xS HB hb); (try clear hb); (try clear hb2); (try clear hk); (try clear hi)) | ((with_reducible refine gate_dst (N := 14) rfl ?_); refine box_event ?hg (N := 14) ?hd (cs := #[.int .i64 0, .int .i64 0, .int .i64 0, .int .i64 0, .int .i64 0, .int .i64 0, .int .i64 0, .int .i64 0, .bool false, .int .i64 0]) (t := 45) ?hr ?_; (case hd => rfl); (case hg => rfl); (case hr => first | (go_simp; done) | (go_simp; rfl)); intro gb206 hg w64 hbox hb; have BK206 := Aside0.mk (hbox); have GW206 := Aside0.mk (xZ HB hg); have GE206 := Aside0.mk (xZ HB hg); have NB177_206 := Aside0.mk (xN BK177 hg); have NB206_177 := Aside0.mk (xM BK177 hg); have NB178_206 := Aside0.mk (xN BK178 hg); have NB206_178 := Aside0.mk (xM BK178 hg); have NB191_206 := Aside0.mk (xN BK191 hg); have NB206_191 := Aside0.mk (xM BK191 hg); replace BK177 := Aside0.mk (xB BK177 hb); replace BK178 := Aside0.mk (xB BK178 hb); replace BK191 := Aside0.mk (xB BK191 hb); replace HB := Aside0.mk (xS HB hb); clear hb hbox hg; have hnb65 := NB206_177.out; have hnc65 := NB177_206.out; have hnb66 := NB206_178.out; have hnc66 := NB178_206.out; have hnb67 := NB206_191.out; have hnc67 := NB191_206.out; have hcz68_0 := blkc10 BK206.out; have hcz69_0 := blkc10 BK178.out))
               go_ret
               exact ⟨xer, xW HB⟩
              ·rw [if_neg c57] at H
               have c57b0 : (t190 == 14) = false := beq_eq_false_iff_ne.mpr c57
               have c57b1 : (t190 != 14) = true := bne_iff_ne.mpr c57
               obtain rfl := Option.some.inj H
               have hcz72_0 := blkc10 BK178.out; have hcz74_0 := blkc3 BK177.out
               go_wp2_with (first | ((with_reducible refine gate_callee (f := 26) rfl ?_); refine goesL_ (some 73) rfl rfl Try.func26 kr_ rfl #[.agg #[.slice A0_0 l0_0.length c0_0, .int .i64 a0_1, .int .i64 a0_2], .agg #[.int .i64 a1_0, .int .i64 a1_1, .int .i64 a1_2, .int .i64 a1_3, .int .i64 a1_4, .int .i64 a1_5, .int .i64 a1_6, .int .i64 a1_7, .bool true, .int .i64 a1_9], .int .i64 a2] rfl (by (try simp only [List.map_toArray, List.map_cons, List.map_nil]); first | done | rfl | (simp only [List.length_drop, List.length_take]; rfl)) ?_; (with_reducible refine (clock_Go.calls kj50 _ _ l0_0 a0_1 a0_2 a1_0 a1_1 a1_2 a1_3 a1_4 a1_5 a1_6 a1_7 true a1_9 a2 t195 t196 t197 t198 t199 t200 t201 t202 t203 t204 t205 _ ?side1 ?side2 A55.out).mono ?_); (case side1 => exact xC (Kd.C_below HR0_0.out HB.out)); (case side2 => exact HC0_0.out); rintro e w75 ⟨rfl, hb⟩; refine ⟨_, rfl, ?_⟩; replace BK177 := Aside0.mk (xB BK177 hb); replace BK178 := Aside0.mk (xB BK178 hb); replace BK191 := Aside0.mk (xB BK191 hb); replace HB := Aside0.mk (xS HB hb); (try clear hb); (try clear hb2); (try clear hk); (try clear hi)) | ((with_reducible refine gate_dst (N := 14) rfl ?_); refine box_event ?hg (N := 14) ?hd (cs := #[.int .i64 0, .int .i64 0, .int .i64 0, .int .i64 0, .int .i64 0, .int .i64 0, .int .i64 0, .int .i64 0, .bool false, .int .i64 0]) (t := 45) ?hr ?_; (case hd => rfl); (case hg => rfl); (case hr => first | (go_simp; done) | (go_simp; rfl)); intro gb206 hg w76 hbox hb; have BK206 := Aside0.mk (hbox); have GW206 := Aside0.mk (xZ HB hg); have GE206 := Aside0.mk (xZ HB hg); have NB177_206 := Aside0.mk (xN BK177 hg); have NB206_177 := Aside0.mk (xM BK177 hg); have NB178_206 := Aside0.mk (xN BK178 hg); have NB206_178 := Aside0.mk (xM BK178 hg); have NB191_206 := Aside0.mk (xN BK191 hg); have NB206_191 := Aside0.mk (xM BK191 hg); replace BK177 := Aside0.mk (xB BK177 hb); replace BK178 := Aside0.mk (xB BK178 hb); replace BK191 := Aside0.mk (xB BK191 hb); replace HB := Aside0.mk (xS HB hb); clear hb hbox hg; have hnb77 := NB206_177.out; have hnc77 := NB177_206.out; have hnb78 := NB206_178.out; have hnc78 := NB178_206.out; have hnb79 := NB206_191.out; have hnc79 := NB191_206.out; have hcz80_0 := blkc10 BK206.out; have hcz81_0 := blkc10 BK178.out))
               go_ret
               exact ⟨xer, xW HB⟩⟩
              exact inferInstanceAs _
             ·refine box_ ?g13;letI i:type_of% ?g13:=⟨by
              rw [if_neg c56] at H
              have c56b0 : decide (0 ≤ a1_9) = false := decide_eq_false c56
              clear c56
              by_cases c82 : t190 = 10
              ·refine box_ ?g14;letI i:type_of% ?g14:=⟨by
               rw [if_pos c82] at H
               have c82b0 : (t190 == 10) = true := beq_iff_eq.mpr c82
               have c82b1 : (t190 != 10) = false := bne_eq_false_iff_eq.mpr c82
               clear c82
               by_cases c83 : t205 = 0
               ·rw [if_pos c83] at H
                have c83b0 : (t205 == 0) = true := beq_iff_eq.mpr c83
                have c83b1 : (t205 != 0) = false := bne_eq_false_iff_eq.mpr c83
                clear c83
                obtain rfl := Option.some.inj H
                have hcz86_0 := blkc10 BK178.out; have hcz88_0 := blkc3 BK177.out
                go_wp2_with (first | ((with_reducible refine gate_callee (f := 26) rfl ?_); refine goesL_ (some 73) rfl rfl Try.func26 kr_ rfl #[.agg #[.slice A0_0 l0_0.length c0_0, .int .i64 a0_1, .int .i64 a0_2], .agg #[.int .i64 a1_0, .int .i64 a1_1, .int .i64 a1_2, .int .i64 a1_3, .int .i64 a1_4, .int .i64 a1_5, .int .i64 a1_6, .int .i64 a1_7, .bool true, .int .i64 a1_9], .int .i64 a2] rfl (by (try simp only [List.map_toArray, List.map_cons, List.map_nil]); first | done | rfl | (simp only [List.length_drop, List.length_take]; rfl)) ?_; (with_reducible refine (clock_Go.calls kj50 _ _ l0_0 a0_1 a0_2 a1_0 a1_1 a1_2 a1_3 a1_4 a1_5 a1_6 a1_7 true a1_9 a2 t195 t196 t197 t198 t199 t200 t201 t202 t203 t204 t205 _ ?side1 ?side2 A55.out).mono ?_); (case side1 => exact xC (Kd.C_below HR0_0.out HB.out)); (case side2 => exact HC0_0.out); rintro e w89 ⟨rfl, hb⟩; refine ⟨_, rfl, ?_⟩; replace BK177 := Aside0.mk (xB BK177 hb); replace BK178 := Aside0.mk (xB BK178 hb); replace BK191 := Aside0.mk (xB BK191 hb); replace HB := Aside0.mk (xS HB hb); (try clear hb); (try clear hb2); (try clear hk); (try clear hi)) | ((with_reducible refine gate_dst (N := 14) rfl ?_); refine box_event ?hg (N := 14) ?hd (cs := #[.int .i64 0, .int .i64 0, .int .i64 0, .int .i64 0, .int .i64 0, .int .i64 0, .int .i64 0, .int .i64 0, .bool false, .int .i64 0]) (t := 45) ?hr ?_; (case hd => rfl); (case hg => rfl); (case hr => first | (go_simp; done) | (go_simp; rfl)); intro gb206 hg w90 hbox hb; have BK206 := Aside0.mk (hbox); have GW206 := Aside0.mk (xZ HB hg); have GE206 := Aside0.mk (xZ HB hg); have NB177_206 := Aside0.mk (xN BK177 hg); have NB206_177 := Aside0.mk (xM BK177 hg); have NB178_206 := Aside0.mk (xN BK178 hg); have NB206_178 := Aside0.mk (xM BK178 hg); have NB191_206 := Aside0.mk (xN BK191 hg); have NB206_191 := Aside0.mk (xM BK191 hg); replace BK177 := Aside0.mk (xB BK177 hb); replace BK178 := Aside0.mk (xB BK178 hb); replace BK191 := Aside0.mk (xB BK191 hb); replace HB := Aside0.mk (xS HB hb); clear hb hbox hg; have hnb91 := NB206_177.out; have hnc91 := NB177_206.out; have hnb92 := NB206_178.out; have hnc92 := NB178_206.out; have hnb93 := NB206_191.out; have hnc93 := NB191_206.out; have hcz94_0 := blkc10 BK206.out; have hcz95_0 := blkc10 BK178.out))
                go_ret
                exact ⟨xer, xW HB⟩
               ·rw [if_neg c83] at H
                have c83b0 : (t205 == 0) = false := beq_eq_false_iff_ne.mpr c83
                have c83b1 : (t205 != 0) = true := bne_iff_ne.mpr c83
                obtain rfl := Option.some.inj H
                have hcz98_0 := blkc10 BK178.out; have hcz100_0 := blkc3 BK177.out
                go_wp2_with (first | ((with_reducible refine gate_callee (f := 26) rfl ?_); refine goesL_ (some 73) rfl rfl Try.func26 kr_ rfl #[.agg #[.slice A0_0 l0_0.length c0_0, .int .i64 a0_1, .int .i64 a0_2], .agg #[.int .i64 a1_0, .int .i64 a1_1, .int .i64 a1_2, .int .i64 a1_3, .int .i64 a1_4, .int .i64 a1_5, .int .i64 a1_6, .int .i64 a1_7, .bool true, .int .i64 a1_9], .int .i64 a2] rfl (by (try simp only [List.map_toArray, List.map_cons, List.map_nil]); first | done | rfl | (simp only [List.length_drop, List.length_take]; rfl)) ?_; (with_reducible refine (clock_Go.calls kj50 _ _ l0_0 a0_1 a0_2 a1_0 a1_1 a1_2 a1_3 a1_4 a1_5 a1_6 a1_7 true a1_9 a2 t195 t196 t197 t198 t199 t200 t201 t202 t203 t204 t205 _ ?side1 ?side2 A55.out).mono ?_); (case side1 => exact xC (Kd.C_below HR0_0.out HB.out)); (case side2 => exact HC0_0.out); rintro e w101 ⟨rfl, hb⟩; refine ⟨_, rfl, ?_⟩; replace BK177 := Aside0.mk (xB BK177 hb); replace BK178 := Aside0.mk (xB BK178 hb); replace BK191 := Aside0.mk (xB BK191 hb); replace HB := Aside0.mk (xS HB hb); (try clear hb); (try clear hb2); (try clear hk); (try clear hi)) | ((with_reducible refine gate_dst (N := 14) rfl ?_); refine box_event ?hg (N := 14) ?hd (cs := #[.int .i64 0, .int .i64 0, .int .i64 0, .int .i64 0, .int .i64 0, .int .i64 0, .int .i64 0, .int .i64 0, .bool false, .int .i64 0]) (t := 45) ?hr ?_; (case hd => rfl); (case hg => rfl); (case hr => first | (go_simp; done) | (go_simp; rfl)); intro gb206 hg w102 hbox hb; have BK206 := Aside0.mk (hbox); have GW206 := Aside0.mk (xZ HB hg); have GE206 := Aside0.mk (xZ HB hg); have NB177_206 := Aside0.mk (xN BK177 hg); have NB206_177 := Aside0.mk (xM BK177 hg); have NB178_206 := Aside0.mk (xN BK178 hg); have NB206_178 := Aside0.mk (xM BK178 hg); have NB191_206 := Aside0.mk (xN BK191 hg); have NB206_191 := Aside0.mk (xM BK191 hg); replace BK177 := Aside0.mk (xB BK177 hb); replace BK178 := Aside0.mk (xB BK178 hb); replace BK191 := Aside0.mk (xB BK191 hb); replace HB := Aside0.mk (xS HB hb); clear hb hbox hg; have hnb103 := NB206_177.out; have hnc103 := NB177_206.out; have hnb104 := NB206_178.out; have hnc104 := NB178_206.out; have hnb105 := NB206_191.out; have hnc105 := NB191_206.out; have hcz106_0 := blkc10 BK206.out; have hcz107_0 := blkc10 BK178.out))
                go_ret
                exact ⟨xer, xW HB⟩⟩
               exact inferInstanceAs _
              ·rw [if_neg c82] at H
               have c82b0 : (t190 == 10) = false := beq_eq_false_iff_ne.mpr c82
               have c82b1 : (t190 != 10) = true := bne_iff_ne.mpr c82
               obtain rfl := Option.some.inj H
               have hcz110_0 := blkc10 BK178.out; have hcz112_0 := blkc3 BK177.out
               go_wp2_with (first | ((with_reducible refine gate_callee (f := 26) rfl ?_); refine goesL_ (some 73) rfl rfl Try.func26 kr_ rfl #[.agg #[.slice A0_0 l0_0.length c0_0, .int .i64 a0_1, .int .i64 a0_2], .agg #[.int .i64 a1_0, .int .i64 a1_1, .int .i64 a1_2, .int .i64 a1_3, .int .i64 a1_4, .int .i64 a1_5, .int .i64 a1_6, .int .i64 a1_7, .bool true, .int .i64 a1_9], .int .i64 a2] rfl (by (try simp only [List.map_toArray, List.map_cons, List.map_nil]); first | done | rfl | (simp only [List.length_drop, List.length_take]; rfl)) ?_; (with_reducible refine (clock_Go.calls kj50 _ _ l0_0 a0_1 a0_2 a1_0 a1_1 a1_2 a1_3 a1_4 a1_5 a1_6 a1_7 true a1_9 a2 t195 t196 t197 t198 t199 t200 t201 t202 t203 t204 t205 _ ?side1 ?side2 A55.out).mono ?_); (case side1 => exact xC (Kd.C_below HR0_0.out HB.out)); (case side2 => exact HC0_0.out); rintro e w113 ⟨rfl, hb⟩; refine ⟨_, rfl, ?_⟩; replace BK177 := Aside0.mk (xB BK177 hb); replace BK178 := Aside0.mk (xB BK178 hb); replace BK191 := Aside0.mk (xB BK191 hb); replace HB := Aside0.mk (xS HB hb); (try clear hb); (try clear hb2); (try clear hk); (try clear hi)) | ((with_reducible refine gate_dst (N := 14) rfl ?_); refine box_event ?hg (N := 14) ?hd (cs := #[.int .i64 0, .int .i64 0, .int .i64 0, .int .i64 0, .int .i64 0, .int .i64 0, .int .i64 0, .int .i64 0, .bool false, .int .i64 0]) (t := 45) ?hr ?_; (case hd => rfl); (case hg => rfl); (case hr => first | (go_simp; done) | (go_simp; rfl)); intro gb206 hg w114 hbox hb; have BK206 := Aside0.mk (hbox); have GW206 := Aside0.mk (xZ HB hg); have GE206 := Aside0.mk (xZ HB hg); have NB177_206 := Aside0.mk (xN BK177 hg); have NB206_177 := Aside0.mk (xM BK177 hg); have NB178_206 := Aside0.mk (xN BK178 hg); have NB206_178 := Aside0.mk (xM BK178 hg); have NB191_206 := Aside0.mk (xN BK191 hg); have NB206_191 := Aside0.mk (xM BK191 hg); replace BK177 := Aside0.mk (xB BK177 hb); replace BK178 := Aside0.mk (xB BK178 hb); replace BK191 := Aside0.mk (xB BK191 hb); replace HB := Aside0.mk (xS HB hb); clear hb hbox hg; have hnb115 := NB206_177.out; have hnc115 := NB177_206.out; have hnb116 := NB206_178.out; have hnc116 := NB178_206.out; have hnb117 := NB206_191.out; have hnc117 := NB191_206.out; have hcz118_0 := blkc10 BK206.out; have hcz119_0 := blkc10 BK178.out))
               go_ret
               exact ⟨xer, xW HB⟩⟩
              exact inferInstanceAs _
            ·replace c54 := Bool.eq_false_iff.mpr c54
             subst c54
             rw [if_neg (show ¬ (false = true) by decide)] at H
             replace H := Option.bind_eq_some_iff.mp H
             obtain ⟨t207, A1200, H⟩ := H
             try dsimp only at H
             have A120 := Aside0.mk A1200; clear A1200; have HC121 := Aside0.mk H; clear H; have hcz124_0 := blkc10 BK178.out; have hcz126_0 := blkc3 BK177.out
             go_upto_region 20 with (first | ((with_reducible refine gate_callee (f := 27) rfl ?_); refine goesL_ (some 104) rfl rfl Try.func27 kr_ rfl #[.agg #[.slice A0_0 l0_0.length c0_0, .int .i64 a0_1, .int .i64 a0_2], .int .i64 (wrap64 (a2 - a1_7))] rfl (by (try simp only [List.map_toArray, List.map_cons, List.map_nil]); first | done | rfl | (simp only [List.length_drop, List.length_take]; rfl)) ?_; (with_reducible refine (gamehallref3_Spent.calls _ _ l0_0 a0_1 a0_2 (wrap64 (a2 - a1_7)) t207 _ ?side1 ?side2 A120.out).mono ?_); (case side1 => exact xC (Kd.C_below HR0_0.out HB.out)); (case side2 => exact HC0_0.out); rintro e w127 ⟨rfl, hb⟩; refine ⟨_, rfl, ?_⟩; replace BK177 := Aside0.mk (xB BK177 hb); replace BK178 := Aside0.mk (xB BK178 hb); replace BK191 := Aside0.mk (xB BK191 hb); replace HB := Aside0.mk (xS HB hb); (try clear hb); (try clear hb2); (try clear hk); (try clear hi)))
             (try simp only [Act.put, List.setIfInBounds_toArray, List.set_cons_zero, List.set_cons_succ])
             go_cut [116] (fun vs116 wc => ∃ (kq : Nat) (x116_120 : Bool), vs116 = .bool x116_120 ∧ Aside0 (gamehalllaw3_ClockStops.j4 kq a2 a3 t190 t207 x116_120 l0_0 a0_1 a0_2 a1_0 a1_1 a1_2 a1_3 a1_4 a1_5 a1_6 a1_7 false a1_9 t180 t181 t182 t183 t184 t185 t186 t187 t188 t189 = some r) ∧ Aside0 (kq ≤ kj50) ∧ Aside0 (wc.heap[gb177]? = some (.cells #[(.slice A0_0 l0_0.length c0_0), .int .i64 a0_1, .int .i64 a0_2] 42 (0, 0))) ∧ Aside0 (wc.heap[gb178]? = some (.cells #[.int .i64 a1_0, .int .i64 a1_1, .int .i64 a1_2, .int .i64 a1_3, .int .i64 a1_4, .int .i64 a1_5, .int .i64 a1_6, .int .i64 a1_7, .bool false, .int .i64 a1_9] 45 (0, 0))) ∧ Aside0 (wc.heap[gb191]? = some (.cells #[.int .i64 t180, .int .i64 t181, .int .i64 t182, .int .i64 t183, .int .i64 t184, .int .i64 t185, .int .i64 t186, .int .i64 t187, .bool t188, .int .i64 t189] 45 (0, 0))) ∧ Aside0 (Below w.heap.size w wc))
             case first =>
              refine box_ ?g15;letI i:type_of% ?g15:=⟨by
              have H := HC121.out; clear HC121
              by_cases c128 : a1_9 ≥ 0
              ·rw [if_pos c128] at H
               have c128b0 : decide (0 ≤ a1_9) = true := decide_eq_true c128
               clear c128
               (first | rw [c128b0] | (simp only [i64_w, i32_w]; rw [c128b0]) | skip)
               have H' := Aside0.mk H
               clear H; have hcz131_0 := blkc10 BK178.out
               go_wp2
               go_meet
               case rel => exact ⟨_, (true), (xrf), H', ⟨by have := HJ9.out; have := HJ31.out; have := HJ35.out; have := HJ50.out; first | omega | exact Nat.le_refl _⟩, ⟨xK BK177⟩, ⟨xK BK178⟩, ⟨xK BK191⟩, ⟨xW HB⟩⟩
              ·refine box_ ?g16;letI i:type_of% ?g16:=⟨by
               rw [if_neg c128] at H
               have c128b0 : decide (0 ≤ a1_9) = false := decide_eq_false c128
               clear c128
               (first | rw [c128b0] | (simp only [i64_w, i32_w]; rw [c128b0]) | skip)
               by_cases c132 : 0 ≤ a1_6
               ·refine box_ ?g17;letI i:type_of% ?g17:=⟨by
                rw [if_pos c132] at H
                have c132b0 : decide (0 ≤ a1_6) = true := decide_eq_true c132
                clear c132
                by_cases c133 : a1_6 < 2
                ·refine box_ ?g18;letI i:type_of% ?g18:=⟨by
                 rw [if_pos c133] at H
                 have c133b0 : decide (a1_6 < 2) = true := decide_eq_true c133
                 clear c133
                 by_cases c134 : a1_6 = 0
                 ·rw [if_pos c134] at H
                  have c134b0 : (a1_6 == 0) = true := beq_iff_eq.mpr c134
                  have c134b1 : (a1_6 != 0) = false := bne_eq_false_iff_eq.mpr c134
                  clear c134; obtain ⟨c135b, c135g, c135c, c135d⟩ := xar (a1_6 : Int) 0 0 2
                  have H' := Aside0.mk H
                  clear H; have hcz138_0 := blkc10 BK178.out
                  go_wp2
                  go_meet
                  case rel => exact ⟨_, (decide (t207 > a1_0)), (xrf), H', ⟨by have := HJ9.out; have := HJ31.out; have := HJ35.out; have := HJ50.out; first | omega | exact Nat.le_refl _⟩, ⟨xK BK177⟩, ⟨xK BK178⟩, ⟨xK BK191⟩, ⟨xW HB⟩⟩
                 ·rw [if_neg c134] at H
                  have c134b0 : (a1_6 == 0) = false := beq_eq_false_iff_ne.mpr c134
                  have c134b1 : (a1_6 != 0) = true := bne_iff_ne.mpr c134
                  obtain ⟨c139b, c139g, c139c, c139d⟩ := xar (a1_6 : Int) 1 1 2
                  have H' := Aside0.mk H
                  clear H; have hcz142_0 := blkc10 BK178.out
                  go_wp2
                  go_meet
                  case rel => exact ⟨_, (decide (t207 > a1_1)), (xrf), H', ⟨by have := HJ9.out; have := HJ31.out; have := HJ35.out; have := HJ50.out; first | omega | exact Nat.le_refl _⟩, ⟨xK BK177⟩, ⟨xK BK178⟩, ⟨xK BK191⟩, ⟨xW HB⟩⟩⟩
                 exact inferInstanceAs _
                ·rw [if_neg c133] at H
                 exact absurd H (by simp)⟩
                exact inferInstanceAs _
               ·rw [if_neg c132] at H
                exact absurd H (by simp)⟩
               exact inferInstanceAs _⟩
              exact inferInstanceAs _
             case rest =>
              refine box_ ?g19;letI i:type_of% ?g19:=⟨by
              clear HC121; (try clear p2); (try clear p6); (try clear p64); (try clear p2)
              obtain ⟨kq, x116_120, rfl, HA, HJ120, BK177, BK178, BK191, HB⟩ := hcut
              cases kq with
              | zero => exact absurd HA.out (by simp [gamehalllaw3_ClockStops.j4])
              | succ kj120 =>
               have H := HA.out; clear HA
               simp only [gamehalllaw3_ClockStops.j4] at H
               by_cases c143 : x116_120 = true
               ·subst c143
                rw [if_pos rfl] at H
                by_cases c144 : t190 = 14
                ·rw [if_pos c144] at H
                 have c144b0 : (t190 == 14) = true := beq_iff_eq.mpr c144
                 have c144b1 : (t190 != 14) = false := bne_eq_false_iff_eq.mpr c144
                 clear c144
                 obtain rfl := Option.some.inj H
                 have hcz147_0 := blkc10 BK191.out
                 go_wp2
                 go_ret
                 exact ⟨xer, xW HB⟩
                ·rw [if_neg c144] at H
                 have c144b0 : (t190 == 14) = false := beq_eq_false_iff_ne.mpr c144
                 have c144b1 : (t190 != 14) = true := bne_iff_ne.mpr c144
                 obtain rfl := Option.some.inj H
                 go_wp2
                 go_ret
                 exact ⟨xer, xW HB⟩
               ·replace c143 := Bool.eq_false_iff.mpr c143
                subst c143
                rw [if_neg (show ¬ (false = true) by decide)] at H
                have HC148 := Aside0.mk H; clear H
                go_upto_region 22 with (fail)
                go_cut [] (fun wc => ∃ (kq : Nat) (z179a147 : Int) (z179b147 : Int), Aside0 (gamehalllaw3_ClockStops.j5 kq a2 a3 t190 l0_0 a0_1 a0_2 z179a147 z179b147 a1_2 a1_3 a1_4 a1_5 a1_6 a1_7 false a1_9 t180 t181 t182 t183 t184 t185 t186 t187 t188 t189 = some r) ∧ Aside0 (kq ≤ kj120) ∧ Aside0 (wc.heap[gb177]? = some (.cells #[(.slice A0_0 l0_0.length c0_0), .int .i64 a0_1, .int .i64 a0_2] 42 (0, 0))) ∧ Aside0 (wc.heap[gb178]? = some (.cells #[.int .i64 z179a147, .int .i64 z179b147, .int .i64 a1_2, .int .i64 a1_3, .int .i64 a1_4, .int .i64 a1_5, .int .i64 a1_6, .int .i64 a1_7, .bool false, .int .i64 a1_9] 45 (0, 0))) ∧ Aside0 (wc.heap[gb191]? = some (.cells #[.int .i64 t180, .int .i64 t181, .int .i64 t182, .int .i64 t183, .int .i64 t184, .int .i64 t185, .int .i64 t186, .int .i64 t187, .bool t188, .int .i64 t189] 45 (0, 0))) ∧ Aside0 (Below w.heap.size w wc))
                case first =>
                 refine box_ ?g20;letI i:type_of% ?g20:=⟨by
                 have H := HC148.out; clear HC148
                 by_cases c149 : 0 ≤ a1_6
                 ·refine box_ ?g21;letI i:type_of% ?g21:=⟨by
                  rw [if_pos c149] at H
                  have c149b0 : decide (0 ≤ a1_6) = true := decide_eq_true c149
                  clear c149
                  (first | rw [c149b0] | (simp only [i64_w, i32_w]; rw [c149b0]) | skip)
                  by_cases c150 : a1_6 < 2
                  ·refine box_ ?g22;letI i:type_of% ?g22:=⟨by
                   rw [if_pos c150] at H
                   have c150b0 : decide (a1_6 < 2) = true := decide_eq_true c150
                   clear c150
                   by_cases c151 : a1_6 = 0
                   ·rw [if_pos c151] at H
                    have c151b0 : (a1_6 == 0) = true := beq_iff_eq.mpr c151
                    have c151b1 : (a1_6 != 0) = false := bne_eq_false_iff_eq.mpr c151
                    clear c151; obtain ⟨c152b, c152g, c152c, c152d⟩ := xar (a1_6 : Int) 0 0 2; obtain ⟨c153b, c153g, c153c, c153d⟩ := xar (a1_6 : Int) 0 0 2
                    have H' := Aside0.mk H
                    clear H; have hcz156_0 := blkc10 BK178.out
                    go_wp2
                    go_meet
                    case rel => exact ⟨_, (wrap64 (a1_0 - t207)), (a1_1), H', ⟨by have := HJ9.out; have := HJ31.out; have := HJ35.out; have := HJ50.out; have := HJ120.out; first | omega | exact Nat.le_refl _⟩, ⟨xK BK177⟩, ⟨xQ BK178⟩, ⟨xK BK191⟩, ⟨xW HB⟩⟩
                   ·rw [if_neg c151] at H
                    have c151b0 : (a1_6 == 0) = false := beq_eq_false_iff_ne.mpr c151
                    have c151b1 : (a1_6 != 0) = true := bne_iff_ne.mpr c151
                    obtain ⟨c157b, c157g, c157c, c157d⟩ := xar (a1_6 : Int) 1 1 2; obtain ⟨c158b, c158g, c158c, c158d⟩ := xar (a1_6 : Int) 1 1 2
                    have H' := Aside0.mk H
                    clear H; have hcz161_0 := blkc10 BK178.out
                    go_wp2
                    go_meet
                    case rel => exact ⟨_, (a1_0), (wrap64 (a1_1 - t207)), H', ⟨by have := HJ9.out; have := HJ31.out; have := HJ35.out; have := HJ50.out; have := HJ120.out; first | omega | exact Nat.le_refl _⟩, ⟨xK BK177⟩, ⟨xQ BK178⟩, ⟨xK BK191⟩, ⟨xW HB⟩⟩⟩
                   exact inferInstanceAs _
                  ·rw [if_neg c150] at H
                   exact absurd H (by simp)⟩
                  exact inferInstanceAs _
                 ·rw [if_neg c149] at H
                  exact absurd H (by simp)⟩
                 exact inferInstanceAs _
                case rest =>
                 refine box_ ?g23;letI i:type_of% ?g23:=⟨by
                 clear HC148; (try clear p2); (try clear p6); (try clear p64); (try clear p2); (try clear p6); (try clear p64)
                 obtain ⟨kq, z179a147, z179b147, HA, HJ147, BK177, BK178, BK191, HB⟩ := hcut
                 cases kq with
                 | zero => exact absurd HA.out (by simp [gamehalllaw3_ClockStops.j5])
                 | succ kj147 =>
                  have H := HA.out; clear HA
                  simp only [gamehalllaw3_ClockStops.j5] at H
                  have HC162 := Aside0.mk H; clear H; have hcz165_0 := blkc10 BK178.out
                  go_upto_region 24 with (fail)
                  go_cut [151] (fun vs151 wc => ∃ (kq : Nat) (x151_161 : Bool), vs151 = .bool x151_161 ∧ Aside0 (gamehalllaw3_ClockStops.j6 kq a3 t190 x151_161 l0_0 a0_1 a0_2 z179a147 z179b147 a1_2 a1_3 a1_4 a1_5 a1_6 a2 true a1_9 t180 t181 t182 t183 t184 t185 t186 t187 t188 t189 = some r) ∧ Aside0 (kq ≤ kj147) ∧ Aside0 (wc.heap[gb177]? = some (.cells #[(.slice A0_0 l0_0.length c0_0), .int .i64 a0_1, .int .i64 a0_2] 42 (0, 0))) ∧ Aside0 (wc.heap[gb178]? = some (.cells #[.int .i64 z179a147, .int .i64 z179b147, .int .i64 a1_2, .int .i64 a1_3, .int .i64 a1_4, .int .i64 a1_5, .int .i64 a1_6, .int .i64 a2, .bool true, .int .i64 a1_9] 45 (0, 0))) ∧ Aside0 (wc.heap[gb191]? = some (.cells #[.int .i64 t180, .int .i64 t181, .int .i64 t182, .int .i64 t183, .int .i64 t184, .int .i64 t185, .int .i64 t186, .int .i64 t187, .bool t188, .int .i64 t189] 45 (0, 0))) ∧ Aside0 (Below w.heap.size w wc))
                  case first =>
                   refine box_ ?g24;letI i:type_of% ?g24:=⟨by
                   have H := HC162.out; clear HC162
                   by_cases c166 : t190 = 0
                   ·refine box_ ?g25;letI i:type_of% ?g25:=⟨by
                    rw [if_pos c166] at H
                    have c166b0 : (t190 == 0) = true := beq_iff_eq.mpr c166
                    have c166b1 : (t190 != 0) = false := bne_eq_false_iff_eq.mpr c166
                    clear c166
                    (first | rw [c166b0] | (simp only [i64_w, i32_w]; rw [c166b0]) | skip)
                    by_cases c167 : ((!(t180 == z179a147) || (!(t181 == z179b147))) || ((!(t182 == a1_2) || (!(t183 == a1_3))) || ((!(t184 == a1_4) || (!(t185 == a1_5))) || (!(t186 == a1_6) || (!(t187 == a2) || (!t188 || (!(t189 == a1_9)))))))) = true
                    ·rw [if_pos c167] at H
                     have c167b0 : ((!(t180 == z179a147) || (!(t181 == z179b147))) || ((!(t182 == a1_2) || (!(t183 == a1_3))) || ((!(t184 == a1_4) || (!(t185 == a1_5))) || (!(t186 == a1_6) || (!(t187 == a2) || (!t188 || (!(t189 == a1_9)))))))) = true := c167
                     clear c167
                     have H' := Aside0.mk H
                     clear H; have hcz170_0 := blkc10 BK191.out; have hcz172_0 := blkc10 BK178.out
                     go_wp2
                     go_meet
                     case rel => exact ⟨_, (true), (xrf), H', ⟨by have := HJ9.out; have := HJ31.out; have := HJ35.out; have := HJ50.out; have := HJ120.out; have := HJ147.out; first | omega | exact Nat.le_refl _⟩, ⟨xK BK177⟩, ⟨xQ BK178⟩, ⟨xK BK191⟩, ⟨xW HB⟩⟩
                    ·refine box_ ?g26;letI i:type_of% ?g26:=⟨by
                     rw [if_neg c167] at H
                     have c167b0 : ((!(t180 == z179a147) || (!(t181 == z179b147))) || ((!(t182 == a1_2) || (!(t183 == a1_3))) || ((!(t184 == a1_4) || (!(t185 == a1_5))) || (!(t186 == a1_6) || (!(t187 == a2) || (!t188 || (!(t189 == a1_9)))))))) = false := by simpa using c167
                     clear c167
                     by_cases c173 : a3 < a2
                     ·rw [if_pos c173] at H
                      have c173b0 : decide (a3 < a2) = true := decide_eq_true c173
                      clear c173
                      have H' := Aside0.mk H
                      clear H; have hcz176_0 := blkc10 BK191.out; have hcz178_0 := blkc10 BK178.out
                      go_wp2
                      go_meet
                      case rel => exact ⟨_, (true), (xrf), H', ⟨by have := HJ9.out; have := HJ31.out; have := HJ35.out; have := HJ50.out; have := HJ120.out; have := HJ147.out; first | omega | exact Nat.le_refl _⟩, ⟨xK BK177⟩, ⟨xQ BK178⟩, ⟨xK BK191⟩, ⟨xW HB⟩⟩
                     ·rw [if_neg c173] at H
                      have c173b0 : decide (a3 < a2) = false := decide_eq_false c173
                      clear c173
                      have H' := Aside0.mk H
                      clear H; have hcz181_0 := blkc10 BK191.out; have hcz183_0 := blkc10 BK178.out
                      go_wp2
                      go_meet
                      case rel => exact ⟨_, (decide (a3 > 100000000)), (xrf), H', ⟨by have := HJ9.out; have := HJ31.out; have := HJ35.out; have := HJ50.out; have := HJ120.out; have := HJ147.out; first | omega | exact Nat.le_refl _⟩, ⟨xK BK177⟩, ⟨xQ BK178⟩, ⟨xK BK191⟩, ⟨xW HB⟩⟩⟩
                     exact inferInstanceAs _⟩
                    exact inferInstanceAs _
                   ·rw [if_neg c166] at H
                    have c166b0 : (t190 == 0) = false := beq_eq_false_iff_ne.mpr c166
                    have c166b1 : (t190 != 0) = true := bne_iff_ne.mpr c166
                    (first | rw [c166b0] | (simp only [i64_w, i32_w]; rw [c166b0]) | skip)
                    have H' := Aside0.mk H
                    clear H
                    go_wp2
                    go_meet
                    case rel => exact ⟨_, (true), (xrf), H', ⟨by have := HJ9.out; have := HJ31.out; have := HJ35.out; have := HJ50.out; have := HJ120.out; have := HJ147.out; first | omega | exact Nat.le_refl _⟩, ⟨xK BK177⟩, ⟨xQ BK178⟩, ⟨xK BK191⟩, ⟨xW HB⟩⟩⟩
                   exact inferInstanceAs _
                  case rest =>
                   refine box_ ?g27;letI i:type_of% ?g27:=⟨by
                   clear HC162; (try clear p2); (try clear p6); (try clear p64); (try clear p2); (try clear p6); (try clear p64)
                   obtain ⟨kq, x151_161, rfl, HA, HJ161, BK177, BK178, BK191, HB⟩ := hcut
                   cases kq with
                   | zero => exact absurd HA.out (by simp [gamehalllaw3_ClockStops.j6])
                   | succ kj161 =>
                    have H := HA.out; clear HA
                    simp only [gamehalllaw3_ClockStops.j6] at H
                    by_cases c184 : x151_161 = true
                    ·subst c184
                     rw [if_pos rfl] at H
                     by_cases c185 : t190 = 0
                     ·rw [if_pos c185] at H
                      have c185b0 : (t190 == 0) = true := beq_iff_eq.mpr c185
                      have c185b1 : (t190 != 0) = false := bne_eq_false_iff_eq.mpr c185
                      clear c185
                      obtain rfl := Option.some.inj H
                      have hcz188_0 := blkc10 BK191.out; have hcz190_0 := blkc10 BK178.out
                      go_wp2
                      go_ret
                      exact ⟨xer, xW HB⟩
                     ·rw [if_neg c185] at H
                      have c185b0 : (t190 == 0) = false := beq_eq_false_iff_ne.mpr c185
                      have c185b1 : (t190 != 0) = true := bne_iff_ne.mpr c185
                      obtain rfl := Option.some.inj H
                      go_wp2
                      go_ret
                      exact ⟨xer, xW HB⟩
                    ·replace c184 := Bool.eq_false_iff.mpr c184
                     subst c184
                     rw [if_neg (show ¬ (false = true) by decide)] at H
                     replace H := Option.bind_eq_some_iff.mp H
                     obtain ⟨⟨t208, t209, t210, t211, t212, t213, t214, t215, t216, t217, t218⟩, A1910, H⟩ := H
                     try dsimp only at H
                     have A191 := Aside0.mk A1910; clear A1910; replace H := Option.bind_eq_some_iff.mp H
                     obtain ⟨⟨t220, t221, t222, t223, t224, t225, t226, t227, t228, t229, t230⟩, A1920, H⟩ := H
                     try dsimp only at H
                     have A192 := Aside0.mk A1920; clear A1920
                     by_cases c193 : t218 = 0
                     ·refine box_ ?g28;letI i:type_of% ?g28:=⟨by
                      rw [if_pos c193] at H
                      have c193b0 : (t218 == 0) = true := beq_iff_eq.mpr c193
                      have c193b1 : (t218 != 0) = false := bne_eq_false_iff_eq.mpr c193
                      clear c193
                      by_cases c194 : ((t208 == t180 && (t209 == t181)) && ((t210 == t182 && (t211 == t183)) && ((t212 == t184 && (t213 == t185)) && (t214 == t186 && (t215 == t187 && (t216 == t188 && (t217 == t189))))))) = true
                      ·refine box_ ?g29;letI i:type_of% ?g29:=⟨by
                       rw [if_pos c194] at H
                       have c194b0 : ((t208 == t180 && (t209 == t181)) && ((t210 == t182 && (t211 == t183)) && ((t212 == t184 && (t213 == t185)) && (t214 == t186 && (t215 == t187 && (t216 == t188 && (t217 == t189))))))) = true := c194
                       clear c194
                       by_cases c195 : t230 = 0
                       ·rw [if_pos c195] at H
                        have c195b0 : (t230 == 0) = true := beq_iff_eq.mpr c195
                        have c195b1 : (t230 != 0) = false := bne_eq_false_iff_eq.mpr c195
                        clear c195
                        obtain rfl := Option.some.inj H
                        have hcz198_0 := blkc3 BK177.out; have hcz200_0 := blkc10 BK191.out
                        go_wp2_with (first | ((with_reducible refine gate_callee (f := 28) rfl ?_); refine goesL_ (some 163) rfl rfl Try.func28 kr_ rfl #[.agg #[.slice A0_0 l0_0.length c0_0, .int .i64 a0_1, .int .i64 a0_2], .agg #[.int .i64 t180, .int .i64 t181, .int .i64 t182, .int .i64 t183, .int .i64 t184, .int .i64 t185, .int .i64 t186, .int .i64 t187, .bool t188, .int .i64 t189], .int .i64 a3] rfl (by (try simp only [List.map_toArray, List.map_cons, List.map_nil]); first | done | rfl | (simp only [List.length_drop, List.length_take]; rfl)) ?_; (with_reducible refine (clock_Look.calls kj161 _ _ l0_0 a0_1 a0_2 t180 t181 t182 t183 t184 t185 t186 t187 t188 t189 a3 t208 t209 t210 t211 t212 t213 t214 t215 t216 t217 t218 _ ?side1 ?side2 A191.out).mono ?_); (case side1 => exact xC (Kd.C_below HR0_0.out HB.out)); (case side2 => exact HC0_0.out); rintro e w201 ⟨rfl, hb⟩; refine ⟨_, rfl, ?_⟩; replace BK177 := Aside0.mk (xB BK177 hb); replace BK178 := Aside0.mk (xB BK178 hb); replace BK191 := Aside0.mk (xB BK191 hb); replace HB := Aside0.mk (xS HB hb); (try clear hb); (try clear hb2); (try clear hk); (try clear hi)) | ((with_reducible refine gate_dst (N := 17) rfl ?_); refine box_event ?hg (N := 17) ?hd (cs := #[.int .i64 0, .int .i64 0, .int .i64 0, .int .i64 0, .int .i64 0, .int .i64 0, .int .i64 0, .int .i64 0, .bool false, .int .i64 0]) (t := 45) ?hr ?_; (case hd => rfl); (case hg => rfl); (case hr => first | (go_simp; done) | (go_simp; rfl)); intro gb219 hg w202 hbox hb; have BK219 := Aside0.mk (hbox); have GW219 := Aside0.mk (xZ HB hg); have GE219 := Aside0.mk (xZ HB hg); have NB177_219 := Aside0.mk (xN BK177 hg); have NB219_177 := Aside0.mk (xM BK177 hg); have NB178_219 := Aside0.mk (xN BK178 hg); have NB219_178 := Aside0.mk (xM BK178 hg); have NB191_219 := Aside0.mk (xN BK191 hg); have NB219_191 := Aside0.mk (xM BK191 hg); replace BK177 := Aside0.mk (xB BK177 hb); replace BK178 := Aside0.mk (xB BK178 hb); replace BK191 := Aside0.mk (xB BK191 hb); replace HB := Aside0.mk (xS HB hb); clear hb hbox hg; have hnb203 := NB219_177.out; have hnc203 := NB177_219.out; have hnb204 := NB219_178.out; have hnc204 := NB178_219.out; have hnb205 := NB219_191.out; have hnc205 := NB191_219.out; have hcz206_0 := blkc10 BK219.out; have hcz207_0 := blkc3 BK177.out; have hcz208_0 := blkc10 BK191.out) | ((with_reducible refine gate_callee (f := 26) rfl ?_); refine goesL_ (some 170) rfl rfl Try.func26 kr_ rfl #[.agg #[.slice A0_0 l0_0.length c0_0, .int .i64 a0_1, .int .i64 a0_2], .agg #[.int .i64 t180, .int .i64 t181, .int .i64 t182, .int .i64 t183, .int .i64 t184, .int .i64 t185, .int .i64 t186, .int .i64 t187, .bool t188, .int .i64 t189], .int .i64 a3] rfl (by (try simp only [List.map_toArray, List.map_cons, List.map_nil]); first | done | rfl | (simp only [List.length_drop, List.length_take]; rfl)) ?_; (with_reducible refine (clock_Go.calls kj161 _ _ l0_0 a0_1 a0_2 t180 t181 t182 t183 t184 t185 t186 t187 t188 t189 a3 t220 t221 t222 t223 t224 t225 t226 t227 t228 t229 t230 _ ?side1 ?side2 A192.out).mono ?_); (case side1 => exact Kd.C_below HR0_0.out (xW HB)); (case side2 => exact HC0_0.out); rintro e w209 ⟨rfl, hb⟩; refine ⟨_, rfl, ?_⟩; replace BK177 := Aside0.mk (xB BK177 hb); replace BK178 := Aside0.mk (xB BK178 hb); replace BK191 := Aside0.mk (xB BK191 hb); replace BK219 := Aside0.mk (xP (l' := [.int .i64 t208, .int .i64 t209, .int .i64 t210, .int .i64 t211, .int .i64 t212, .int .i64 t213, .int .i64 t214, .int .i64 t215, .bool t216, .int .i64 t217]) BK219 hb); replace HB := Aside0.mk (xS HB hb); (try clear hb); (try clear hb2); (try clear hk); (try clear hi)) | ((with_reducible refine gate_dst (N := 19) rfl ?_); refine box_event ?hg (N := 19) ?hd (cs := #[.int .i64 0, .int .i64 0, .int .i64 0, .int .i64 0, .int .i64 0, .int .i64 0, .int .i64 0, .int .i64 0, .bool false, .int .i64 0]) (t := 45) ?hr ?_; (case hd => rfl); (case hg => rfl); (case hr => first | (go_simp; done) | (go_simp; rfl)); intro gb231 hg w210 hbox hb; have BK231 := Aside0.mk (hbox); have GW231 := Aside0.mk (xZ HB hg); have GE231 := Aside0.mk (xZ HB hg); have NB177_231 := Aside0.mk (xN BK177 hg); have NB231_177 := Aside0.mk (xM BK177 hg); have NB178_231 := Aside0.mk (xN BK178 hg); have NB231_178 := Aside0.mk (xM BK178 hg); have NB191_231 := Aside0.mk (xN BK191 hg); have NB231_191 := Aside0.mk (xM BK191 hg); have NB219_231 := Aside0.mk (xN BK219 hg); have NB231_219 := Aside0.mk (xM BK219 hg); replace BK177 := Aside0.mk (xB BK177 hb); replace BK178 := Aside0.mk (xB BK178 hb); replace BK191 := Aside0.mk (xB BK191 hb); replace BK219 := Aside0.mk (xB BK219 hb); replace HB := Aside0.mk (xS HB hb); clear hb hbox hg; have hnb211 := NB231_177.out; have hnc211 := NB177_231.out; have hnb212 := NB231_178.out; have hnc212 := NB178_231.out; have hnb213 := NB231_191.out; have hnc213 := NB191_231.out; have hnb214 := NB231_219.out; have hnc214 := NB219_231.out; have hcz215_0 := blkc10 BK231.out; have hcz216_0 := blkc10 BK178.out; have hcz217_0 := blkc10 BK219.out; have hcz218_0 := blkc10 BK191.out))
                        go_ret
                        exact ⟨xer, xW HB⟩
                       ·rw [if_neg c195] at H
                        have c195b0 : (t230 == 0) = false := beq_eq_false_iff_ne.mpr c195
                        have c195b1 : (t230 != 0) = true := bne_iff_ne.mpr c195
                        obtain rfl := Option.some.inj H
                        have hcz221_0 := blkc3 BK177.out; have hcz223_0 := blkc10 BK191.out
                        go_wp2_with (first | ((with_reducible refine gate_callee (f := 28) rfl ?_); refine goesL_ (some 163) rfl rfl Try.func28 kr_ rfl #[.agg #[.slice A0_0 l0_0.length c0_0, .int .i64 a0_1, .int .i64 a0_2], .agg #[.int .i64 t180, .int .i64 t181, .int .i64 t182, .int .i64 t183, .int .i64 t184, .int .i64 t185, .int .i64 t186, .int .i64 t187, .bool t188, .int .i64 t189], .int .i64 a3] rfl (by (try simp only [List.map_toArray, List.map_cons, List.map_nil]); first | done | rfl | (simp only [List.length_drop, List.length_take]; rfl)) ?_; (with_reducible refine (clock_Look.calls kj161 _ _ l0_0 a0_1 a0_2 t180 t181 t182 t183 t184 t185 t186 t187 t188 t189 a3 t208 t209 t210 t211 t212 t213 t214 t215 t216 t217 t218 _ ?side1 ?side2 A191.out).mono ?_); (case side1 => exact xC (Kd.C_below HR0_0.out HB.out)); (case side2 => exact HC0_0.out); rintro e w224 ⟨rfl, hb⟩; refine ⟨_, rfl, ?_⟩; replace BK177 := Aside0.mk (xB BK177 hb); replace BK178 := Aside0.mk (xB BK178 hb); replace BK191 := Aside0.mk (xB BK191 hb); replace HB := Aside0.mk (xS HB hb); (try clear hb); (try clear hb2); (try clear hk); (try clear hi)) | ((with_reducible refine gate_dst (N := 17) rfl ?_); refine box_event ?hg (N := 17) ?hd (cs := #[.int .i64 0, .int .i64 0, .int .i64 0, .int .i64 0, .int .i64 0, .int .i64 0, .int .i64 0, .int .i64 0, .bool false, .int .i64 0]) (t := 45) ?hr ?_; (case hd => rfl); (case hg => rfl); (case hr => first | (go_simp; done) | (go_simp; rfl)); intro gb219 hg w225 hbox hb; have BK219 := Aside0.mk (hbox); have GW219 := Aside0.mk (xZ HB hg); have GE219 := Aside0.mk (xZ HB hg); have NB177_219 := Aside0.mk (xN BK177 hg); have NB219_177 := Aside0.mk (xM BK177 hg); have NB178_219 := Aside0.mk (xN BK178 hg); have NB219_178 := Aside0.mk (xM BK178 hg); have NB191_219 := Aside0.mk (xN BK191 hg); have NB219_191 := Aside0.mk (xM BK191 hg); replace BK177 := Aside0.mk (xB BK177 hb); replace BK178 := Aside0.mk (xB BK178 hb); replace BK191 := Aside0.mk (xB BK191 hb); replace HB := Aside0.mk (xS HB hb); clear hb hbox hg; have hnb226 := NB219_177.out; have hnc226 := NB177_219.out; have hnb227 := NB219_178.out; have hnc227 := NB178_219.out; have hnb228 := NB219_191.out; have hnc228 := NB191_219.out; have hcz229_0 := blkc10 BK219.out; have hcz230_0 := blkc3 BK177.out; have hcz231_0 := blkc10 BK191.out) | ((with_reducible refine gate_callee (f := 26) rfl ?_); refine goesL_ (some 170) rfl rfl Try.func26 kr_ rfl #[.agg #[.slice A0_0 l0_0.length c0_0, .int .i64 a0_1, .int .i64 a0_2], .agg #[.int .i64 t180, .int .i64 t181, .int .i64 t182, .int .i64 t183, .int .i64 t184, .int .i64 t185, .int .i64 t186, .int .i64 t187, .bool t188, .int .i64 t189], .int .i64 a3] rfl (by (try simp only [List.map_toArray, List.map_cons, List.map_nil]); first | done | rfl | (simp only [List.length_drop, List.length_take]; rfl)) ?_; (with_reducible refine (clock_Go.calls kj161 _ _ l0_0 a0_1 a0_2 t180 t181 t182 t183 t184 t185 t186 t187 t188 t189 a3 t220 t221 t222 t223 t224 t225 t226 t227 t228 t229 t230 _ ?side1 ?side2 A192.out).mono ?_); (case side1 => exact Kd.C_below HR0_0.out (xW HB)); (case side2 => exact HC0_0.out); rintro e w232 ⟨rfl, hb⟩; refine ⟨_, rfl, ?_⟩; replace BK177 := Aside0.mk (xB BK177 hb); replace BK178 := Aside0.mk (xB BK178 hb); replace BK191 := Aside0.mk (xB BK191 hb); replace BK219 := Aside0.mk (xP (l' := [.int .i64 t208, .int .i64 t209, .int .i64 t210, .int .i64 t211, .int .i64 t212, .int .i64 t213, .int .i64 t214, .int .i64 t215, .bool t216, .int .i64 t217]) BK219 hb); replace HB := Aside0.mk (xS HB hb); (try clear hb); (try clear hb2); (try clear hk); (try clear hi)) | ((with_reducible refine gate_dst (N := 19) rfl ?_); refine box_event ?hg (N := 19) ?hd (cs := #[.int .i64 0, .int .i64 0, .int .i64 0, .int .i64 0, .int .i64 0, .int .i64 0, .int .i64 0, .int .i64 0, .bool false, .int .i64 0]) (t := 45) ?hr ?_; (case hd => rfl); (case hg => rfl); (case hr => first | (go_simp; done) | (go_simp; rfl)); intro gb231 hg w233 hbox hb; have BK231 := Aside0.mk (hbox); have GW231 := Aside0.mk (xZ HB hg); have GE231 := Aside0.mk (xZ HB hg); have NB177_231 := Aside0.mk (xN BK177 hg); have NB231_177 := Aside0.mk (xM BK177 hg); have NB178_231 := Aside0.mk (xN BK178 hg); have NB231_178 := Aside0.mk (xM BK178 hg); have NB191_231 := Aside0.mk (xN BK191 hg); have NB231_191 := Aside0.mk (xM BK191 hg); have NB219_231 := Aside0.mk (xN BK219 hg); have NB231_219 := Aside0.mk (xM BK219 hg); replace BK177 := Aside0.mk (xB BK177 hb); replace BK178 := Aside0.mk (xB BK178 hb); replace BK191 := Aside0.mk (xB BK191 hb); replace BK219 := Aside0.mk (xB BK219 hb); replace HB := Aside0.mk (xS HB hb); clear hb hbox hg; have hnb234 := NB231_177.out; have hnc234 := NB177_231.out; have hnb235 := NB231_178.out; have hnc235 := NB178_231.out; have hnb236 := NB231_191.out; have hnc236 := NB191_231.out; have hnb237 := NB231_219.out; have hnc237 := NB219_231.out; have hcz238_0 := blkc10 BK231.out; have hcz239_0 := blkc10 BK178.out; have hcz240_0 := blkc10 BK219.out; have hcz241_0 := blkc10 BK191.out))
                        go_ret
                        exact ⟨xer, xW HB⟩⟩
                       exact inferInstanceAs _
                      ·rw [if_neg c194] at H
                       have c194b0 : ((t208 == t180 && (t209 == t181)) && ((t210 == t182 && (t211 == t183)) && ((t212 == t184 && (t213 == t185)) && (t214 == t186 && (t215 == t187 && (t216 == t188 && (t217 == t189))))))) = false := by simpa using c194
                       clear c194
                       obtain rfl := Option.some.inj H
                       have hcz244_0 := blkc3 BK177.out; have hcz246_0 := blkc10 BK191.out
                       go_wp2_with (first | ((with_reducible refine gate_callee (f := 28) rfl ?_); refine goesL_ (some 163) rfl rfl Try.func28 kr_ rfl #[.agg #[.slice A0_0 l0_0.length c0_0, .int .i64 a0_1, .int .i64 a0_2], .agg #[.int .i64 t180, .int .i64 t181, .int .i64 t182, .int .i64 t183, .int .i64 t184, .int .i64 t185, .int .i64 t186, .int .i64 t187, .bool t188, .int .i64 t189], .int .i64 a3] rfl (by (try simp only [List.map_toArray, List.map_cons, List.map_nil]); first | done | rfl | (simp only [List.length_drop, List.length_take]; rfl)) ?_; (with_reducible refine (clock_Look.calls kj161 _ _ l0_0 a0_1 a0_2 t180 t181 t182 t183 t184 t185 t186 t187 t188 t189 a3 t208 t209 t210 t211 t212 t213 t214 t215 t216 t217 t218 _ ?side1 ?side2 A191.out).mono ?_); (case side1 => exact xC (Kd.C_below HR0_0.out HB.out)); (case side2 => exact HC0_0.out); rintro e w247 ⟨rfl, hb⟩; refine ⟨_, rfl, ?_⟩; replace BK177 := Aside0.mk (xB BK177 hb); replace BK178 := Aside0.mk (xB BK178 hb); replace BK191 := Aside0.mk (xB BK191 hb); replace HB := Aside0.mk (xS HB hb); (try clear hb); (try clear hb2); (try clear hk); (try clear hi)) | ((with_reducible refine gate_dst (N := 17) rfl ?_); refine box_event ?hg (N := 17) ?hd (cs := #[.int .i64 0, .int .i64 0, .int .i64 0, .int .i64 0, .int .i64 0, .int .i64 0, .int .i64 0, .int .i64 0, .bool false, .int .i64 0]) (t := 45) ?hr ?_; (case hd => rfl); (case hg => rfl); (case hr => first | (go_simp; done) | (go_simp; rfl)); intro gb219 hg w248 hbox hb; have BK219 := Aside0.mk (hbox); have GW219 := Aside0.mk (xZ HB hg); have GE219 := Aside0.mk (xZ HB hg); have NB177_219 := Aside0.mk (xN BK177 hg); have NB219_177 := Aside0.mk (xM BK177 hg); have NB178_219 := Aside0.mk (xN BK178 hg); have NB219_178 := Aside0.mk (xM BK178 hg); have NB191_219 := Aside0.mk (xN BK191 hg); have NB219_191 := Aside0.mk (xM BK191 hg); replace BK177 := Aside0.mk (xB BK177 hb); replace BK178 := Aside0.mk (xB BK178 hb); replace BK191 := Aside0.mk (xB BK191 hb); replace HB := Aside0.mk (xS HB hb); clear hb hbox hg; have hnb249 := NB219_177.out; have hnc249 := NB177_219.out; have hnb250 := NB219_178.out; have hnc250 := NB178_219.out; have hnb251 := NB219_191.out; have hnc251 := NB191_219.out; have hcz252_0 := blkc10 BK219.out; have hcz253_0 := blkc3 BK177.out; have hcz254_0 := blkc10 BK191.out) | ((with_reducible refine gate_callee (f := 26) rfl ?_); refine goesL_ (some 170) rfl rfl Try.func26 kr_ rfl #[.agg #[.slice A0_0 l0_0.length c0_0, .int .i64 a0_1, .int .i64 a0_2], .agg #[.int .i64 t180, .int .i64 t181, .int .i64 t182, .int .i64 t183, .int .i64 t184, .int .i64 t185, .int .i64 t186, .int .i64 t187, .bool t188, .int .i64 t189], .int .i64 a3] rfl (by (try simp only [List.map_toArray, List.map_cons, List.map_nil]); first | done | rfl | (simp only [List.length_drop, List.length_take]; rfl)) ?_; (with_reducible refine (clock_Go.calls kj161 _ _ l0_0 a0_1 a0_2 t180 t181 t182 t183 t184 t185 t186 t187 t188 t189 a3 t220 t221 t222 t223 t224 t225 t226 t227 t228 t229 t230 _ ?side1 ?side2 A192.out).mono ?_); (case side1 => exact Kd.C_below HR0_0.out (xW HB)); (case side2 => exact HC0_0.out); rintro e w255 ⟨rfl, hb⟩; refine ⟨_, rfl, ?_⟩; replace BK177 := Aside0.mk (xB BK177 hb); replace BK178 := Aside0.mk (xB BK178 hb); replace BK191 := Aside0.mk (xB BK191 hb); replace BK219 := Aside0.mk (xP (l' := [.int .i64 t208, .int .i64 t209, .int .i64 t210, .int .i64 t211, .int .i64 t212, .int .i64 t213, .int .i64 t214, .int .i64 t215, .bool t216, .int .i64 t217]) BK219 hb); replace HB := Aside0.mk (xS HB hb); (try clear hb); (try clear hb2); (try clear hk); (try clear hi)) | ((with_reducible refine gate_dst (N := 19) rfl ?_); refine box_event ?hg (N := 19) ?hd (cs := #[.int .i64 0, .int .i64 0, .int .i64 0, .int .i64 0, .int .i64 0, .int .i64 0, .int .i64 0, .int .i64 0, .bool false, .int .i64 0]) (t := 45) ?hr ?_; (case hd => rfl); (case hg => rfl); (case hr => first | (go_simp; done) | (go_simp; rfl)); intro gb231 hg w256 hbox hb; have BK231 := Aside0.mk (hbox); have GW231 := Aside0.mk (xZ HB hg); have GE231 := Aside0.mk (xZ HB hg); have NB177_231 := Aside0.mk (xN BK177 hg); have NB231_177 := Aside0.mk (xM BK177 hg); have NB178_231 := Aside0.mk (xN BK178 hg); have NB231_178 := Aside0.mk (xM BK178 hg); have NB191_231 := Aside0.mk (xN BK191 hg); have NB231_191 := Aside0.mk (xM BK191 hg); have NB219_231 := Aside0.mk (xN BK219 hg); have NB231_219 := Aside0.mk (xM BK219 hg); replace BK177 := Aside0.mk (xB BK177 hb); replace BK178 := Aside0.mk (xB BK178 hb); replace BK191 := Aside0.mk (xB BK191 hb); replace BK219 := Aside0.mk (xB BK219 hb); replace HB := Aside0.mk (xS HB hb); clear hb hbox hg; have hnb257 := NB231_177.out; have hnc257 := NB177_231.out; have hnb258 := NB231_178.out; have hnc258 := NB178_231.out; have hnb259 := NB231_191.out; have hnc259 := NB191_231.out; have hnb260 := NB231_219.out; have hnc260 := NB219_231.out; have hcz261_0 := blkc10 BK231.out; have hcz262_0 := blkc10 BK178.out; have hcz263_0 := blkc10 BK219.out; have hcz264_0 := blkc10 BK191.out))
                       go_ret
                       exact ⟨xer, xW HB⟩⟩
                      exact inferInstanceAs _
                     ·rw [if_neg c193] at H
                      have c193b0 : (t218 == 0) = false := beq_eq_false_iff_ne.mpr c193
                      have c193b1 : (t218 != 0) = true := bne_iff_ne.mpr c193
                      obtain rfl := Option.some.inj H
                      have hcz267_0 := blkc3 BK177.out; have hcz269_0 := blkc10 BK191.out
                      go_wp2_with (first | ((with_reducible refine gate_callee (f := 28) rfl ?_); refine goesL_ (some 163) rfl rfl Try.func28 kr_ rfl #[.agg #[.slice A0_0 l0_0.length c0_0, .int .i64 a0_1, .int .i64 a0_2], .agg #[.int .i64 t180, .int .i64 t181, .int .i64 t182, .int .i64 t183, .int .i64 t184, .int .i64 t185, .int .i64 t186, .int .i64 t187, .bool t188, .int .i64 t189], .int .i64 a3] rfl (by (try simp only [List.map_toArray, List.map_cons, List.map_nil]); first | done | rfl | (simp only [List.length_drop, List.length_take]; rfl)) ?_; (with_reducible refine (clock_Look.calls kj161 _ _ l0_0 a0_1 a0_2 t180 t181 t182 t183 t184 t185 t186 t187 t188 t189 a3 t208 t209 t210 t211 t212 t213 t214 t215 t216 t217 t218 _ ?side1 ?side2 A191.out).mono ?_); (case side1 => exact xC (Kd.C_below HR0_0.out HB.out)); (case side2 => exact HC0_0.out); rintro e w270 ⟨rfl, hb⟩; refine ⟨_, rfl, ?_⟩; replace BK177 := Aside0.mk (xB BK177 hb); replace BK178 := Aside0.mk (xB BK178 hb); replace BK191 := Aside0.mk (xB BK191 hb); replace HB := Aside0.mk (xS HB hb); (try clear hb); (try clear hb2); (try clear hk); (try clear hi)) | ((with_reducible refine gate_dst (N := 17) rfl ?_); refine box_event ?hg (N := 17) ?hd (cs := #[.int .i64 0, .int .i64 0, .int .i64 0, .int .i64 0, .int .i64 0, .int .i64 0, .int .i64 0, .int .i64 0, .bool false, .int .i64 0]) (t := 45) ?hr ?_; (case hd => rfl); (case hg => rfl); (case hr => first | (go_simp; done) | (go_simp; rfl)); intro gb219 hg w271 hbox hb; have BK219 := Aside0.mk (hbox); have GW219 := Aside0.mk (xZ HB hg); have GE219 := Aside0.mk (xZ HB hg); have NB177_219 := Aside0.mk (xN BK177 hg); have NB219_177 := Aside0.mk (xM BK177 hg); have NB178_219 := Aside0.mk (xN BK178 hg); have NB219_178 := Aside0.mk (xM BK178 hg); have NB191_219 := Aside0.mk (xN BK191 hg); have NB219_191 := Aside0.mk (xM BK191 hg); replace BK177 := Aside0.mk (xB BK177 hb); replace BK178 := Aside0.mk (xB BK178 hb); replace BK191 := Aside0.mk (xB BK191 hb); replace HB := Aside0.mk (xS HB hb); clear hb hbox hg; have hnb272 := NB219_177.out; have hnc272 := NB177_219.out; have hnb273 := NB219_178.out; have hnc273 := NB178_219.out; have hnb274 := NB219_191.out; have hnc274 := NB191_219.out; have hcz275_0 := blkc10 BK219.out; have hcz276_0 := blkc3 BK177.out; have hcz277_0 := blkc10 BK191.out) | ((with_reducible refine gate_callee (f := 26) rfl ?_); refine goesL_ (some 170) rfl rfl Try.func26 kr_ rfl #[.agg #[.slice A0_0 l0_0.length c0_0, .int .i64 a0_1, .int .i64 a0_2], .agg #[.int .i64 t180, .int .i64 t181, .int .i64 t182, .int .i64 t183, .int .i64 t184, .int .i64 t185, .int .i64 t186, .int .i64 t187, .bool t188, .int .i64 t189], .int .i64 a3] rfl (by (try simp only [List.map_toArray, List.map_cons, List.map_nil]); first | done | rfl | (simp only [List.length_drop, List.length_take]; rfl)) ?_; (with_reducible refine (clock_Go.calls kj161 _ _ l0_0 a0_1 a0_2 t180 t181 t182 t183 t184 t185 t186 t187 t188 t189 a3 t220 t221 t222 t223 t224 t225 t226 t227 t228 t229 t230 _ ?side1 ?side2 A192.out).mono ?_); (case side1 => exact Kd.C_below HR0_0.out (xW HB)); (case side2 => exact HC0_0.out); rintro e w278 ⟨rfl, hb⟩; refine ⟨_, rfl, ?_⟩; replace BK177 := Aside0.mk (xB BK177 hb); replace BK178 := Aside0.mk (xB BK178 hb); replace BK191 := Aside0.mk (xB BK191 hb); replace BK219 := Aside0.mk (xP (l' := [.int .i64 t208, .int .i64 t209, .int .i64 t210, .int .i64 t211, .int .i64 t212, .int .i64 t213, .int .i64 t214, .int .i64 t215, .bool t216, .int .i64 t217]) BK219 hb); replace HB := Aside0.mk (xS HB hb); (try clear hb); (try clear hb2); (try clear hk); (try clear hi)) | ((with_reducible refine gate_dst (N := 19) rfl ?_); refine box_event ?hg (N := 19) ?hd (cs := #[.int .i64 0, .int .i64 0, .int .i64 0, .int .i64 0, .int .i64 0, .int .i64 0, .int .i64 0, .int .i64 0, .bool false, .int .i64 0]) (t := 45) ?hr ?_; (case hd => rfl); (case hg => rfl); (case hr => first | (go_simp; done) | (go_simp; rfl)); intro gb231 hg w279 hbox hb; have BK231 := Aside0.mk (hbox); have GW231 := Aside0.mk (xZ HB hg); have GE231 := Aside0.mk (xZ HB hg); have NB177_231 := Aside0.mk (xN BK177 hg); have NB231_177 := Aside0.mk (xM BK177 hg); have NB178_231 := Aside0.mk (xN BK178 hg); have NB231_178 := Aside0.mk (xM BK178 hg); have NB191_231 := Aside0.mk (xN BK191 hg); have NB231_191 := Aside0.mk (xM BK191 hg); have NB219_231 := Aside0.mk (xN BK219 hg); have NB231_219 := Aside0.mk (xM BK219 hg); replace BK177 := Aside0.mk (xB BK177 hb); replace BK178 := Aside0.mk (xB BK178 hb); replace BK191 := Aside0.mk (xB BK191 hb); replace BK219 := Aside0.mk (xB BK219 hb); replace HB := Aside0.mk (xS HB hb); clear hb hbox hg; have hnb280 := NB231_177.out; have hnc280 := NB177_231.out; have hnb281 := NB231_178.out; have hnc281 := NB178_231.out; have hnb282 := NB231_191.out; have hnc282 := NB191_231.out; have hnb283 := NB231_219.out; have hnc283 := NB219_231.out; have hcz284_0 := blkc10 BK231.out; have hcz285_0 := blkc10 BK178.out))
                      go_ret
                      exact ⟨xer, xW HB⟩⟩
                   exact inferInstanceAs _⟩
                 exact inferInstanceAs _⟩
              exact inferInstanceAs _⟩
            exact inferInstanceAs _
           ·refine box_ ?g30;letI i:type_of% ?g30:=⟨by
            rw [if_neg c53] at H
            have c53b0 : (x13_50 == 0) = false := beq_eq_false_iff_ne.mpr c53
            have c53b1 : (x13_50 != 0) = true := bne_iff_ne.mpr c53
            by_cases c286 : t190 = x13_50
            ·rw [if_pos c286] at H
             have c286b0 : (t190 == x13_50) = true := beq_iff_eq.mpr c286
             have c286b1 : (t190 != x13_50) = false := bne_eq_false_iff_eq.mpr c286
             clear c286
             obtain rfl := Option.some.inj H
             have hcz289_0 := blkc10 BK191.out
             go_wp2
             go_ret
             exact ⟨xer, xW HB⟩
            ·rw [if_neg c286] at H
             have c286b0 : (t190 == x13_50) = false := beq_eq_false_iff_ne.mpr c286
             have c286b1 : (t190 != x13_50) = true := bne_iff_ne.mpr c286
             obtain rfl := Option.some.inj H
             go_wp2
             go_ret
             exact ⟨xer, xW HB⟩⟩
            exact inferInstanceAs _⟩
          exact inferInstanceAs _⟩
        exact inferInstanceAs _⟩
       exact inferInstanceAs _
      ·rw [if_neg c35] at H
       have c35b0 : (t194 == x13_31) = false := beq_eq_false_iff_ne.mpr c35
       have c35b1 : (t194 != x13_31) = true := bne_iff_ne.mpr c35
       obtain rfl := Option.some.inj H
       have hcz292_0 := blkc3 BK177.out; have hcz294_0 := blkc10 BK178.out
       go_wp2_with (first | ((with_reducible refine gate_callee (f := 25) rfl ?_); refine goesL_ (some 42) rfl rfl Try.func25 kr_ rfl #[.agg #[.slice A0_0 l0_0.length c0_0, .int .i64 a0_1, .int .i64 a0_2], .agg #[.int .i64 a1_0, .int .i64 a1_1, .int .i64 a1_2, .int .i64 a1_3, .int .i64 a1_4, .int .i64 a1_5, .int .i64 a1_6, .int .i64 a1_7, .bool a1_8, .int .i64 a1_9]] rfl (by (try simp only [List.map_toArray, List.map_cons, List.map_nil]); first | done | rfl | (simp only [List.length_drop, List.length_take]; rfl)) ?_; (with_reducible refine (clock_Valid.calls kj31 _ _ l0_0 a0_1 a0_2 a1_0 a1_1 a1_2 a1_3 a1_4 a1_5 a1_6 a1_7 a1_8 a1_9 t194 _ ?side1 ?side2 A34.out).mono ?_); (case side1 => exact xC (Kd.C_below HR0_0.out HB.out)); (case side2 => exact HC0_0.out); rintro e w295 ⟨rfl, hb⟩; refine ⟨_, rfl, ?_⟩; replace BK177 := Aside0.mk (xB BK177 hb); replace BK178 := Aside0.mk (xB BK178 hb); replace BK191 := Aside0.mk (xB BK191 hb); replace HB := Aside0.mk (xS HB hb); (try clear hb); (try clear hb2); (try clear hk); (try clear hi)))
       go_ret
       exact ⟨xer, xW HB⟩⟩
     exact inferInstanceAs _⟩
   exact inferInstanceAs _
 ·replace c7 := Bool.eq_false_iff.mpr c7
  subst c7
  rw [if_neg (show ¬ (false = true) by decide)] at H
  obtain rfl := Option.some.inj H
  go_enter Try.func7, Try.ntmps7
  go_wp2_with (first | ((with_reducible refine gate_dst (N := 5) rfl ?_); refine box_event ?hg (N := 5) ?hd (cs := #[.slice A0_0 l0_0.length c0_0, .int .i64 a0_1, .int .i64 a0_2]) (t := 42) ?hr ?_; (case hd => rfl); (case hg => rfl); (case hr => first | (go_simp; done) | (go_simp; rfl)); intro gb177 hg w296 hbox hb; have BK177 := Aside0.mk (hbox); have GW177 := Aside0.mk (xZ HB hg); have GE177 := Aside0.mk (xZ HB hg); replace HB := Aside0.mk (xS HB hb); clear hb hbox hg) | ((with_reducible refine gate_dst (N := 6) rfl ?_); refine box_event ?hg (N := 6) ?hd (cs := #[.int .i64 a1_0, .int .i64 a1_1, .int .i64 a1_2, .int .i64 a1_3, .int .i64 a1_4, .int .i64 a1_5, .int .i64 a1_6, .int .i64 a1_7, .bool a1_8, .int .i64 a1_9]) (t := 45) ?hr ?_; (case hd => rfl); (case hg => rfl); (case hr => first | (go_simp; done) | (go_simp; rfl)); intro gb178 hg w297 hbox hb; have BK178 := Aside0.mk (hbox); have GW178 := Aside0.mk (xZ HB hg); have GE178 := Aside0.mk (xZ HB hg); have NB177_178 := Aside0.mk (xN BK177 hg); have NB178_177 := Aside0.mk (xM BK177 hg); replace BK177 := Aside0.mk (xB BK177 hb); replace HB := Aside0.mk (xS HB hb); clear hb hbox hg) | ((with_reducible refine gate_callee (f := 21) rfl ?_); refine goesL_ (some 21) rfl rfl Try.func21 kr_ rfl #[] rfl (by (try simp only [List.map_toArray, List.map_cons, List.map_nil]); first | done | rfl | (simp only [List.length_drop, List.length_take]; rfl)) ?_; (with_reducible refine (gamehalllaw3_ticks.calls k  false _ A6.out).mono ?_); rintro e w298 ⟨rfl, hb⟩; refine ⟨_, rfl, ?_⟩; replace BK177 := Aside0.mk (xB BK177 hb); replace BK178 := Aside0.mk (xB BK178 hb); replace HB := Aside0.mk (xS HB hb); (try clear hb); (try clear hb2); (try clear hk); (try clear hi)))
  go_ret
  exact ⟨xer, xW HB⟩
def wf91 (x : S91) : Prop := ((Lit.int .i64 x.f0).wf = true) ∧ (((Lit.int .i64 x.f1).wf = true))
theorem tells91 {W : World} : Tells Try.prog W 91 k91 wf91 := tells_iso (fun a => ⟨a.1, a.2⟩) (fun _ => rfl) (fun _ h => h) (tells_struct (l := [(3, 0), (3, 1)]) Try.underlying91 kr_ (tellsFs_cons (tells_int Try.underlying3) kr_ (tellsFs_one (tells_int Try.underlying3) kr_)) kr_)
def wf42 (x : S42) : Prop := (x.f0.length * 16 ≤ 140737488351232 ∧ ∀ y_ ∈ x.f0, wf91 y_) ∧ (((Lit.int .i64 x.f1).wf = true) ∧ (((Lit.int .i64 x.f2).wf = true)))
theorem tells42 {W : World} : Tells Try.prog W 42 k42 wf42 := tells_iso (fun a => ⟨a.1, a.2.1, a.2.2⟩) (fun _ => rfl) (fun _ h => h) (tells_struct (l := [(40, 0), (3, 1), (3, 2)]) Try.underlying42 kr_ (tellsFs_cons (tells_slice (W := W) Try.underlying40 tells91 kr_ kr_) kr_ (tellsFs_cons (tells_int Try.underlying3) kr_ (tellsFs_one (tells_int Try.underlying3) kr_))) kr_)
def wf43 (x : S43) : Prop := ((Lit.int .i64 x.f0).wf = true) ∧ (((Lit.int .i64 x.f1).wf = true))
theorem tells43 {W : World} : Tells Try.prog W 43 k43 wf43 := tells_iso (fun a => ⟨a.1, a.2⟩) (fun _ => rfl) (fun _ h => h) (tells_array (c := 1) (l := [(3, 0), (3, 1)]) Try.underlying43 kr_ kr_ (tellsFs_cons (tells_int Try.underlying3) kr_ (tellsFs_one (tells_int Try.underlying3) kr_)) kr_)
def wf45 (x : S45) : Prop := (wf43 x.f0) ∧ ((wf43 x.f1) ∧ ((wf43 x.f2) ∧ (((Lit.int .i64 x.f3).wf = true) ∧ (((Lit.int .i64 x.f4).wf = true) ∧ ((True) ∧ (((Lit.int .i64 x.f6).wf = true)))))))
theorem tells45 {W : World} : Tells Try.prog W 45 k45 wf45 := tells_iso (fun a => ⟨a.1, a.2.1, a.2.2.1, a.2.2.2.1, a.2.2.2.2.1, a.2.2.2.2.2.1, a.2.2.2.2.2.2⟩) (fun _ => rfl) (fun _ h => h) (tells_struct (l := [(43, 0), (43, 2), (43, 4), (3, 6), (3, 7), (4, 8), (3, 9)]) Try.underlying45 kr_ (tellsFs_cons tells43 kr_ (tellsFs_cons tells43 kr_ (tellsFs_cons tells43 kr_ (tellsFs_cons (tells_int Try.underlying3) kr_ (tellsFs_cons (tells_int Try.underlying3) kr_ (tellsFs_cons (tells_bool Try.underlying4) kr_ (tellsFs_one (tells_int Try.underlying3) kr_))))))) kr_)

/-- THE ONE PURE STATEMENT of gamehalllaw3_ClockStops: yours. -/
def gamehalllaw3_ClockStops.Pure : Prop := ∀ (x0 : S42) (x1 : S45) (a2 : Int) (a3 : Int) (a4 : Int), (wf42 x0) → (wf45 x1) → ((Lit.int .i64 a2).wf = true) → ((Lit.int .i64 a3).wf = true) → ((Lit.int .i64 a4).wf = true) → ∃ k, gamehalllaw3_ClockStops.f k x0.f0 x0.f1 x0.f2 x1.f0.f0 x1.f0.f1 x1.f1.f0 x1.f1.f1 x1.f2.f0 x1.f2.f1 x1.f3 x1.f4 x1.f5 x1.f6 a2 a3 a4 = some true
theorem gamehalllaw3_ClockStops.walk (P : gamehalllaw3_ClockStops.Pure) (x0 : S42) (v0 : Array Value) (x1 : S45) (v1 : Array Value) (a2 : Int) (a3 : Int) (a4 : Int) (w : World) (hK0 : k42.K w x0 v0.toList) (w0 : wf42 x0) (hK1 : k45.K w x1 v1.toList) (w1 : wf45 x1) (w2 : (Lit.int .i64 a2).wf = true) (w3 : (Lit.int .i64 a3).wf = true) (w4 : (Lit.int .i64 a4).wf = true) :
  Calls Try.prog 7 #[.agg v0, .agg v1, .int .i64 a2, .int .i64 a3, .int .i64 a4] w fun e w' => e = .returned (.bool true) ∧ Below w.heap.size w w' := by
 obtain ⟨A0_0, c0_0, hcs0, hl0_0, hg0_0⟩ := k42_open hK0
 obtain rfl : v0 = #[.slice A0_0 x0.f0.length c0_0, .int .i64 x0.f1, .int .i64 x0.f2] := Array.ext' hcs0
 have hcs1 := k45_open hK1
 obtain rfl : v1 = #[.int .i64 x1.f0.f0, .int .i64 x1.f0.f1, .int .i64 x1.f1.f0, .int .i64 x1.f1.f1, .int .i64 x1.f2.f0, .int .i64 x1.f2.f1, .int .i64 x1.f3, .int .i64 x1.f4, .bool x1.f5, .int .i64 x1.f6] := Array.ext' hcs1
 obtain ⟨k, h⟩ := P x0 x1 a2 a3 a4 w0 w1 w2 w3 w4
 refine (gamehalllaw3_ClockStops.calls k A0_0 c0_0 x0.f0 x0.f1 x0.f2 x1.f0.f0 x1.f0.f1 x1.f1.f0 x1.f1.f1 x1.f2.f0 x1.f2.f1 x1.f3 x1.f4 x1.f5 x1.f6 a2 a3 a4 true w hg0_0 hl0_0 h).mono ?_
 rintro e w' ⟨rfl, hd⟩
 exact ⟨rfl, hd⟩

end Go.Proofs.Ytcncilipmekfhaa.PClockStops
