-- Printed by a program of this claim's writer (wip/ext): an extension of the kit's print.
import Derived.Test.YtikijopbgjncbaaPClockRunsx0
import Derived.Test.YtikijopbgjncbaaPClockRunsx2
import Derived.Test.YtikijopbgjncbaaPClockRunsx3
import Derived.Test.YtikijopbgjncbaaPClockRunsx4
import Derived.Test.YtikijopbgjncbaaPClockRunsx5
import Derived.Test.YtikijopbgjncbaaPClockRunsx6
namespace Go.Proofs.Ytikijopbgjncbaa.PClockRuns
open Go.RowKit Go.Proofs.YtikijopbgjncbaaW.PrintWords Go.Proofs.YtikijopbgjncbaaW.PrintLast Go.Proofs.YtikijopbgjncbaaW.PrintMore
attribute [local go_sem] max2_int min2_int max_two min_two max_three min_three max_four min_four   -- for this text's walks alone
set_option linter.unusedVariables false
set_option linter.unusedSimpArgs false
theorem xne7 {a b : Nat} (h : Aside0 (a ≠ b)) : (a = b) = False := eq_false h.out

attribute [local go_sem high] eqA31
/-! ### gamehalllaw3_ClockRuns: function 3 -/
mutual
def gamehalllaw3_ClockRuns.j0 : Nat → Int → List Int → Int → Int → Int → Bool → List (S54) → Int → Int → Int → Int → Int → Int → Int → Int → Int → Int → Bool → Int → Option (Bool)
  | 0, _, _, _, _, _, _, _, _, _, _, _, _, _, _, _, _, _, _, _ => none
  | k + 1, x1, x2, x3, x9, x11, x56, z218a, z218b, z218c, z236a, z236b, z236c, z236d, z236e, z236f, z236g, z236h, z236i, z236j => if x56 = true then (gamehalllaw3_ClockRuns.j1 k x1 x2 x3 11 x11 z218a z218b z218c z236a z236b z236c z236d z236e z236f z236g z236h z236i z236j) else (gamehalllaw3_ClockRuns.j1 k x1 x2 x3 x9 x11 z218a z218b z218c z236a z236b z236c z236d z236e z236f z236g z236h z236i z236j)
def gamehalllaw3_ClockRuns.j1 : Nat → Int → List Int → Int → Int → Int → List (S54) → Int → Int → Int → Int → Int → Int → Int → Int → Int → Int → Bool → Int → Option (Bool)
  | 0, _, _, _, _, _, _, _, _, _, _, _, _, _, _, _, _, _, _ => none
  | k + 1, x1, x2, x3, x9, x11, z218a, z218b, z218c, z236a, z236b, z236c, z236d, z236e, z236f, z236g, z236h, z236i, z236j => if x9 = 0 then (if x11 = 0 then (gamehalllaw3_ClockRuns.l0 k x3 x1 x2 (x2.length : Int) 0 z218a z218b z218c z236a z236b z236c z236d z236e z236f z236g z236h z236i z236j 0 0 0 0) else (some false)) else (if x11 = x9 then (some ((z236a == 0 && (z236b == 0)) && ((z236c == 0 && (z236d == 0)) && ((z236e == 0 && (z236f == 0)) && (z236g == 0 && (z236h == 0 && (!z236i && (z236j == 0)))))))) else (some false))
def gamehalllaw3_ClockRuns.l0 : Nat → Int → Int → List Int → Int → Int → List (S54) → Int → Int → Int → Int → Int → Int → Int → Int → Int → Int → Bool → Int → Int → Int → Int → Int → Option (Bool)
  | 0, _, _, _, _, _, _, _, _, _, _, _, _, _, _, _, _, _, _, _, _, _, _ => none
  | k + 1, x3, x12, x72, x73, x74, z218a, z218b, z218c, z236a, z236b, z236c, z236d, z236e, z236f, z236g, z236h, z236i, z236j, z238a, z238b, z239a, z239b => if x74 < x73 then (if 0 ≤ x74 then (if x74 < (x72.length : Int) then (if (rd x72 x74) < 0 then (gamehalllaw3_ClockRuns.j3 k x3 x12 x74 (rd x72 x74) x72 x73 x74 true z218a z218b z218c z236a z236b z236c z236d z236e z236f z236g z236h z236i z236j z238a z238b z239a z239b) else (gamehalllaw3_ClockRuns.j3 k x3 x12 x74 (rd x72 x74) x72 x73 x74 (decide ((rd x72 x74) > 100000000)) z218a z218b z218c z236a z236b z236c z236d z236e z236f z236g z236h z236i z236j z238a z238b z239a z239b)) else (none)) else (none)) else ((gamehalllaw3_fell.f k z218a z218b z218c z236a z236b z236c z236d z236e z236f z236g z236h z236i z236j x3).bind fun t239 => (some t239))
def gamehalllaw3_ClockRuns.j3 : Nat → Int → Int → Int → Int → List Int → Int → Int → Bool → List (S54) → Int → Int → Int → Int → Int → Int → Int → Int → Int → Int → Bool → Int → Int → Int → Int → Int → Option (Bool)
  | 0, _, _, _, _, _, _, _, _, _, _, _, _, _, _, _, _, _, _, _, _, _, _, _, _, _ => none
  | k + 1, x3, x12, x15, x16, x72, x73, x74, x84, z218a, z218b, z218c, z236a, z236b, z236c, z236d, z236e, z236f, z236g, z236h, z236i, z236j, z238a, z238b, z239a, z239b => if x84 = true then (some true) else (if 0 ≤ (Int.tmod x15 2) then (if (Int.tmod x15 2) < 2 then (if (Int.tmod x15 2) = 0 then ((gamehallref3_Budget.f k z218a z218b z218c z238a).bind fun bt241 => (gamehalllaw3_ClockRuns.j4 k x3 x12 x16 (Int.tmod x15 2) bt241.1 bt241.2.1 bt241.2.2 x72 x73 x74 z218a z218b z218c z236a z236b z236c z236d z236e z236f z236g z236h z236i z236j z238a z238b z239a z239b)) else ((gamehallref3_Budget.f k z218a z218b z218c z238b).bind fun bt244 => (gamehalllaw3_ClockRuns.j4 k x3 x12 x16 (Int.tmod x15 2) bt244.1 bt244.2.1 bt244.2.2 x72 x73 x74 z218a z218b z218c z236a z236b z236c z236d z236e z236f z236g z236h z236i z236j z238a z238b z239a z239b))) else (none)) else (none))
def gamehalllaw3_ClockRuns.j4 : Nat → Int → Int → Int → Int → Int → Int → Int → List Int → Int → Int → List (S54) → Int → Int → Int → Int → Int → Int → Int → Int → Int → Int → Bool → Int → Int → Int → Int → Int → Option (Bool)
  | 0, _, _, _, _, _, _, _, _, _, _, _, _, _, _, _, _, _, _, _, _, _, _, _, _, _, _, _ => none
  | k + 1, x3, x12, x16, x17, x18, x19, x20, x72, x73, x74, z218a, z218b, z218c, z236a, z236b, z236c, z236d, z236e, z236f, z236g, z236h, z236i, z236j, z238a, z238b, z239a, z239b => (clock_Press.f k z218a z218b z218c z236a z236b z236c z236d z236e z236f z236g z236h z236i z236j (wrap64 (x12 + x16))).bind fun bt247 => ((clock_Left.f k z218a z218b z218c z236a z236b z236c z236d z236e z236f z236g z236h z236i z236j x17 (wrap64 (x12 + x16))).bind fun bt259 => (if (wrap64 (x12 + x16)) > 100000000 then (if bt247.2.2.2.2.2.2.2.2.2.2 = 11 then (if bt259.2 = 11 then (some (bt259.1 == 0)) else (some false)) else (some false)) else ((gamehallref3_Spent.f z218a z218b z218c x16).bind fun t261 => (if 0 ≤ x17 then (if x17 < 2 then (if x17 = 0 then (gamehalllaw3_ClockRuns.j5 k x3 x12 x16 x17 x18 x19 x20 bt247.2.2.2.2.2.2.2.2.2.2 bt259.1 bt259.2 t261 x72 x73 x74 (decide ((wrap64 (z239a + t261)) > x18)) z218a z218b z218c z236a z236b z236c z236d z236e z236f z236g z236h z236i z236j z238a z238b z239a z239b bt247.1 bt247.2.1 bt247.2.2.1 bt247.2.2.2.1 bt247.2.2.2.2.1 bt247.2.2.2.2.2.1 bt247.2.2.2.2.2.2.1 bt247.2.2.2.2.2.2.2.1 bt247.2.2.2.2.2.2.2.2.1 bt247.2.2.2.2.2.2.2.2.2.1) else (gamehalllaw3_ClockRuns.j5 k x3 x12 x16 x17 x18 x19 x20 bt247.2.2.2.2.2.2.2.2.2.2 bt259.1 bt259.2 t261 x72 x73 x74 (decide ((wrap64 (z239b + t261)) > x18)) z218a z218b z218c z236a z236b z236c z236d z236e z236f z236g z236h z236i z236j z238a z238b z239a z239b bt247.1 bt247.2.1 bt247.2.2.1 bt247.2.2.2.1 bt247.2.2.2.2.1 bt247.2.2.2.2.2.1 bt247.2.2.2.2.2.2.1 bt247.2.2.2.2.2.2.2.1 bt247.2.2.2.2.2.2.2.2.1 bt247.2.2.2.2.2.2.2.2.2.1)) else (none)) else (none)))))
def gamehalllaw3_ClockRuns.j5 : Nat → Int → Int → Int → Int → Int → Int → Int → Int → Int → Int → Int → List Int → Int → Int → Bool → List (S54) → Int → Int → Int → Int → Int → Int → Int → Int → Int → Int → Bool → Int → Int → Int → Int → Int → Int → Int → Int → Int → Int → Int → Int → Int → Bool → Int → Option (Bool)
  | 0, _, _, _, _, _, _, _, _, _, _, _, _, _, _, _, _, _, _, _, _, _, _, _, _, _, _, _, _, _, _, _, _, _, _, _, _, _, _, _, _, _, _ => none
  | k + 1, x3, x12, x16, x17, x18, x19, x20, x22, x23, x24, x25, x72, x73, x74, x138, z218a, z218b, z218c, z236a, z236b, z236c, z236d, z236e, z236f, z236g, z236h, z236i, z236j, z238a, z238b, z239a, z239b, z259a, z259b, z259c, z259d, z259e, z259f, z259g, z259h, z259i, z259j => if x138 = true then ((clock_Look.f k z218a z218b z218c z236a z236b z236c z236d z236e z236f z236g z236h z236i z236j (wrap64 (x12 + x16))).bind fun bt262 => (if x22 = 14 then (if ((z259a == 0 && (z259b == 0)) && ((z259c == 0 && (z259d == 0)) && ((z259e == 0 && (z259f == 0)) && (z259g == 0 && (z259h == 0 && (!z259i && (z259j == 0))))))) = true then (if x24 = 0 then (if x23 = 0 then (if bt262.2.2.2.2.2.2.2.2.2.2 = 0 then (if bt262.2.2.2.2.2.2.2.2.2.1 = x17 then (if 0 ≤ x17 then (if x17 < 2 then (if x17 = 0 then (some (bt262.1 == 0)) else (some (bt262.2.1 == 0))) else (none)) else (none)) else (some false)) else (some false)) else (some false)) else (some false)) else (some false)) else (some false))) else (if x22 = 0 then (if x24 = 0 then (if 0 ≤ x17 then (if x17 < 2 then (if x17 = 0 then (if x23 = (wrap64 ((wrap64 (x18 - z239a)) - x25)) then (if z236e = x19 then (gamehalllaw3_ClockRuns.j6 k x3 x12 x16 x17 x25 x72 x73 x74 (z236c != x20) z218a z218b z218c z238a z238b z239a z239b z259a z259b z259c z259d z259e z259f z259g z259h z259i z259j) else (gamehalllaw3_ClockRuns.j6 k x3 x12 x16 x17 x25 x72 x73 x74 true z218a z218b z218c z238a z238b z239a z239b z259a z259b z259c z259d z259e z259f z259g z259h z259i z259j)) else (gamehalllaw3_ClockRuns.j6 k x3 x12 x16 x17 x25 x72 x73 x74 true z218a z218b z218c z238a z238b z239a z239b z259a z259b z259c z259d z259e z259f z259g z259h z259i z259j)) else (if x23 = (wrap64 ((wrap64 (x18 - z239b)) - x25)) then (if z236f = x19 then (gamehalllaw3_ClockRuns.j6 k x3 x12 x16 x17 x25 x72 x73 x74 (z236d != x20) z218a z218b z218c z238a z238b z239a z239b z259a z259b z259c z259d z259e z259f z259g z259h z259i z259j) else (gamehalllaw3_ClockRuns.j6 k x3 x12 x16 x17 x25 x72 x73 x74 true z218a z218b z218c z238a z238b z239a z239b z259a z259b z259c z259d z259e z259f z259g z259h z259i z259j)) else (gamehalllaw3_ClockRuns.j6 k x3 x12 x16 x17 x25 x72 x73 x74 true z218a z218b z218c z238a z238b z239a z239b z259a z259b z259c z259d z259e z259f z259g z259h z259i z259j))) else (none)) else (none)) else (gamehalllaw3_ClockRuns.j6 k x3 x12 x16 x17 x25 x72 x73 x74 true z218a z218b z218c z238a z238b z239a z239b z259a z259b z259c z259d z259e z259f z259g z259h z259i z259j)) else (gamehalllaw3_ClockRuns.j6 k x3 x12 x16 x17 x25 x72 x73 x74 true z218a z218b z218c z238a z238b z239a z239b z259a z259b z259c z259d z259e z259f z259g z259h z259i z259j))
def gamehalllaw3_ClockRuns.j6 : Nat → Int → Int → Int → Int → Int → List Int → Int → Int → Bool → List (S54) → Int → Int → Int → Int → Int → Int → Int → Int → Int → Int → Int → Int → Int → Int → Bool → Int → Option (Bool)
  | 0, _, _, _, _, _, _, _, _, _, _, _, _, _, _, _, _, _, _, _, _, _, _, _, _, _, _ => none
  | k + 1, x3, x12, x16, x17, x25, x72, x73, x74, x212, z218a, z218b, z218c, z238a, z238b, z239a, z239b, z259a, z259b, z259c, z259d, z259e, z259f, z259g, z259h, z259i, z259j => if x212 = true then (some false) else (if 0 ≤ x17 then (if x17 < 2 then (if x17 = 0 then ((gamehallref3_Budget.f k z218a z218b z218c (wrap64 (z238a + 1))).bind fun bt274 => (if z259a = (wrap64 (bt274.1 - (wrap64 (z239a + x25)))) then (if z259g = (wrap64 (1 - x17)) then (if z259h = (wrap64 (x12 + x16)) then (if z259j = (-1) then (gamehalllaw3_ClockRuns.l0 k x3 (wrap64 (x12 + x16)) x72 x73 (wrap64 (x74 + 1)) z218a z218b z218c z259a z259b z259c z259d z259e z259f z259g z259h z259i z259j (wrap64 (z238a + 1)) z238b (wrap64 (z239a + x25)) z239b) else (some false)) else (some false)) else (some false)) else (some false))) else ((gamehallref3_Budget.f k z218a z218b z218c (wrap64 (z238b + 1))).bind fun bt277 => (if z259b = (wrap64 (bt277.1 - (wrap64 (z239b + x25)))) then (if z259g = (wrap64 (1 - x17)) then (if z259h = (wrap64 (x12 + x16)) then (if z259j = (-1) then (gamehalllaw3_ClockRuns.l0 k x3 (wrap64 (x12 + x16)) x72 x73 (wrap64 (x74 + 1)) z218a z218b z218c z259a z259b z259c z259d z259e z259f z259g z259h z259i z259j z238a (wrap64 (z238b + 1)) z239a (wrap64 (z239b + x25))) else (some false)) else (some false)) else (some false)) else (some false)))) else (none)) else (none))
end
def gamehalllaw3_ClockRuns.f (k : Nat) (l0_0 : List (S54)) (a0_1 : Int) (a0_2 : Int) (a1 : Int) (l2 : List Int) (a3 : Int) : Option (Bool) := (gamehalllaw3_ticks.f k).bind fun t218 => (if t218 = true then (if 0 ≤ (mn (l2.length : Int) 60) then (if (mn (l2.length : Int) 60) ≤ (l2.length : Int) then ((some (l2.take ((mn (l2.length : Int) 60) : Int).toNat : List Int)).bind fun y219 => ((gamehallref3_Ruled.f k l0_0 a0_1 a0_2).bind fun t223 => ((clock_Start.f k l0_0 a0_1 a0_2 a1).bind fun bt224 => ((clock_Check.f k l0_0 a0_1 a0_2).bind fun t236 => (if t236 = t223 then (if t223 = 0 then (if a1 < 0 then (gamehalllaw3_ClockRuns.j0 k a1 y219 a3 t223 bt224.2.2.2.2.2.2.2.2.2.2 true l0_0 a0_1 a0_2 bt224.1 bt224.2.1 bt224.2.2.1 bt224.2.2.2.1 bt224.2.2.2.2.1 bt224.2.2.2.2.2.1 bt224.2.2.2.2.2.2.1 bt224.2.2.2.2.2.2.2.1 bt224.2.2.2.2.2.2.2.2.1 bt224.2.2.2.2.2.2.2.2.2.1) else (gamehalllaw3_ClockRuns.j0 k a1 y219 a3 t223 bt224.2.2.2.2.2.2.2.2.2.2 (decide (a1 > 100000000)) l0_0 a0_1 a0_2 bt224.1 bt224.2.1 bt224.2.2.1 bt224.2.2.2.1 bt224.2.2.2.2.1 bt224.2.2.2.2.2.1 bt224.2.2.2.2.2.2.1 bt224.2.2.2.2.2.2.2.1 bt224.2.2.2.2.2.2.2.2.1 bt224.2.2.2.2.2.2.2.2.2.1)) else (gamehalllaw3_ClockRuns.j0 k a1 y219 a3 t223 bt224.2.2.2.2.2.2.2.2.2.2 false l0_0 a0_1 a0_2 bt224.1 bt224.2.1 bt224.2.2.1 bt224.2.2.2.1 bt224.2.2.2.2.1 bt224.2.2.2.2.2.1 bt224.2.2.2.2.2.2.1 bt224.2.2.2.2.2.2.2.1 bt224.2.2.2.2.2.2.2.2.1 bt224.2.2.2.2.2.2.2.2.2.1)) else (some false)))))) else (none)) else (none)) else (some false))
theorem gamehalllaw3_ClockRuns.mono_l : ∀ k, (∀ y0 y1 y2 y3 y4 y5 y6 y7 y8 y9 y10 y11 y12 y13 y14 y15 y16 y17 y18, LeO (gamehalllaw3_ClockRuns.j0 k y0 y1 y2 y3 y4 y5 y6 y7 y8 y9 y10 y11 y12 y13 y14 y15 y16 y17 y18) (gamehalllaw3_ClockRuns.j0 (k + 1) y0 y1 y2 y3 y4 y5 y6 y7 y8 y9 y10 y11 y12 y13 y14 y15 y16 y17 y18)) ∧ (∀ y0 y1 y2 y3 y4 y5 y6 y7 y8 y9 y10 y11 y12 y13 y14 y15 y16 y17, LeO (gamehalllaw3_ClockRuns.j1 k y0 y1 y2 y3 y4 y5 y6 y7 y8 y9 y10 y11 y12 y13 y14 y15 y16 y17) (gamehalllaw3_ClockRuns.j1 (k + 1) y0 y1 y2 y3 y4 y5 y6 y7 y8 y9 y10 y11 y12 y13 y14 y15 y16 y17)) ∧ (∀ y0 y1 y2 y3 y4 y5 y6 y7 y8 y9 y10 y11 y12 y13 y14 y15 y16 y17 y18 y19 y20 y21, LeO (gamehalllaw3_ClockRuns.l0 k y0 y1 y2 y3 y4 y5 y6 y7 y8 y9 y10 y11 y12 y13 y14 y15 y16 y17 y18 y19 y20 y21) (gamehalllaw3_ClockRuns.l0 (k + 1) y0 y1 y2 y3 y4 y5 y6 y7 y8 y9 y10 y11 y12 y13 y14 y15 y16 y17 y18 y19 y20 y21)) ∧ (∀ y0 y1 y2 y3 y4 y5 y6 y7 y8 y9 y10 y11 y12 y13 y14 y15 y16 y17 y18 y19 y20 y21 y22 y23 y24, LeO (gamehalllaw3_ClockRuns.j3 k y0 y1 y2 y3 y4 y5 y6 y7 y8 y9 y10 y11 y12 y13 y14 y15 y16 y17 y18 y19 y20 y21 y22 y23 y24) (gamehalllaw3_ClockRuns.j3 (k + 1) y0 y1 y2 y3 y4 y5 y6 y7 y8 y9 y10 y11 y12 y13 y14 y15 y16 y17 y18 y19 y20 y21 y22 y23 y24)) ∧ (∀ y0 y1 y2 y3 y4 y5 y6 y7 y8 y9 y10 y11 y12 y13 y14 y15 y16 y17 y18 y19 y20 y21 y22 y23 y24 y25 y26, LeO (gamehalllaw3_ClockRuns.j4 k y0 y1 y2 y3 y4 y5 y6 y7 y8 y9 y10 y11 y12 y13 y14 y15 y16 y17 y18 y19 y20 y21 y22 y23 y24 y25 y26) (gamehalllaw3_ClockRuns.j4 (k + 1) y0 y1 y2 y3 y4 y5 y6 y7 y8 y9 y10 y11 y12 y13 y14 y15 y16 y17 y18 y19 y20 y21 y22 y23 y24 y25 y26)) ∧ (∀ y0 y1 y2 y3 y4 y5 y6 y7 y8 y9 y10 y11 y12 y13 y14 y15 y16 y17 y18 y19 y20 y21 y22 y23 y24 y25 y26 y27 y28 y29 y30 y31 y32 y33 y34 y35 y36 y37 y38 y39 y40 y41, LeO (gamehalllaw3_ClockRuns.j5 k y0 y1 y2 y3 y4 y5 y6 y7 y8 y9 y10 y11 y12 y13 y14 y15 y16 y17 y18 y19 y20 y21 y22 y23 y24 y25 y26 y27 y28 y29 y30 y31 y32 y33 y34 y35 y36 y37 y38 y39 y40 y41) (gamehalllaw3_ClockRuns.j5 (k + 1) y0 y1 y2 y3 y4 y5 y6 y7 y8 y9 y10 y11 y12 y13 y14 y15 y16 y17 y18 y19 y20 y21 y22 y23 y24 y25 y26 y27 y28 y29 y30 y31 y32 y33 y34 y35 y36 y37 y38 y39 y40 y41)) ∧ (∀ y0 y1 y2 y3 y4 y5 y6 y7 y8 y9 y10 y11 y12 y13 y14 y15 y16 y17 y18 y19 y20 y21 y22 y23 y24 y25, LeO (gamehalllaw3_ClockRuns.j6 k y0 y1 y2 y3 y4 y5 y6 y7 y8 y9 y10 y11 y12 y13 y14 y15 y16 y17 y18 y19 y20 y21 y22 y23 y24 y25) (gamehalllaw3_ClockRuns.j6 (k + 1) y0 y1 y2 y3 y4 y5 y6 y7 y8 y9 y10 y11 y12 y13 y14 y15 y16 y17 y18 y19 y20 y21 y22 y23 y24 y25))
  | 0 => ⟨fun _ _ _ _ _ _ _ _ _ _ _ _ _ _ _ _ _ _ _ r h => by simp [gamehalllaw3_ClockRuns.j0] at h, fun _ _ _ _ _ _ _ _ _ _ _ _ _ _ _ _ _ _ r h => by simp [gamehalllaw3_ClockRuns.j1] at h, fun _ _ _ _ _ _ _ _ _ _ _ _ _ _ _ _ _ _ _ _ _ _ r h => by simp [gamehalllaw3_ClockRuns.l0] at h, fun _ _ _ _ _ _ _ _ _ _ _ _ _ _ _ _ _ _ _ _ _ _ _ _ _ r h => by simp [gamehalllaw3_ClockRuns.j3] at h, fun _ _ _ _ _ _ _ _ _ _ _ _ _ _ _ _ _ _ _ _ _ _ _ _ _ _ _ r h => by simp [gamehalllaw3_ClockRuns.j4] at h, fun _ _ _ _ _ _ _ _ _ _ _ _ _ _ _ _ _ _ _ _ _ _ _ _ _ _ _ _ _ _ _ _ _ _ _ _ _ _ _ _ _ _ r h => by simp [gamehalllaw3_ClockRuns.j5] at h, fun _ _ _ _ _ _ _ _ _ _ _ _ _ _ _ _ _ _ _ _ _ _ _ _ _ _ r h => by simp [gamehalllaw3_ClockRuns.j6] at h⟩
  | k + 1 => by
    obtain ⟨ih0, ih1, ih2, ih3, ih4, ih5, ih6⟩ := gamehalllaw3_ClockRuns.mono_l k
    refine ⟨?_, ?_, ?_, ?_, ?_, ?_, ?_⟩
    · intros
      unfold gamehalllaw3_ClockRuns.j0
      repeat' first
      | (with_reducible apply ih0)
      | (with_reducible apply ih1)
      | (with_reducible apply ih2)
      | (with_reducible apply ih3)
      | (with_reducible apply ih4)
      | (with_reducible apply ih5)
      | (with_reducible apply ih6)
      | (with_reducible apply clock_Check.mono)
      | (with_reducible apply clock_Left.mono)
      | (with_reducible apply clock_Look.mono)
      | (with_reducible apply clock_Press.mono)
      | (with_reducible apply clock_Start.mono)
      | (with_reducible apply gamehalllaw3_fell.mono)
      | (with_reducible apply gamehalllaw3_ticks.mono)
      | (with_reducible apply gamehallref3_Budget.mono)
      | (with_reducible apply gamehallref3_Ruled.mono)
      | (with_reducible exact LeO.refl _)
      | (with_reducible exact LeO.none _)
      | (with_reducible refine LeO.ite ?_ ?_)
      | (with_reducible refine LeO.bind ?_ (fun _ => ?_))
      | apply ih0
      | apply ih1
      | apply ih2
      | apply ih3
      | apply ih4
      | apply ih5
      | apply ih6
      | apply clock_Check.mono
      | apply clock_Left.mono
      | apply clock_Look.mono
      | apply clock_Press.mono
      | apply clock_Start.mono
      | apply gamehalllaw3_fell.mono
      | apply gamehalllaw3_ticks.mono
      | apply gamehallref3_Budget.mono
      | apply gamehallref3_Ruled.mono
      | exact LeO.none _
      | refine LeO.ite ?_ ?_
      | refine LeO.bind ?_ (fun _ => ?_)
    · intros
      unfold gamehalllaw3_ClockRuns.j1
      repeat' first
      | (with_reducible apply ih0)
      | (with_reducible apply ih1)
      | (with_reducible apply ih2)
      | (with_reducible apply ih3)
      | (with_reducible apply ih4)
      | (with_reducible apply ih5)
      | (with_reducible apply ih6)
      | (with_reducible apply clock_Check.mono)
      | (with_reducible apply clock_Left.mono)
      | (with_reducible apply clock_Look.mono)
      | (with_reducible apply clock_Press.mono)
      | (with_reducible apply clock_Start.mono)
      | (with_reducible apply gamehalllaw3_fell.mono)
      | (with_reducible apply gamehalllaw3_ticks.mono)
      | (with_reducible apply gamehallref3_Budget.mono)
      | (with_reducible apply gamehallref3_Ruled.mono)
      | (with_reducible exact LeO.refl _)
      | (with_reducible exact LeO.none _)
      | (with_reducible refine LeO.ite ?_ ?_)
      | (with_reducible refine LeO.bind ?_ (fun _ => ?_))
      | apply ih0
      | apply ih1
      | apply ih2
      | apply ih3
      | apply ih4
      | apply ih5
      | apply ih6
      | apply clock_Check.mono
      | apply clock_Left.mono
      | apply clock_Look.mono
      | apply clock_Press.mono
      | apply clock_Start.mono
      | apply gamehalllaw3_fell.mono
      | apply gamehalllaw3_ticks.mono
      | apply gamehallref3_Budget.mono
      | apply gamehallref3_Ruled.mono
      | exact LeO.none _
      | refine LeO.ite ?_ ?_
      | refine LeO.bind ?_ (fun _ => ?_)
    · intros
      unfold gamehalllaw3_ClockRuns.l0
      repeat' first
      | (with_reducible apply ih0)
      | (with_reducible apply ih1)
      | (with_reducible apply ih2)
      | (with_reducible apply ih3)
      | (with_reducible apply ih4)
      | (with_reducible apply ih5)
      | (with_reducible apply ih6)
      | (with_reducible apply clock_Check.mono)
      | (with_reducible apply clock_Left.mono)
      | (with_reducible apply clock_Look.mono)
      | (with_reducible apply clock_Press.mono)
      | (with_reducible apply clock_Start.mono)
      | (with_reducible apply gamehalllaw3_fell.mono)
      | (with_reducible apply gamehalllaw3_ticks.mono)
      | (with_reducible apply gamehallref3_Budget.mono)
      | (with_reducible apply gamehallref3_Ruled.mono)
      | (with_reducible exact LeO.refl _)
      | (with_reducible exact LeO.none _)
      | (with_reducible refine LeO.ite ?_ ?_)
      | (with_reducible refine LeO.bind ?_ (fun _ => ?_))
      | apply ih0
      | apply ih1
      | apply ih2
      | apply ih3
      | apply ih4
      | apply ih5
      | apply ih6
      | apply clock_Check.mono
      | apply clock_Left.mono
      | apply clock_Look.mono
      | apply clock_Press.mono
      | apply clock_Start.mono
      | apply gamehalllaw3_fell.mono
      | apply gamehalllaw3_ticks.mono
      | apply gamehallref3_Budget.mono
      | apply gamehallref3_Ruled.mono
      | exact LeO.none _
      | refine LeO.ite ?_ ?_
      | refine LeO.bind ?_ (fun _ => ?_)
    · intros
      unfold gamehalllaw3_ClockRuns.j3
      repeat' first
      | (with_reducible apply ih0)
      | (with_reducible apply ih1)
      | (with_reducible apply ih2)
      | (with_reducible apply ih3)
      | (with_reducible apply ih4)
      | (with_reducible apply ih5)
      | (with_reducible apply ih6)
      | (with_reducible apply clock_Check.mono)
      | (with_reducible apply clock_Left.mono)
      | (with_reducible apply clock_Look.mono)
      | (with_reducible apply clock_Press.mono)
      | (with_reducible apply clock_Start.mono)
      | (with_reducible apply gamehalllaw3_fell.mono)
      | (with_reducible apply gamehalllaw3_ticks.mono)
      | (with_reducible apply gamehallref3_Budget.mono)
      | (with_reducible apply gamehallref3_Ruled.mono)
      | (with_reducible exact LeO.refl _)
      | (with_reducible exact LeO.none _)
      | (with_reducible refine LeO.ite ?_ ?_)
      | (with_reducible refine LeO.bind ?_ (fun _ => ?_))
      | apply ih0
      | apply ih1
      | apply ih2
      | apply ih3
      | apply ih4
      | apply ih5
      | apply ih6
      | apply clock_Check.mono
      | apply clock_Left.mono
      | apply clock_Look.mono
      | apply clock_Press.mono
      | apply clock_Start.mono
      | apply gamehalllaw3_fell.mono
      | apply gamehalllaw3_ticks.mono
      | apply gamehallref3_Budget.mono
      | apply gamehallref3_Ruled.mono
      | exact LeO.none _
      | refine LeO.ite ?_ ?_
      | refine LeO.bind ?_ (fun _ => ?_)
    · intros
      unfold gamehalllaw3_ClockRuns.j4
      repeat' first
      | (with_reducible apply ih0)
      | (with_reducible apply ih1)
      | (with_reducible apply ih2)
      | (with_reducible apply ih3)
      | (with_reducible apply ih4)
      | (with_reducible apply ih5)
      | (with_reducible apply ih6)
      | (with_reducible apply clock_Check.mono)
      | (with_reducible apply clock_Left.mono)
      | (with_reducible apply clock_Look.mono)
      | (with_reducible apply clock_Press.mono)
      | (with_reducible apply clock_Start.mono)
      | (with_reducible apply gamehalllaw3_fell.mono)
      | (with_reducible apply gamehalllaw3_ticks.mono)
      | (with_reducible apply gamehallref3_Budget.mono)
      | (with_reducible apply gamehallref3_Ruled.mono)
      | (with_reducible exact LeO.refl _)
      | (with_reducible exact LeO.none _)
      | (with_reducible refine LeO.ite ?_ ?_)
      | (with_reducible refine LeO.bind ?_ (fun _ => ?_))
      | apply ih0
      | apply ih1
      | apply ih2
      | apply ih3
      | apply ih4
      | apply ih5
      | apply ih6
      | apply clock_Check.mono
      | apply clock_Left.mono
      | apply clock_Look.mono
      | apply clock_Press.mono
      | apply clock_Start.mono
      | apply gamehalllaw3_fell.mono
      | apply gamehalllaw3_ticks.mono
      | apply gamehallref3_Budget.mono
      | apply gamehallref3_Ruled.mono
      | exact LeO.none _
      | refine LeO.ite ?_ ?_
      | refine LeO.bind ?_ (fun _ => ?_)
    · intros
      unfold gamehalllaw3_ClockRuns.j5
      repeat' first
      | (with_reducible apply ih0)
      | (with_reducible apply ih1)
      | (with_reducible apply ih2)
      | (with_reducible apply ih3)
      | (with_reducible apply ih4)
      | (with_reducible apply ih5)
      | (with_reducible apply ih6)
      | (with_reducible apply clock_Check.mono)
      | (with_reducible apply clock_Left.mono)
      | (with_reducible apply clock_Look.mono)
      | (with_reducible apply clock_Press.mono)
      | (with_reducible apply clock_Start.mono)
      | (with_reducible apply gamehalllaw3_fell.mono)
      | (with_reducible apply gamehalllaw3_ticks.mono)
      | (with_reducible apply gamehallref3_Budget.mono)
      | (with_reducible apply gamehallref3_Ruled.mono)
      | (with_reducible exact LeO.refl _)
      | (with_reducible exact LeO.none _)
      | (with_reducible refine LeO.ite ?_ ?_)
      | (with_reducible refine LeO.bind ?_ (fun _ => ?_))
      | apply ih0
      | apply ih1
      | apply ih2
      | apply ih3
      | apply ih4
      | apply ih5
      | apply ih6
      | apply clock_Check.mono
      | apply clock_Left.mono
      | apply clock_Look.mono
      | apply clock_Press.mono
      | apply clock_Start.mono
      | apply gamehalllaw3_fell.mono
      | apply gamehalllaw3_ticks.mono
      | apply gamehallref3_Budget.mono
      | apply gamehallref3_Ruled.mono
      | exact LeO.none _
      | refine LeO.ite ?_ ?_
      | refine LeO.bind ?_ (fun _ => ?_)
    · intros
      unfold gamehalllaw3_ClockRuns.j6
      repeat' first
      | (with_reducible apply ih0)
      | (with_reducible apply ih1)
      | (with_reducible apply ih2)
      | (with_reducible apply ih3)
      | (with_reducible apply ih4)
      | (with_reducible apply ih5)
      | (with_reducible apply ih6)
      | (with_reducible apply clock_Check.mono)
      | (with_reducible apply clock_Left.mono)
      | (with_reducible apply clock_Look.mono)
      | (with_reducible apply clock_Press.mono)
      | (with_reducible apply clock_Start.mono)
      | (with_reducible apply gamehalllaw3_fell.mono)
      | (with_reducible apply gamehalllaw3_ticks.mono)
      | (with_reducible apply gamehallref3_Budget.mono)
      | (with_reducible apply gamehallref3_Ruled.mono)
      | (with_reducible exact LeO.refl _)
      | (with_reducible exact LeO.none _)
      | (with_reducible refine LeO.ite ?_ ?_)
      | (with_reducible refine LeO.bind ?_ (fun _ => ?_))
      | apply ih0
      | apply ih1
      | apply ih2
      | apply ih3
      | apply ih4
      | apply ih5
      | apply ih6
      | apply clock_Check.mono
      | apply clock_Left.mono
      | apply clock_Look.mono
      | apply clock_Press.mono
      | apply clock_Start.mono
      | apply gamehalllaw3_fell.mono
      | apply gamehalllaw3_ticks.mono
      | apply gamehallref3_Budget.mono
      | apply gamehallref3_Ruled.mono
      | exact LeO.none _
      | refine LeO.ite ?_ ?_
      | refine LeO.bind ?_ (fun _ => ?_)
theorem gamehalllaw3_ClockRuns.mono : ∀ a0 a1 a2 a3 a4 a5 k, LeO (gamehalllaw3_ClockRuns.f k a0 a1 a2 a3 a4 a5) (gamehalllaw3_ClockRuns.f (k + 1) a0 a1 a2 a3 a4 a5) := by
  intro a0 a1 a2 a3 a4 a5 k
  obtain ⟨ih0, ih1, ih2, ih3, ih4, ih5, ih6⟩ := gamehalllaw3_ClockRuns.mono_l k
  unfold gamehalllaw3_ClockRuns.f
  repeat' first
      | (with_reducible apply ih0)
      | (with_reducible apply ih1)
      | (with_reducible apply ih2)
      | (with_reducible apply ih3)
      | (with_reducible apply ih4)
      | (with_reducible apply ih5)
      | (with_reducible apply ih6)
      | (with_reducible apply clock_Check.mono)
      | (with_reducible apply clock_Left.mono)
      | (with_reducible apply clock_Look.mono)
      | (with_reducible apply clock_Press.mono)
      | (with_reducible apply clock_Start.mono)
      | (with_reducible apply gamehalllaw3_fell.mono)
      | (with_reducible apply gamehalllaw3_ticks.mono)
      | (with_reducible apply gamehallref3_Budget.mono)
      | (with_reducible apply gamehallref3_Ruled.mono)
      | (with_reducible exact LeO.refl _)
      | (with_reducible exact LeO.none _)
      | (with_reducible refine LeO.ite ?_ ?_)
      | (with_reducible refine LeO.bind ?_ (fun _ => ?_))
      | apply ih0
      | apply ih1
      | apply ih2
      | apply ih3
      | apply ih4
      | apply ih5
      | apply ih6
      | apply clock_Check.mono
      | apply clock_Left.mono
      | apply clock_Look.mono
      | apply clock_Press.mono
      | apply clock_Start.mono
      | apply gamehalllaw3_fell.mono
      | apply gamehalllaw3_ticks.mono
      | apply gamehallref3_Budget.mono
      | apply gamehallref3_Ruled.mono
      | exact LeO.none _
      | refine LeO.ite ?_ ?_
      | refine LeO.bind ?_ (fun _ => ?_)
def gamehalllaw3_ClockRuns.T21 : Bool × List (List Nat × List Nat) := (true, [([], []), ([], []), ([1], [1]), ([2], [2]), ([0, 3], [0, 3]), ([4], [4]), ([5], [5]), ([5], [5]), ([5], [5]), ([6, 4, 0, 1, 2, 3, 4, 5, 6], [6]), ([7, 9, 0, 1, 2, 3, 4, 5, 6, 7, 9], [7]), ([8, 10, 0, 1, 2, 3, 4, 5, 6, 7, 8, 9, 10], [8])])
def gamehalllaw3_ClockRuns.B21 : List Nat := [0, 0, 2, 6, 15, 31, 63, 63, 63, 127, 767, 2047]
theorem gamehalllaw3_ClockRuns.tab21 : rtab .any (opsOf Try.f3 21) = gamehalllaw3_ClockRuns.T21 := by as_aux_lemma => kernel_rfl
theorem gamehalllaw3_ClockRuns.bits21 : waitsOk gamehalllaw3_ClockRuns.T21.2 gamehalllaw3_ClockRuns.B21 = true := by as_aux_lemma => kernel_rfl
def gamehalllaw3_ClockRuns.T32 : Bool × List (List Nat × List Nat) := (true, [([], []), ([], []), ([], []), ([], []), ([2, 3], [2, 3]), ([], []), ([5], [5]), ([6], [6]), ([7], [7]), ([], []), ([9], [9]), ([10], [10]), ([], []), ([11, 12], [11, 12]), ([4, 2, 3, 4], [2, 4]), ([0, 0, 2, 3, 4, 5, 6, 7, 8, 14], [0]), ([15, 8, 14, 0, 2, 3, 4, 5, 6, 7, 8, 14], [8, 15]), ([1, 0, 1, 2, 3, 4, 5, 6, 7, 8, 9, 10, 11, 12, 13, 14, 15, 16], [1]), ([17, 13, 16, 0, 1, 2, 3, 4, 5, 6, 7, 8, 9, 10, 11, 12, 13, 14, 15, 16], [13, 17])])
def gamehalllaw3_ClockRuns.B32 : List Nat := [0, 0, 0, 0, 12, 0, 32, 96, 224, 0, 512, 1536, 0, 7680, 28, 16893, 49661, 131071, 262143]
theorem gamehalllaw3_ClockRuns.tab32 : rtab .any (opsOf Try.f3 32) = gamehalllaw3_ClockRuns.T32 := by as_aux_lemma => kernel_rfl
theorem gamehalllaw3_ClockRuns.bits32 : waitsOk gamehalllaw3_ClockRuns.T32.2 gamehalllaw3_ClockRuns.B32 = true := by as_aux_lemma => kernel_rfl
def gamehalllaw3_ClockRuns.T33 : Bool × List (List Nat × List Nat) := (true, [([], []), ([], []), ([1], [1]), ([2], [2]), ([0, 3], [0, 3]), ([4], [4]), ([5], [5]), ([5], [5]), ([5], [5]), ([6, 4, 0, 1, 2, 3, 4, 5, 6], [6])])
def gamehalllaw3_ClockRuns.B33 : List Nat := [0, 0, 2, 6, 15, 31, 63, 63, 63, 127]
theorem gamehalllaw3_ClockRuns.tab33 : rtab .any (opsOf Try.f3 33) = gamehalllaw3_ClockRuns.T33 := by as_aux_lemma => kernel_rfl
theorem gamehalllaw3_ClockRuns.bits33 : waitsOk gamehalllaw3_ClockRuns.T33.2 gamehalllaw3_ClockRuns.B33 = true := by as_aux_lemma => kernel_rfl
def gamehalllaw3_ClockRuns.T34 : Bool × List (List Nat × List Nat) := (true, [([], []), ([], []), ([1, 0], [0, 1]), ([2], [2]), ([], []), ([], []), ([5], [5]), ([6], [6]), ([4, 7], [4, 7]), ([3, 8], [3, 8]), ([9], [9]), ([10], [10]), ([11, 10], [10, 11]), ([10], [10]), ([13, 10], [10, 13]), ([12, 14, 10], [10, 12, 14]), ([10, 15], [10, 15]), ([16, 10], [16]), ([17], [17]), ([18, 17], [17, 18]), ([17], [17]), ([19, 20, 17], [17, 19, 20]), ([17, 21], [17, 21]), ([22, 17], [22]), ([23], [23]), ([24, 23], [23, 24]), ([25, 23], [23, 25]), ([23, 26], [23, 26])])
def gamehalllaw3_ClockRuns.B34 : List Nat := [0, 0, 3, 7, 0, 0, 32, 96, 240, 511, 1023, 2047, 4095, 2047, 10239, 32767, 65535, 131071, 262143, 524287, 262143, 2097151, 4194303, 8388607, 16777215, 33554431, 67108863, 134217727]
theorem gamehalllaw3_ClockRuns.tab34 : rtab .any (opsOf Try.f3 34) = gamehalllaw3_ClockRuns.T34 := by as_aux_lemma => kernel_rfl
theorem gamehalllaw3_ClockRuns.bits34 : waitsOk gamehalllaw3_ClockRuns.T34.2 gamehalllaw3_ClockRuns.B34 = true := by as_aux_lemma => kernel_rfl
set_option maxHeartbeats 80000000 in
set_option maxRecDepth 100000 in
theorem gamehalllaw3_ClockRuns.calls (k : Nat) (A0_0 : Option Addr) (c0_0 : Nat) (l0_0 : List (S54)) (a0_1 : Int) (a0_2 : Int) (a1 : Int) (A2 : Option Addr) (c2 : Nat) (l2 : List Int) (a3 : Int) (r : Bool) (w : World) (hr0_0 : Kd.C k54 w A0_0 l0_0.length l0_0) (hc0_0 : l0_0.length ≤ c0_0) (hr2 : Kd.C (Kd.int .i64) w A2 l2.length l2) (hc2 : l2.length ≤ c2) (h : gamehalllaw3_ClockRuns.f k l0_0 a0_1 a0_2 a1 l2 a3 = some r) :
    Calls Try.prog 3 #[.agg #[.slice A0_0 l0_0.length c0_0, .int .i64 a0_1, .int .i64 a0_2], .int .i64 a1, .slice A2 l2.length c2, .int .i64 a3] w fun e w' => e = .returned (.bool r) ∧ Below w.heap.size w w' := by
 have hu24 := Try.underlying24; have hu31 := Try.underlying31; have hu29 := Try.underlying29; have HR0_0 := Aside0.mk hr0_0; have HC0_0 := Aside0.mk hc0_0; clear hr0_0 hc0_0; have HR2 := Aside0.mk hr2; have HC2 := Aside0.mk hc2; clear hr2 hc2; have HB := Aside0.mk (Below.refl w.heap.size w); have hss_ := @isSome_setCell
 have H : ((gamehalllaw3_ticks.f k).bind fun t218 => (if t218 = true then (if 0 ≤ (mn (l2.length : Int) 60) then (if (mn (l2.length : Int) 60) ≤ (l2.length : Int) then ((some (l2.take ((mn (l2.length : Int) 60) : Int).toNat : List Int)).bind fun y219 => ((gamehallref3_Ruled.f k l0_0 a0_1 a0_2).bind fun t223 => ((clock_Start.f k l0_0 a0_1 a0_2 a1).bind fun bt224 => ((clock_Check.f k l0_0 a0_1 a0_2).bind fun t236 => (if t236 = t223 then (if t223 = 0 then (if a1 < 0 then (gamehalllaw3_ClockRuns.j0 k a1 y219 a3 t223 bt224.2.2.2.2.2.2.2.2.2.2 true l0_0 a0_1 a0_2 bt224.1 bt224.2.1 bt224.2.2.1 bt224.2.2.2.1 bt224.2.2.2.2.1 bt224.2.2.2.2.2.1 bt224.2.2.2.2.2.2.1 bt224.2.2.2.2.2.2.2.1 bt224.2.2.2.2.2.2.2.2.1 bt224.2.2.2.2.2.2.2.2.2.1) else (gamehalllaw3_ClockRuns.j0 k a1 y219 a3 t223 bt224.2.2.2.2.2.2.2.2.2.2 (decide (a1 > 100000000)) l0_0 a0_1 a0_2 bt224.1 bt224.2.1 bt224.2.2.1 bt224.2.2.2.1 bt224.2.2.2.2.1 bt224.2.2.2.2.2.1 bt224.2.2.2.2.2.2.1 bt224.2.2.2.2.2.2.2.1 bt224.2.2.2.2.2.2.2.2.1 bt224.2.2.2.2.2.2.2.2.2.1)) else (gamehalllaw3_ClockRuns.j0 k a1 y219 a3 t223 bt224.2.2.2.2.2.2.2.2.2.2 false l0_0 a0_1 a0_2 bt224.1 bt224.2.1 bt224.2.2.1 bt224.2.2.2.1 bt224.2.2.2.2.1 bt224.2.2.2.2.2.1 bt224.2.2.2.2.2.2.1 bt224.2.2.2.2.2.2.2.1 bt224.2.2.2.2.2.2.2.2.1 bt224.2.2.2.2.2.2.2.2.2.1)) else (some false)))))) else (none)) else (none)) else (some false))) = some r := h
 clear h; replace H := Option.bind_eq_some_iff.mp H
 obtain ⟨t218, A50, H⟩ := H
 try dsimp only at H
 have A5 := Aside0.mk A50; clear A50
 by_cases c6 : t218 = true
 ·subst c6
  rw [if_pos rfl] at H
  obtain ⟨ji7, hji7⟩ : ∃ j_ : Int, (mn (l2.length : Int) 60) = j_ := ⟨_, rfl⟩
  (first | rw [hji7] at H | simp only [hji7] at H)
  (try rw [hji7] at A5)
  (try (have hji7h : ji7 ≤ 60 := by (rw [← hji7]; unfold mn; (repeat' split) <;> omega)))
  (try (have hji7g : ji7 ≤ 64 := by omega))
  (try (have hji7l : 0 ≤ ji7 := by (rw [← hji7]; unfold mn; (repeat' split) <;> omega)))
  (try (have hji7m : 0 ≤ ji7 := by omega))
  have hji7_ : (if 60 < (l2.length : Int) then 60 else (l2.length : Int)) = ji7 := hji7
  by_cases c8 : 0 ≤ (ji7)
  ·refine box_ ?g1;letI i:type_of% ?g1:=⟨by
   rw [if_pos c8] at H
   have c8b0 := eq_true c8
   have c8b1 : decide (0 ≤ (ji7)) = true := decide_eq_true c8
   clear c8
   by_cases c9 : (ji7) ≤ (l2.length : Int)
   ·refine box_ ?g2;letI i:type_of% ?g2:=⟨by
    rw [if_pos c9] at H
    have c9b0 := eq_true c9
    have c9b1 : decide ((ji7) ≤ (l2.length : Int)) = true := decide_eq_true c9
    clear c9
    obtain ⟨y219, hy219⟩ : ∃ y_ : List Int, y_ = (l2.take ((ji7) : Int).toNat) := ⟨_, rfl⟩
    replace H : ((gamehallref3_Ruled.f k l0_0 a0_1 a0_2).bind fun t223 => ((clock_Start.f k l0_0 a0_1 a0_2 a1).bind fun bt224 => ((clock_Check.f k l0_0 a0_1 a0_2).bind fun t236 => (if t236 = t223 then (if t223 = 0 then (if a1 < 0 then (gamehalllaw3_ClockRuns.j0 k a1 y219 a3 t223 bt224.2.2.2.2.2.2.2.2.2.2 true l0_0 a0_1 a0_2 bt224.1 bt224.2.1 bt224.2.2.1 bt224.2.2.2.1 bt224.2.2.2.2.1 bt224.2.2.2.2.2.1 bt224.2.2.2.2.2.2.1 bt224.2.2.2.2.2.2.2.1 bt224.2.2.2.2.2.2.2.2.1 bt224.2.2.2.2.2.2.2.2.2.1) else (gamehalllaw3_ClockRuns.j0 k a1 y219 a3 t223 bt224.2.2.2.2.2.2.2.2.2.2 (decide (a1 > 100000000)) l0_0 a0_1 a0_2 bt224.1 bt224.2.1 bt224.2.2.1 bt224.2.2.2.1 bt224.2.2.2.2.1 bt224.2.2.2.2.2.1 bt224.2.2.2.2.2.2.1 bt224.2.2.2.2.2.2.2.1 bt224.2.2.2.2.2.2.2.2.1 bt224.2.2.2.2.2.2.2.2.2.1)) else (gamehalllaw3_ClockRuns.j0 k a1 y219 a3 t223 bt224.2.2.2.2.2.2.2.2.2.2 false l0_0 a0_1 a0_2 bt224.1 bt224.2.1 bt224.2.2.1 bt224.2.2.2.1 bt224.2.2.2.2.1 bt224.2.2.2.2.2.1 bt224.2.2.2.2.2.2.1 bt224.2.2.2.2.2.2.2.1 bt224.2.2.2.2.2.2.2.2.1 bt224.2.2.2.2.2.2.2.2.2.1)) else (some false))))) = some r := by first | (rw [hy219]; with_reducible exact H) | (have H2_ := (Option.bind_some _ _).symm.trans H; rw [hy219]; with_reducible exact H2_) | (have H2_ := (Option.bind_some _ _).symm.trans H; with_reducible exact H2_) | with_reducible exact H | (rw [hy219]; exact H) | exact H
    have Ny219 := Aside0.mk hy219; clear hy219; replace H := Option.bind_eq_some_iff.mp H
    obtain ⟨t223, A100, H⟩ := H
    try dsimp only at H
    have A10 := Aside0.mk A100; clear A100; replace H := Option.bind_eq_some_iff.mp H
    obtain ⟨⟨t224, t225, t226, t227, t228, t229, t230, t231, t232, t233, t234⟩, A110, H⟩ := H
    try dsimp only at H
    have A11 := Aside0.mk A110; clear A110; replace H := Option.bind_eq_some_iff.mp H
    obtain ⟨t236, A120, H⟩ := H
    try dsimp only at H
    have A12 := Aside0.mk A120; clear A120
    by_cases c13 : t236 = t223
    ·refine box_ ?g3;letI i:type_of% ?g3:=⟨by
     rw [if_pos c13] at H
     have c13b0 : (t236 == t223) = true := beq_iff_eq.mpr c13
     have c13b1 : (t236 != t223) = false := bne_eq_false_iff_eq.mpr c13
     clear c13; have HC14 := Aside0.mk H; clear H
     go_enter Try.func3, Try.ntmps3
     go_upto_region 8 with (first | ((with_reducible refine gate_dst (N := 4) rfl ?_); refine box_event ?hg (N := 4) ?hd (cs := #[.slice A0_0 l0_0.length c0_0, .int .i64 a0_1, .int .i64 a0_2]) (t := 24) ?hr ?_; (case hd => rfl); (case hg => rfl); (case hr => first | (go_simp; done) | (go_simp; rfl)); intro gb217 hg w15 hbox hb; have BK217 := Aside0.mk (hbox); have GW217 := Aside0.mk (xZ HB hg); have GE217 := Aside0.mk (xZ HB hg); replace HB := Aside0.mk (xS HB hb); clear hb hbox hg) | ((with_reducible refine gate_callee (f := 5) rfl ?_); refine goesL_ (some 28) rfl rfl Try.func5 kr_ rfl #[] rfl (by (try simp only [List.map_toArray, List.map_cons, List.map_nil]); first | done | rfl | (simp only [List.length_drop, List.length_take]; rfl)) ?_; (with_reducible refine (gamehalllaw3_ticks.calls k  true _ A5.out).mono ?_); rintro e w16 ⟨rfl, hb⟩; refine ⟨_, rfl, ?_⟩; replace BK217 := Aside0.mk (xB BK217 hb); replace HB := Aside0.mk (xS HB hb); (try clear hb); (try clear hb2); (try clear hk); (try clear hi); have q17 : ((ji7) : Int) ≤ ((l2.length : Int) : Int) := of_decide_eq_true (by first | (with_reducible assumption) | assumption); obtain ⟨i017, hi017, _, hsz17, _⟩ := info_parts info3; have hroom17 : l2.length ≤ c2 := HC2.out; have hC17 : Kd.C (Kd.int .i64) _ A2 l2.length l2 := HR2.out; have hcut17 := cut_to (P := Try.prog) 25 3 .i64 Try.underlying25 hi017 A2 l2.length c2 (ji7) (of_decide_eq_true (by first | (with_reducible assumption) | assumption)) q17 hroom17; have hr17 := Kd.C_take (m := ((ji7) : Int).toNat) hC17 (by omega); have hy17 : y219.length = ((ji7) : Int).toNat := (by rw [Ny219.out, List.length_take]; omega); rw [← Ny219.out] at hr17; rw [← hy17] at hcut17; have HR222 := Aside0.mk hr17; have HC222 := Aside0.mk (show y219.length ≤ c2 from by omega); clear hr17 hC17 hroom17 hi017 hsz17; have KY17 := Aside0.mk hy17; clear hy17; replace q17 := eq_true q17; have hcz18_0 := blkc3 BK217.out) | ((with_reducible refine gate_callee (f := 6) rfl ?_); refine goesL_ (some 36) rfl rfl Try.func6 kr_ rfl #[.agg #[.slice A0_0 l0_0.length c0_0, .int .i64 a0_1, .int .i64 a0_2]] rfl (by (try simp only [List.map_toArray, List.map_cons, List.map_nil]); first | done | rfl | (simp only [List.length_drop, List.length_take]; rfl)) ?_; (with_reducible refine (gamehallref3_Ruled.calls k _ _ l0_0 a0_1 a0_2 t223 _ ?side1 ?side2 A10.out).mono ?_); (case side1 => exact xC (Kd.C_below HR0_0.out HB.out)); (case side2 => exact HC0_0.out); rintro e w19 ⟨rfl, hb⟩; refine ⟨_, rfl, ?_⟩; replace BK217 := Aside0.mk (xB BK217 hb); replace HB := Aside0.mk (xS HB hb); (try clear hb); (try clear hb2); (try clear hk); (try clear hi); have hcz20_0 := blkc3 BK217.out) | ((with_reducible refine gate_callee (f := 7) rfl ?_); refine goesL_ (some 40) rfl rfl Try.func7 kr_ rfl #[.agg #[.slice A0_0 l0_0.length c0_0, .int .i64 a0_1, .int .i64 a0_2], .int .i64 a1] rfl (by (try simp only [List.map_toArray, List.map_cons, List.map_nil]); first | done | rfl | (simp only [List.length_drop, List.length_take]; rfl)) ?_; (with_reducible refine (clock_Start.calls k _ _ l0_0 a0_1 a0_2 a1 t224 t225 t226 t227 t228 t229 t230 t231 t232 t233 t234 _ ?side1 ?side2 A11.out).mono ?_); (case side1 => exact xC (Kd.C_below HR0_0.out HB.out)); (case side2 => exact HC0_0.out); rintro e w21 ⟨rfl, hb⟩; refine ⟨_, rfl, ?_⟩; replace BK217 := Aside0.mk (xB BK217 hb); replace HB := Aside0.mk (xS HB hb); (try clear hb); (try clear hb2); (try clear hk); (try clear hi)) | ((with_reducible refine gate_dst (N := 10) rfl ?_); refine box_event ?hg (N := 10) ?hd (cs := #[.int .i64 0, .int .i64 0, .int .i64 0, .int .i64 0, .int .i64 0, .int .i64 0, .int .i64 0, .int .i64 0, .bool false, .int .i64 0]) (t := 31) ?hr ?_; (case hd => rfl); (case hg => rfl); (case hr => first | (go_simp; done) | (go_simp; rfl)); intro gb235 hg w22 hbox hb; have BK235 := Aside0.mk (hbox); have GW235 := Aside0.mk (xZ HB hg); have GE235 := Aside0.mk (xZ HB hg); have NB217_235 := Aside0.mk (xN BK217 hg); have NB235_217 := Aside0.mk (xM BK217 hg); replace BK217 := Aside0.mk (xB BK217 hb); replace HB := Aside0.mk (xS HB hb); clear hb hbox hg; have hnb23 := xne7 NB235_217; have hnc23 := xne7 NB217_235; have hcz24_0 := blkc10 BK235.out; have hcz25_0 := blkc3 BK217.out) | ((with_reducible refine gate_callee (f := 8) rfl ?_); refine goesL_ (some 44) rfl rfl Try.func8 kr_ rfl #[.agg #[.slice A0_0 l0_0.length c0_0, .int .i64 a0_1, .int .i64 a0_2]] rfl (by (try simp only [List.map_toArray, List.map_cons, List.map_nil]); first | done | rfl | (simp only [List.length_drop, List.length_take]; rfl)) ?_; (with_reducible refine (clock_Check.calls k _ _ l0_0 a0_1 a0_2 t236 _ ?side1 ?side2 A12.out).mono ?_); (case side1 => exact Kd.C_below HR0_0.out (xW HB)); (case side2 => exact HC0_0.out); rintro e w26 ⟨rfl, hb⟩; refine ⟨_, rfl, ?_⟩; replace BK217 := Aside0.mk (xB BK217 hb); replace BK235 := Aside0.mk (xP (l' := [.int .i64 t224, .int .i64 t225, .int .i64 t226, .int .i64 t227, .int .i64 t228, .int .i64 t229, .int .i64 t230, .int .i64 t231, .bool t232, .int .i64 t233]) BK235 hb); replace HB := Aside0.mk (xS HB hb); (try clear hb); (try clear hb2); (try clear hk); (try clear hi)))
     (try have hq217_235 := xne7 NB217_235); (try have hq235_217 := xne7 NB235_217)
     (try simp only [Act.put, List.setIfInBounds_toArray, List.set_cons_zero, List.set_cons_succ])
     go_cut [56] (fun vs56 wc => ∃ (kq : Nat) (x56_13 : Bool), vs56 = .bool x56_13 ∧ Aside0 (gamehalllaw3_ClockRuns.j0 kq a1 y219 a3 t223 t234 x56_13 l0_0 a0_1 a0_2 t224 t225 t226 t227 t228 t229 t230 t231 t232 t233 = some r) ∧ Aside0 (kq ≤ k) ∧ Aside0 (wc.heap[gb217]? = some (.cells #[(.slice A0_0 l0_0.length c0_0), .int .i64 a0_1, .int .i64 a0_2] 24 (0, 0))) ∧ Aside0 (wc.heap[gb235]? = some (.cells #[.int .i64 t224, .int .i64 t225, .int .i64 t226, .int .i64 t227, .int .i64 t228, .int .i64 t229, .int .i64 t230, .int .i64 t231, .bool t232, .int .i64 t233] 31 (0, 0))) ∧ Aside0 (Below w.heap.size w wc))
     case first =>
      have H := HC14.out; clear HC14
      by_cases c27 : t223 = 0
      ·rw [if_pos c27] at H
       have c27b0 : (t223 == 0) = true := beq_iff_eq.mpr c27
       have c27b1 : (t223 != 0) = false := bne_eq_false_iff_eq.mpr c27
       clear c27
       (first | rw [c27b0] | (simp only [i64_w, i32_w]; rw [c27b0]) | skip)
       by_cases c28 : a1 < 0
       ·rw [if_pos c28] at H
        have c28b0 : decide (a1 < 0) = true := decide_eq_true c28
        clear c28
        have H' := Aside0.mk H
        clear H
        go_wp2
        go_meet
        case rel => exact ⟨_, (true), (xrf), H', ⟨by first | omega | exact Nat.le_refl _⟩, ⟨xK BK217⟩, ⟨xK BK235⟩, ⟨xW HB⟩⟩
       ·rw [if_neg c28] at H
        have c28b0 : decide (a1 < 0) = false := decide_eq_false c28
        clear c28
        have H' := Aside0.mk H
        clear H
        go_wp2
        go_meet
        case rel => exact ⟨_, (decide (a1 > 100000000)), (xrf), H', ⟨by first | omega | exact Nat.le_refl _⟩, ⟨xK BK217⟩, ⟨xK BK235⟩, ⟨xW HB⟩⟩
      ·rw [if_neg c27] at H
       have c27b0 : (t223 == 0) = false := beq_eq_false_iff_ne.mpr c27
       have c27b1 : (t223 != 0) = true := bne_iff_ne.mpr c27; clear c27
       (first | rw [c27b0] | (simp only [i64_w, i32_w]; rw [c27b0]) | skip)
       have H' := Aside0.mk H
       clear H
       go_wp2
       go_meet
       case rel => exact ⟨_, (false), (xrf), H', ⟨by first | omega | exact Nat.le_refl _⟩, ⟨xK BK217⟩, ⟨xK BK235⟩, ⟨xW HB⟩⟩
     case rest =>
      refine box_ ?g4;letI i:type_of% ?g4:=⟨by
      clear HC14; (try clear q1); (try clear p2); (try clear q17); (try clear q17)
      obtain ⟨kq, x56_13, rfl, HA, HJ13, BK217, BK235, HB⟩ := hcut
      cases kq with
      | zero => exact absurd HA.out (by simp [gamehalllaw3_ClockRuns.j0])
      | succ kj13 =>
       have H := HA.out; clear HA
       simp only [gamehalllaw3_ClockRuns.j0] at H
       have HC29 := Aside0.mk H; clear H
       go_upto_if 56 with (fail)
       go_cut [9] (fun vs9 wc => ∃ (kq : Nat) (x9_28 : Int), vs9 = .int .i64 x9_28 ∧ Aside0 (gamehalllaw3_ClockRuns.j1 kq a1 y219 a3 x9_28 t234 l0_0 a0_1 a0_2 t224 t225 t226 t227 t228 t229 t230 t231 t232 t233 = some r) ∧ Aside0 (kq ≤ kj13) ∧ Aside0 (wc.heap[gb217]? = some (.cells #[(.slice A0_0 l0_0.length c0_0), .int .i64 a0_1, .int .i64 a0_2] 24 (0, 0))) ∧ Aside0 (wc.heap[gb235]? = some (.cells #[.int .i64 t224, .int .i64 t225, .int .i64 t226, .int .i64 t227, .int .i64 t228, .int .i64 t229, .int .i64 t230, .int .i64 t231, .bool t232, .int .i64 t233] 31 (0, 0))) ∧ Aside0 (Below w.heap.size w wc))
       case first =>
        have H := HC29.out; clear HC29
        by_cases c30 : x56_13 = true
        ·subst c30
         rw [if_pos rfl] at H
         have H' := Aside0.mk H
         clear H
         go_wp2
         go_meet
         case rel => exact ⟨_, (11), (xrf), H', ⟨by have := HJ13.out; first | omega | exact Nat.le_refl _⟩, ⟨xK BK217⟩, ⟨xK BK235⟩, ⟨xW HB⟩⟩
        ·replace c30 := Bool.eq_false_iff.mpr c30
         subst c30
         rw [if_neg (show ¬ (false = true) by decide)] at H
         have H' := Aside0.mk H
         clear H
         go_wp2
         go_meet
         case rel => exact ⟨_, (t223), (xrf), H', ⟨by have := HJ13.out; first | omega | exact Nat.le_refl _⟩, ⟨xK BK217⟩, ⟨xK BK235⟩, ⟨xW HB⟩⟩
       case rest =>
        refine box_ ?g5;letI i:type_of% ?g5:=⟨by
        clear HC29; (try clear q1); (try clear p2); (try clear q17); (try clear p2); (try clear q1); (try clear q17)
        obtain ⟨kq, x9_28, rfl, HA, HJ28, BK217, BK235, HB⟩ := hcut
        cases kq with
        | zero => exact absurd HA.out (by simp [gamehalllaw3_ClockRuns.j1])
        | succ kj28 =>
         have H := HA.out; clear HA
         simp only [gamehalllaw3_ClockRuns.j1] at H
         by_cases c31 : x9_28 = 0
         ·refine box_ ?g6;letI i:type_of% ?g6:=⟨by
          rw [if_pos c31] at H
          have c31b0 : (x9_28 == 0) = true := beq_iff_eq.mpr c31
          have c31b1 : (x9_28 != 0) = false := bne_eq_false_iff_eq.mpr c31
          clear c31
          by_cases c32 : t234 = 0
          ·refine box_ ?g7;letI i:type_of% ?g7:=⟨by
           rw [if_pos c32] at H
           have c32b0 : (t234 == 0) = true := beq_iff_eq.mpr c32
           have c32b1 : (t234 != 0) = false := bne_eq_false_iff_eq.mpr c32
           clear c32
           have H' := Aside0.mk H
           clear H
           go_wp2_with (first | ((with_reducible refine gate_dst (N := 13) rfl ?_); refine box_event ?hg (N := 13) ?hd (cs := #[.int .i64 0, .int .i64 0]) (t := 29) ?hr ?_; (case hd => rfl); (case hg => rfl); (case hr => first | (go_simp; done) | (go_simp; rfl)); intro gb237 hg w33 hbox hb; have BK237 := Aside0.mk (hbox); have GW237 := Aside0.mk (xZ HB hg); have GE237 := Aside0.mk (xZ HB hg); have NB217_237 := Aside0.mk (xN BK217 hg); have NB237_217 := Aside0.mk (xM BK217 hg); have NB235_237 := Aside0.mk (xN BK235 hg); have NB237_235 := Aside0.mk (xM BK235 hg); replace BK217 := Aside0.mk (xB BK217 hb); replace BK235 := Aside0.mk (xB BK235 hb); replace HB := Aside0.mk (xS HB hb); clear hb hbox hg) | ((with_reducible refine gate_dst (N := 14) rfl ?_); refine box_event ?hg (N := 14) ?hd (cs := #[.int .i64 0, .int .i64 0]) (t := 29) ?hr ?_; (case hd => rfl); (case hg => rfl); (case hr => first | (go_simp; done) | (go_simp; rfl)); intro gb238 hg w34 hbox hb; have BK238 := Aside0.mk (hbox); have GW238 := Aside0.mk (xZ HB hg); have GE238 := Aside0.mk (xZ HB hg); have NB217_238 := Aside0.mk (xN BK217 hg); have NB238_217 := Aside0.mk (xM BK217 hg); have NB235_238 := Aside0.mk (xN BK235 hg); have NB238_235 := Aside0.mk (xM BK235 hg); have NB237_238 := Aside0.mk (xN BK237 hg); have NB238_237 := Aside0.mk (xM BK237 hg); replace BK217 := Aside0.mk (xB BK217 hb); replace BK235 := Aside0.mk (xB BK235 hb); replace BK237 := Aside0.mk (xB BK237 hb); replace HB := Aside0.mk (xS HB hb); clear hb hbox hg; have hnb35 := xne7 NB237_217; have hnc35 := xne7 NB217_237; have hnb36 := xne7 NB237_235; have hnc36 := xne7 NB235_237; have hnb37 := xne7 NB237_238; have hnc37 := xne7 NB238_237; have hcz38_0 := blkc2 BK237.out; have hnb39 := xne7 NB238_217; have hnc39 := xne7 NB217_238; have hnb40 := xne7 NB238_235; have hnc40 := xne7 NB235_238; have hcz41_0 := blkc2 BK238.out))
           (try have hq217_237 := xne7 NB217_237); (try have hq237_217 := xne7 NB237_217); (try have hq217_238 := xne7 NB217_238); (try have hq238_217 := xne7 NB238_217); (try have hq235_237 := xne7 NB235_237); (try have hq237_235 := xne7 NB237_235); (try have hq235_238 := xne7 NB235_238); (try have hq238_235 := xne7 NB238_235); (try have hq238_237 := xne7 NB238_237); (try have hq237_238 := xne7 NB237_238)
           go_loopg [12, 74] kj28 (fun kq vs12 vs74 w' => ∃ (x12_3 : Int) (x74_3 : Int) (z236a3 : Int) (z236b3 : Int) (z236c3 : Int) (z236d3 : Int) (z236e3 : Int) (z236f3 : Int) (z236g3 : Int) (z236h3 : Int) (z236i3 : Bool) (z236j3 : Int) (z238a3 : Int) (z238b3 : Int) (z239a3 : Int) (z239b3 : Int), vs12 = .int .i64 x12_3 ∧ vs74 = .int .i64 x74_3 ∧ Aside0 (gamehalllaw3_ClockRuns.l0 kq a3 x12_3 y219 (y219.length : Int) x74_3 l0_0 a0_1 a0_2 z236a3 z236b3 z236c3 z236d3 z236e3 z236f3 z236g3 z236h3 z236i3 z236j3 z238a3 z238b3 z239a3 z239b3 = some r) ∧ Aside0 (kq ≤ kj28) ∧ Aside0 (w'.heap[gb217]? = some (.cells #[(.slice A0_0 l0_0.length c0_0), .int .i64 a0_1, .int .i64 a0_2] 24 (0, 0))) ∧ Aside0 (w'.heap[gb235]? = some (.cells #[.int .i64 z236a3, .int .i64 z236b3, .int .i64 z236c3, .int .i64 z236d3, .int .i64 z236e3, .int .i64 z236f3, .int .i64 z236g3, .int .i64 z236h3, .bool z236i3, .int .i64 z236j3] 31 (0, 0))) ∧ Aside0 (w'.heap[gb237]? = some (.cells #[.int .i64 z238a3, .int .i64 z238b3] 29 (0, 0))) ∧ Aside0 (w'.heap[gb238]? = some (.cells #[.int .i64 z239a3, .int .i64 z239b3] 29 (0, 0))) ∧ Aside0 (Below w.heap.size w w'))
           case atStart => exact ⟨(a1), (0), (t224), (t225), (t226), (t227), (t228), (t229), (t230), (t231), (t232), (t233), (0), (0), (0), (0), (xrf), (xrf), H', ⟨Nat.le_refl _⟩, ⟨xK BK217⟩, ⟨xK BK235⟩, ⟨xQ BK237⟩, ⟨xQ BK238⟩, ⟨xW HB⟩⟩
           case round =>
            clear H'; (try clear q1); (try clear p2); (try clear q17); (try clear p2); (try clear q1); (try clear q17)
            obtain ⟨x12_3, x74_3, z236a3, z236b3, z236c3, z236d3, z236e3, z236f3, z236g3, z236h3, z236i3, z236j3, z238a3, z238b3, z239a3, z239b3, rfl, rfl, HA, HK3, BK217, BK235, BK237, BK238, HB⟩ := hrel
            cases gk with
            | zero => exact absurd HA.out (by simp [gamehalllaw3_ClockRuns.l0])
            | succ k3 =>
             have H := HA.out; clear HA
             simp only [gamehalllaw3_ClockRuns.l0] at H
             by_cases c42 : x74_3 < (y219.length : Int)
             ·refine box_ ?g8;letI i:type_of% ?g8:=⟨by
              rw [if_pos c42] at H
              have c42b0 : decide (x74_3 < (y219.length : Int)) = true := decide_eq_true c42
              clear c42
              by_cases c43 : 0 ≤ x74_3
              ·refine box_ ?g9;letI i:type_of% ?g9:=⟨by
               rw [if_pos c43] at H
               have c43b0 : decide (0 ≤ x74_3) = true := decide_eq_true c43
               clear c43
               by_cases c44 : x74_3 < (y219.length : Int)
               ·refine box_ ?g10;letI i:type_of% ?g10:=⟨by
                rw [if_pos c44] at H
                have c44b0 : decide (x74_3 < (y219.length : Int)) = true := decide_eq_true c44
                clear c44; have HC45 := Aside0.mk H; clear H
                have p240 : 0 ≤ (x74_3 : Int) := of_decide_eq_true (by first | (with_reducible assumption) | assumption)
                have q240 : x74_3 < (y219.length : Int) := of_decide_eq_true (by first | (with_reducible assumption) | assumption)
                obtain ⟨ad240, e240, hx240_0⟩ := Kd.at_int HR222.out x74_3 p240 q240
                cases e240
                replace hx240_0 := (HB.out.cell (World.block_lt_of_cell? w _ hx240_0)).trans hx240_0; replace p240 := eq_true p240; replace q240 := eq_true q240
                go_upto_region 18 with (fail)
                go_cut [84] (fun vs84 wc => ∃ (kq : Nat) (x84_44 : Bool), vs84 = .bool x84_44 ∧ Aside0 (gamehalllaw3_ClockRuns.j3 kq a3 x12_3 x74_3 (rd y219 x74_3) y219 (y219.length : Int) x74_3 x84_44 l0_0 a0_1 a0_2 z236a3 z236b3 z236c3 z236d3 z236e3 z236f3 z236g3 z236h3 z236i3 z236j3 z238a3 z238b3 z239a3 z239b3 = some r) ∧ Aside0 (kq ≤ k3) ∧ Aside0 (wc.heap[gb217]? = some (.cells #[(.slice A0_0 l0_0.length c0_0), .int .i64 a0_1, .int .i64 a0_2] 24 (0, 0))) ∧ Aside0 (wc.heap[gb235]? = some (.cells #[.int .i64 z236a3, .int .i64 z236b3, .int .i64 z236c3, .int .i64 z236d3, .int .i64 z236e3, .int .i64 z236f3, .int .i64 z236g3, .int .i64 z236h3, .bool z236i3, .int .i64 z236j3] 31 (0, 0))) ∧ Aside0 (wc.heap[gb237]? = some (.cells #[.int .i64 z238a3, .int .i64 z238b3] 29 (0, 0))) ∧ Aside0 (wc.heap[gb238]? = some (.cells #[.int .i64 z239a3, .int .i64 z239b3] 29 (0, 0))) ∧ Aside0 (Below w.heap.size w wc))
                case first =>
                 have H := HC45.out; clear HC45
                 by_cases c46 : (rd y219 x74_3) < 0
                 ·rw [if_pos c46] at H
                  have c46b0 : decide ((rd y219 x74_3) < 0) = true := decide_eq_true c46
                  clear c46
                  (first | rw [c46b0] | (simp only [i64_w, i32_w]; rw [c46b0]) | skip)
                  have H' := Aside0.mk H
                  clear H
                  go_wp2
                  go_meet
                  case rel => exact ⟨_, (true), (xrf), H', ⟨by have := HJ13.out; have := HJ28.out; have := HK3.out; first | omega | exact Nat.le_refl _⟩, ⟨xK BK217⟩, ⟨xK BK235⟩, ⟨xK BK237⟩, ⟨xK BK238⟩, ⟨xW HB⟩⟩
                 ·rw [if_neg c46] at H
                  have c46b0 : decide ((rd y219 x74_3) < 0) = false := decide_eq_false c46
                  clear c46
                  (first | rw [c46b0] | (simp only [i64_w, i32_w]; rw [c46b0]) | skip)
                  have H' := Aside0.mk H
                  clear H
                  go_wp2
                  go_meet
                  case rel => exact ⟨_, (decide ((rd y219 x74_3) > 100000000)), (xrf), H', ⟨by have := HJ13.out; have := HJ28.out; have := HK3.out; first | omega | exact Nat.le_refl _⟩, ⟨xK BK217⟩, ⟨xK BK235⟩, ⟨xK BK237⟩, ⟨xK BK238⟩, ⟨xW HB⟩⟩
                case rest =>
                 refine box_ ?g11;letI i:type_of% ?g11:=⟨by
                 clear HC45; (try clear q1); (try clear p2); (try clear q2); (try clear hx2); (try clear q17); (try clear p24); (try clear q24); (try clear hx24); (try clear hx240_0); (try clear p2); (try clear p240); (try clear q1); (try clear q17); (try clear q240)
                 obtain ⟨kq, x84_44, rfl, HA, HJ44, BK217, BK235, BK237, BK238, HB⟩ := hcut
                 cases kq with
                 | zero => exact absurd HA.out (by simp [gamehalllaw3_ClockRuns.j3])
                 | succ kj44 =>
                  have H := HA.out; clear HA
                  simp only [gamehalllaw3_ClockRuns.j3] at H
                  by_cases c47 : x84_44 = true
                  ·subst c47
                   rw [if_pos rfl] at H
                   obtain rfl := Option.some.inj H
                   go_wp2
                   go_ret
                   exact ⟨by first | rfl | (simp [errW_none, errW_some] <;> rfl) | (simp only [← hji7]; first | rfl | (simp [errW_none, errW_some] <;> rfl)) | (simp [*, errW_none, errW_some] <;> rfl), xW HB⟩
                  ·replace c47 := Bool.eq_false_iff.mpr c47
                   subst c47
                   rw [if_neg (show ¬ (false = true) by decide)] at H
                   have HC48 := Aside0.mk H; clear H
                   go_upto_region 21 with (fail)
                   go_cut [18, 19, 20] (fun vs18 vs19 vs20 wc => ∃ (kq : Nat) (x18_47 : Int) (x19_47 : Int) (x20_47 : Int), vs18 = .int .i64 x18_47 ∧ vs19 = .int .i64 x19_47 ∧ vs20 = .int .i64 x20_47 ∧ Aside0 (gamehalllaw3_ClockRuns.j4 kq a3 x12_3 (rd y219 x74_3) (Int.tmod x74_3 2) x18_47 x19_47 x20_47 y219 (y219.length : Int) x74_3 l0_0 a0_1 a0_2 z236a3 z236b3 z236c3 z236d3 z236e3 z236f3 z236g3 z236h3 z236i3 z236j3 z238a3 z238b3 z239a3 z239b3 = some r) ∧ Aside0 (kq ≤ kj44) ∧ Aside0 (wc.heap[gb217]? = some (.cells #[(.slice A0_0 l0_0.length c0_0), .int .i64 a0_1, .int .i64 a0_2] 24 (0, 0))) ∧ Aside0 (wc.heap[gb235]? = some (.cells #[.int .i64 z236a3, .int .i64 z236b3, .int .i64 z236c3, .int .i64 z236d3, .int .i64 z236e3, .int .i64 z236f3, .int .i64 z236g3, .int .i64 z236h3, .bool z236i3, .int .i64 z236j3] 31 (0, 0))) ∧ Aside0 (wc.heap[gb237]? = some (.cells #[.int .i64 z238a3, .int .i64 z238b3] 29 (0, 0))) ∧ Aside0 (wc.heap[gb238]? = some (.cells #[.int .i64 z239a3, .int .i64 z239b3] 29 (0, 0))) ∧ Aside0 (Below w.heap.size w wc))
                   case first =>
                    have H := HC48.out; clear HC48
                    obtain ⟨ji49, hji49⟩ : ∃ j_ : Int, (Int.tmod x74_3 2) = j_ := ⟨_, rfl⟩
                    (first | rw [hji49] at H | simp only [hji49] at H)
                    by_cases c50 : 0 ≤ (ji49)
                    ·rw [if_pos c50] at H
                     have c50b0 : decide (0 ≤ (ji49)) = true := decide_eq_true c50
                     clear c50
                     (first | rw [c50b0] | (simp only [i64_w, i32_w]; rw [c50b0]) | skip)
                     by_cases c51 : (ji49) < 2
                     ·rw [if_pos c51] at H
                      have c51b0 : decide ((ji49) < 2) = true := decide_eq_true c51
                      clear c51
                      by_cases c52 : (ji49) = 0
                      ·rw [if_pos c52] at H
                       have c52b0 : ((ji49) == 0) = true := beq_iff_eq.mpr c52
                       have c52b1 : ((ji49) != 0) = false := bne_eq_false_iff_eq.mpr c52
                       clear c52; obtain ⟨c53b, c53g, c53c, c53d⟩ := xar ((ji49) : Int) 0 0 2; replace H := Option.bind_eq_some_iff.mp H
                       obtain ⟨⟨t241, t242, t243⟩, A540, H⟩ := H
                       try dsimp only at H
                       have A54 := Aside0.mk A540; clear A540
                       have H' := Aside0.mk H
                       clear H
                       try go_wp2
                       replace BK217 := Aside0.mk (blk_drew BK217.out); replace BK235 := Aside0.mk (blk_drew BK235.out); replace BK237 := Aside0.mk (blk_drew BK237.out); replace BK238 := Aside0.mk (blk_drew BK238.out); replace HB := Aside0.mk (below_drew1 HB.out)
                       refine start_ (n := 12) (S := fun w' => ce w' gb217 0 (.slice A0_0 l0_0.length c0_0) ∧ ce w' gb217 1 (.int .i64 a0_1) ∧ ce w' gb217 2 (.int .i64 a0_2) ∧ ce w' gb237 0 (.int .i64 z238a3) ∧ ce w' gb237 1 (.int .i64 z238b3)) (ds := []) (mk 12 0) kr_ rfl rfl ⟨xc BK217 0, xc BK217 1, xc BK217 2, xc BK237 0, xc BK237 1⟩ (fun hHeld => ?_); refine with_tabW gamehalllaw3_ClockRuns.tab21 gamehalllaw3_ClockRuns.bits21 (fun HT_ HW_ => ?_)
                       generalize wc.drew = w55 at BK217 BK235 BK237 BK238 HB hHeld ⊢; refine pu_ 1 89 HT_ ?_; refine pu_ 2 90 HT_ ?_; refine tk_ 0 88 HT_ HW_ hHeld ?_; refine tk_ 3 91 HT_ HW_ hHeld ?_
                       refine one_ (i := 4) (N := some 92) #[true, true, true, true, true, false, false, false, false, false, false, false] rfl rfl (one_of HT_.out kr_) (by decide) (fun K hK => ?_)
                       refine goes_ Try.func9 kr_ rfl #[.agg #[.slice A0_0 l0_0.length c0_0, .int .i64 a0_1, .int .i64 a0_2], .int .i64 z238a3] (by rfl) rfl rfl (by (try simp only [List.map_toArray, List.map_cons, List.map_nil]); first | done | rfl | (simp only [List.length_drop, List.length_take]; rfl)) ?_
                       with_reducible refine (gamehallref3_Budget.calls kj44 _ _ l0_0 a0_1 a0_2 z238a3 t241 t242 t243 _ ?side1 ?side2 A54.out).mono ?_
                       (case side1 => exact xC (Kd.C_below HR0_0.out HB.out))
                       (case side2 => exact HC0_0.out)
                       rintro e w56 ⟨rfl, hb⟩
                       refine ⟨_, rfl, ?_⟩
                       replace BK217 := Aside0.mk (xB BK217 hb); replace BK235 := Aside0.mk (xB BK235 hb); replace BK237 := Aside0.mk (xB BK237 hb); replace BK238 := Aside0.mk (xB BK238 hb); replace HB := Aside0.mk (xS HB hb)
                       (try clear hb)
                       (try clear hb2)
                       (try clear hk)
                       (try clear hi)
                       refine hK.out _ _ ⟨(blk_cell BK217.out 0).trans rfl, (blk_cell BK217.out 1).trans rfl, (blk_cell BK217.out 2).trans rfl, (blk_cell BK237.out 0).trans rfl, (blk_cell BK237.out 1).trans rfl⟩ (fun hHeld => ?_)
                       clear hK K
                       refine norm_ (a' := ?_) ?_ ?_
                       rotate_left
                       ·show Act.put _ (some 92) _ = _
                        simp only [Act.put, List.setIfInBounds_toArray, List.set_cons_zero, List.set_cons_succ, i64_w, i32_w]
                        rfl
                       refine pu_ 5 87 HT_ ?_; refine pu_ 6 93 HT_ ?_; refine pu_ 7 94 HT_ ?_; refine pu_ 8 95 HT_ ?_; refine pu_ 9 18 HT_ ?_; refine pu_ 10 19 HT_ ?_; refine pu_ 11 20 HT_ ?_
                       refine done_ (done_of HT_.out kr_) ?_
                       try go_wp2
                       go_meet
                       case rel => exact ⟨_, (t241), (t242), (t243), (xrf), (xrf), (xrf), (by first | exact H' | (try rw [hji49]; exact H')), ⟨by have := HJ13.out; have := HJ28.out; have := HK3.out; have := HJ44.out; first | omega | exact Nat.le_refl _⟩, ⟨xK BK217⟩, ⟨xK BK235⟩, ⟨xK BK237⟩, ⟨xK BK238⟩, ⟨xW HB⟩⟩
                      ·rw [if_neg c52] at H
                       have c52b0 : ((ji49) == 0) = false := beq_eq_false_iff_ne.mpr c52
                       have c52b1 : ((ji49) != 0) = true := bne_iff_ne.mpr c52
                       obtain ⟨c57b, c57g, c57c, c57d⟩ := xar ((ji49) : Int) 1 1 2; replace H := Option.bind_eq_some_iff.mp H
                       obtain ⟨⟨t244, t245, t246⟩, A580, H⟩ := H
                       try dsimp only at H
                       have A58 := Aside0.mk A580; clear A580
                       have H' := Aside0.mk H
                       clear H
                       try go_wp2
                       replace BK217 := Aside0.mk (blk_drew BK217.out); replace BK235 := Aside0.mk (blk_drew BK235.out); replace BK237 := Aside0.mk (blk_drew BK237.out); replace BK238 := Aside0.mk (blk_drew BK238.out); replace HB := Aside0.mk (below_drew1 HB.out)
                       refine start_ (n := 12) (S := fun w' => ce w' gb217 0 (.slice A0_0 l0_0.length c0_0) ∧ ce w' gb217 1 (.int .i64 a0_1) ∧ ce w' gb217 2 (.int .i64 a0_2) ∧ ce w' gb237 0 (.int .i64 z238a3) ∧ ce w' gb237 1 (.int .i64 z238b3)) (ds := []) (mk 12 0) kr_ rfl rfl ⟨xc BK217 0, xc BK217 1, xc BK217 2, xc BK237 0, xc BK237 1⟩ (fun hHeld => ?_); refine with_tabW gamehalllaw3_ClockRuns.tab21 gamehalllaw3_ClockRuns.bits21 (fun HT_ HW_ => ?_)
                       generalize wc.drew = w59 at BK217 BK235 BK237 BK238 HB hHeld ⊢; refine pu_ 1 89 HT_ ?_; refine pu_ 2 90 HT_ ?_; refine tk_ 0 88 HT_ HW_ hHeld ?_; refine tk_ 3 91 HT_ HW_ hHeld ?_
                       refine one_ (i := 4) (N := some 92) #[true, true, true, true, true, false, false, false, false, false, false, false] rfl rfl (one_of HT_.out kr_) (by decide) (fun K hK => ?_)
                       refine goes_ Try.func9 kr_ rfl #[.agg #[.slice A0_0 l0_0.length c0_0, .int .i64 a0_1, .int .i64 a0_2], .int .i64 z238b3] (by rfl) rfl rfl (by (try simp only [List.map_toArray, List.map_cons, List.map_nil]); first | done | rfl | (simp only [List.length_drop, List.length_take]; rfl)) ?_
                       with_reducible refine (gamehallref3_Budget.calls kj44 _ _ l0_0 a0_1 a0_2 z238b3 t244 t245 t246 _ ?side1 ?side2 A58.out).mono ?_
                       (case side1 => exact xC (Kd.C_below HR0_0.out HB.out))
                       (case side2 => exact HC0_0.out)
                       rintro e w60 ⟨rfl, hb⟩
                       refine ⟨_, rfl, ?_⟩
                       replace BK217 := Aside0.mk (xB BK217 hb); replace BK235 := Aside0.mk (xB BK235 hb); replace BK237 := Aside0.mk (xB BK237 hb); replace BK238 := Aside0.mk (xB BK238 hb); replace HB := Aside0.mk (xS HB hb)
                       (try clear hb)
                       (try clear hb2)
                       (try clear hk)
                       (try clear hi)
                       refine hK.out _ _ ⟨(blk_cell BK217.out 0).trans rfl, (blk_cell BK217.out 1).trans rfl, (blk_cell BK217.out 2).trans rfl, (blk_cell BK237.out 0).trans rfl, (blk_cell BK237.out 1).trans rfl⟩ (fun hHeld => ?_)
                       clear hK K
                       refine norm_ (a' := ?_) ?_ ?_
                       rotate_left
                       ·show Act.put _ (some 92) _ = _
                        simp only [Act.put, List.setIfInBounds_toArray, List.set_cons_zero, List.set_cons_succ, i64_w, i32_w]
                        rfl
                       refine pu_ 5 87 HT_ ?_; refine pu_ 6 93 HT_ ?_; refine pu_ 7 94 HT_ ?_; refine pu_ 8 95 HT_ ?_; refine pu_ 9 18 HT_ ?_; refine pu_ 10 19 HT_ ?_; refine pu_ 11 20 HT_ ?_
                       refine done_ (done_of HT_.out kr_) ?_
                       try go_wp2
                       go_meet
                       case rel => exact ⟨_, (t244), (t245), (t246), (xrf), (xrf), (xrf), (by first | exact H' | (try rw [hji49]; exact H')), ⟨by have := HJ13.out; have := HJ28.out; have := HK3.out; have := HJ44.out; first | omega | exact Nat.le_refl _⟩, ⟨xK BK217⟩, ⟨xK BK235⟩, ⟨xK BK237⟩, ⟨xK BK238⟩, ⟨xW HB⟩⟩
                     ·rw [if_neg c51] at H
                      exact absurd H (by simp)
                    ·rw [if_neg c50] at H
                     exact absurd H (by simp)
                   case rest =>
                    refine box_ ?g12;letI i:type_of% ?g12:=⟨by
                    clear HC48; (try clear q1); (try clear p2); (try clear q2); (try clear hx2); (try clear q17); (try clear p24); (try clear q24); (try clear hx24); (try clear hx240_0); (try clear p2); (try clear p24); (try clear p240); (try clear q1); (try clear q17); (try clear q2); (try clear q24); (try clear q240)
                    obtain ⟨kq, x18_47, x19_47, x20_47, rfl, rfl, rfl, HA, HJ47, BK217, BK235, BK237, BK238, HB⟩ := hcut
                    cases kq with
                    | zero => exact absurd HA.out (by simp [gamehalllaw3_ClockRuns.j4])
                    | succ kj47 =>
                     have H := HA.out; clear HA
                     simp only [gamehalllaw3_ClockRuns.j4] at H
                     replace H := Option.bind_eq_some_iff.mp H
                     obtain ⟨⟨t247, t248, t249, t250, t251, t252, t253, t254, t255, t256, t257⟩, A610, H⟩ := H
                     try dsimp only at H
                     have A61 := Aside0.mk A610; clear A610; replace H := Option.bind_eq_some_iff.mp H
                     obtain ⟨⟨t259, t260⟩, A620, H⟩ := H
                     try dsimp only at H
                     have A62 := Aside0.mk A620; clear A620
                     by_cases c63 : (wrap64 (x12_3 + (rd y219 x74_3))) > 100000000
                     ·rw [if_pos c63] at H
                      have c63b0 : decide (100000000 < (wrap64 (x12_3 + (rd y219 x74_3)))) = true := decide_eq_true c63
                      clear c63
                      by_cases c64 : t257 = 11
                      ·rw [if_pos c64] at H
                       have c64b0 : (t257 == 11) = true := beq_iff_eq.mpr c64
                       have c64b1 : (t257 != 11) = false := bne_eq_false_iff_eq.mpr c64
                       clear c64
                       by_cases c65 : t260 = 11
                       ·rw [if_pos c65] at H
                        have c65b0 : (t260 == 11) = true := beq_iff_eq.mpr c65
                        have c65b1 : (t260 != 11) = false := bne_eq_false_iff_eq.mpr c65
                        clear c65
                        obtain rfl := Option.some.inj H
                        have hcz69_0 := blkc3 BK217.out; have hcz72_0 := blkc10 BK235.out
                        go_wp2_with (first | ((with_reducible refine gate_callee (f := 10) rfl ?_); refine goesL_ (some 102) rfl rfl Try.func10 kr_ rfl #[.agg #[.slice A0_0 l0_0.length c0_0, .int .i64 a0_1, .int .i64 a0_2], .agg #[.int .i64 z236a3, .int .i64 z236b3, .int .i64 z236c3, .int .i64 z236d3, .int .i64 z236e3, .int .i64 z236f3, .int .i64 z236g3, .int .i64 z236h3, .bool z236i3, .int .i64 z236j3], .int .i64 (wrap64 (x12_3 + (rd y219 x74_3)))] rfl (by (try simp only [List.map_toArray, List.map_cons, List.map_nil]); first | done | rfl | (simp only [List.length_drop, List.length_take]; rfl)) ?_; (with_reducible refine (clock_Press.calls kj47 _ _ l0_0 a0_1 a0_2 z236a3 z236b3 z236c3 z236d3 z236e3 z236f3 z236g3 z236h3 z236i3 z236j3 (wrap64 (x12_3 + (rd y219 x74_3))) t247 t248 t249 t250 t251 t252 t253 t254 t255 t256 t257 _ ?side1 ?side2 A61.out).mono ?_); (case side1 => exact xC (Kd.C_below HR0_0.out HB.out)); (case side2 => exact HC0_0.out); rintro e w73 ⟨rfl, hb⟩; refine ⟨_, rfl, ?_⟩; replace BK217 := Aside0.mk (xB BK217 hb); replace BK235 := Aside0.mk (xB BK235 hb); replace BK237 := Aside0.mk (xB BK237 hb); replace BK238 := Aside0.mk (xB BK238 hb); replace HB := Aside0.mk (xS HB hb); (try clear hb); (try clear hb2); (try clear hk); (try clear hi)) | ((with_reducible refine gate_dst (N := 21) rfl ?_); refine box_event ?hg (N := 21) ?hd (cs := #[.int .i64 0, .int .i64 0, .int .i64 0, .int .i64 0, .int .i64 0, .int .i64 0, .int .i64 0, .int .i64 0, .bool false, .int .i64 0]) (t := 31) ?hr ?_; (case hd => rfl); (case hg => rfl); (case hr => first | (go_simp; done) | (go_simp; rfl)); intro gb258 hg w74 hbox hb; have BK258 := Aside0.mk (hbox); have GW258 := Aside0.mk (xZ HB hg); have GE258 := Aside0.mk (xZ HB hg); have NB217_258 := Aside0.mk (xN BK217 hg); have NB258_217 := Aside0.mk (xM BK217 hg); have NB235_258 := Aside0.mk (xN BK235 hg); have NB258_235 := Aside0.mk (xM BK235 hg); have NB237_258 := Aside0.mk (xN BK237 hg); have NB258_237 := Aside0.mk (xM BK237 hg); have NB238_258 := Aside0.mk (xN BK238 hg); have NB258_238 := Aside0.mk (xM BK238 hg); replace BK217 := Aside0.mk (xB BK217 hb); replace BK235 := Aside0.mk (xB BK235 hb); replace BK237 := Aside0.mk (xB BK237 hb); replace BK238 := Aside0.mk (xB BK238 hb); replace HB := Aside0.mk (xS HB hb); clear hb hbox hg; have hnb75 := xne7 NB258_217; have hnc75 := xne7 NB217_258; have hnb76 := xne7 NB258_235; have hnc76 := xne7 NB235_258; have hnb77 := xne7 NB258_237; have hnc77 := xne7 NB237_258; have hnb78 := xne7 NB258_238; have hnc78 := xne7 NB238_258; have hcz79_0 := blkc10 BK258.out; have hcz80_0 := blkc3 BK217.out; have hcz81_0 := blkc10 BK235.out) | ((with_reducible refine gate_callee (f := 11) rfl ?_); refine goesL_ (some 112) rfl rfl Try.func11 kr_ rfl #[.agg #[.slice A0_0 l0_0.length c0_0, .int .i64 a0_1, .int .i64 a0_2], .agg #[.int .i64 z236a3, .int .i64 z236b3, .int .i64 z236c3, .int .i64 z236d3, .int .i64 z236e3, .int .i64 z236f3, .int .i64 z236g3, .int .i64 z236h3, .bool z236i3, .int .i64 z236j3], .int .i64 (Int.tmod x74_3 2), .int .i64 (wrap64 (x12_3 + (rd y219 x74_3)))] rfl (by (try simp only [List.map_toArray, List.map_cons, List.map_nil]); first | done | rfl | (simp only [List.length_drop, List.length_take]; rfl)) ?_; (with_reducible refine (clock_Left.calls kj47 _ _ l0_0 a0_1 a0_2 z236a3 z236b3 z236c3 z236d3 z236e3 z236f3 z236g3 z236h3 z236i3 z236j3 (Int.tmod x74_3 2) (wrap64 (x12_3 + (rd y219 x74_3))) t259 t260 _ ?side1 ?side2 A62.out).mono ?_); (case side1 => exact Kd.C_below HR0_0.out (xW HB)); (case side2 => exact HC0_0.out); rintro e w82 ⟨rfl, hb⟩; refine ⟨_, rfl, ?_⟩; replace BK217 := Aside0.mk (xB BK217 hb); replace BK235 := Aside0.mk (xB BK235 hb); replace BK237 := Aside0.mk (xB BK237 hb); replace BK238 := Aside0.mk (xB BK238 hb); replace BK258 := Aside0.mk (xP (l' := [.int .i64 t247, .int .i64 t248, .int .i64 t249, .int .i64 t250, .int .i64 t251, .int .i64 t252, .int .i64 t253, .int .i64 t254, .bool t255, .int .i64 t256]) BK258 hb); replace HB := Aside0.mk (xS HB hb); (try clear hb); (try clear hb2); (try clear hk); (try clear hi)))
                        go_ret
                        exact ⟨by first | rfl | (simp [errW_none, errW_some] <;> rfl) | (simp only [← hji7]; first | rfl | (simp [errW_none, errW_some] <;> rfl)) | (simp [*, errW_none, errW_some] <;> rfl), xW HB⟩
                       ·rw [if_neg c65] at H
                        have c65b0 : (t260 == 11) = false := beq_eq_false_iff_ne.mpr c65
                        have c65b1 : (t260 != 11) = true := bne_iff_ne.mpr c65; clear c65
                        obtain rfl := Option.some.inj H
                        have hcz86_0 := blkc3 BK217.out; have hcz89_0 := blkc10 BK235.out
                        go_wp2_with (first | ((with_reducible refine gate_callee (f := 10) rfl ?_); refine goesL_ (some 102) rfl rfl Try.func10 kr_ rfl #[.agg #[.slice A0_0 l0_0.length c0_0, .int .i64 a0_1, .int .i64 a0_2], .agg #[.int .i64 z236a3, .int .i64 z236b3, .int .i64 z236c3, .int .i64 z236d3, .int .i64 z236e3, .int .i64 z236f3, .int .i64 z236g3, .int .i64 z236h3, .bool z236i3, .int .i64 z236j3], .int .i64 (wrap64 (x12_3 + (rd y219 x74_3)))] rfl (by (try simp only [List.map_toArray, List.map_cons, List.map_nil]); first | done | rfl | (simp only [List.length_drop, List.length_take]; rfl)) ?_; (with_reducible refine (clock_Press.calls kj47 _ _ l0_0 a0_1 a0_2 z236a3 z236b3 z236c3 z236d3 z236e3 z236f3 z236g3 z236h3 z236i3 z236j3 (wrap64 (x12_3 + (rd y219 x74_3))) t247 t248 t249 t250 t251 t252 t253 t254 t255 t256 t257 _ ?side1 ?side2 A61.out).mono ?_); (case side1 => exact xC (Kd.C_below HR0_0.out HB.out)); (case side2 => exact HC0_0.out); rintro e w90 ⟨rfl, hb⟩; refine ⟨_, rfl, ?_⟩; replace BK217 := Aside0.mk (xB BK217 hb); replace BK235 := Aside0.mk (xB BK235 hb); replace BK237 := Aside0.mk (xB BK237 hb); replace BK238 := Aside0.mk (xB BK238 hb); replace HB := Aside0.mk (xS HB hb); (try clear hb); (try clear hb2); (try clear hk); (try clear hi)) | ((with_reducible refine gate_dst (N := 21) rfl ?_); refine box_event ?hg (N := 21) ?hd (cs := #[.int .i64 0, .int .i64 0, .int .i64 0, .int .i64 0, .int .i64 0, .int .i64 0, .int .i64 0, .int .i64 0, .bool false, .int .i64 0]) (t := 31) ?hr ?_; (case hd => rfl); (case hg => rfl); (case hr => first | (go_simp; done) | (go_simp; rfl)); intro gb258 hg w91 hbox hb; have BK258 := Aside0.mk (hbox); have GW258 := Aside0.mk (xZ HB hg); have GE258 := Aside0.mk (xZ HB hg); have NB217_258 := Aside0.mk (xN BK217 hg); have NB258_217 := Aside0.mk (xM BK217 hg); have NB235_258 := Aside0.mk (xN BK235 hg); have NB258_235 := Aside0.mk (xM BK235 hg); have NB237_258 := Aside0.mk (xN BK237 hg); have NB258_237 := Aside0.mk (xM BK237 hg); have NB238_258 := Aside0.mk (xN BK238 hg); have NB258_238 := Aside0.mk (xM BK238 hg); replace BK217 := Aside0.mk (xB BK217 hb); replace BK235 := Aside0.mk (xB BK235 hb); replace BK237 := Aside0.mk (xB BK237 hb); replace BK238 := Aside0.mk (xB BK238 hb); replace HB := Aside0.mk (xS HB hb); clear hb hbox hg; have hnb92 := xne7 NB258_217; have hnc92 := xne7 NB217_258; have hnb93 := xne7 NB258_235; have hnc93 := xne7 NB235_258; have hnb94 := xne7 NB258_237; have hnc94 := xne7 NB237_258; have hnb95 := xne7 NB258_238; have hnc95 := xne7 NB238_258; have hcz96_0 := blkc10 BK258.out; have hcz97_0 := blkc3 BK217.out; have hcz98_0 := blkc10 BK235.out) | ((with_reducible refine gate_callee (f := 11) rfl ?_); refine goesL_ (some 112) rfl rfl Try.func11 kr_ rfl #[.agg #[.slice A0_0 l0_0.length c0_0, .int .i64 a0_1, .int .i64 a0_2], .agg #[.int .i64 z236a3, .int .i64 z236b3, .int .i64 z236c3, .int .i64 z236d3, .int .i64 z236e3, .int .i64 z236f3, .int .i64 z236g3, .int .i64 z236h3, .bool z236i3, .int .i64 z236j3], .int .i64 (Int.tmod x74_3 2), .int .i64 (wrap64 (x12_3 + (rd y219 x74_3)))] rfl (by (try simp only [List.map_toArray, List.map_cons, List.map_nil]); first | done | rfl | (simp only [List.length_drop, List.length_take]; rfl)) ?_; (with_reducible refine (clock_Left.calls kj47 _ _ l0_0 a0_1 a0_2 z236a3 z236b3 z236c3 z236d3 z236e3 z236f3 z236g3 z236h3 z236i3 z236j3 (Int.tmod x74_3 2) (wrap64 (x12_3 + (rd y219 x74_3))) t259 t260 _ ?side1 ?side2 A62.out).mono ?_); (case side1 => exact Kd.C_below HR0_0.out (xW HB)); (case side2 => exact HC0_0.out); rintro e w99 ⟨rfl, hb⟩; refine ⟨_, rfl, ?_⟩; replace BK217 := Aside0.mk (xB BK217 hb); replace BK235 := Aside0.mk (xB BK235 hb); replace BK237 := Aside0.mk (xB BK237 hb); replace BK238 := Aside0.mk (xB BK238 hb); replace BK258 := Aside0.mk (xP (l' := [.int .i64 t247, .int .i64 t248, .int .i64 t249, .int .i64 t250, .int .i64 t251, .int .i64 t252, .int .i64 t253, .int .i64 t254, .bool t255, .int .i64 t256]) BK258 hb); replace HB := Aside0.mk (xS HB hb); (try clear hb); (try clear hb2); (try clear hk); (try clear hi)))
                        go_ret
                        exact ⟨by first | rfl | (simp [errW_none, errW_some] <;> rfl) | (simp only [← hji7]; first | rfl | (simp [errW_none, errW_some] <;> rfl)) | (simp [*, errW_none, errW_some] <;> rfl), xW HB⟩
                      ·rw [if_neg c64] at H
                       have c64b0 : (t257 == 11) = false := beq_eq_false_iff_ne.mpr c64
                       have c64b1 : (t257 != 11) = true := bne_iff_ne.mpr c64; clear c64
                       obtain rfl := Option.some.inj H
                       have hcz103_0 := blkc3 BK217.out; have hcz106_0 := blkc10 BK235.out
                       go_wp2_with (first | ((with_reducible refine gate_callee (f := 10) rfl ?_); refine goesL_ (some 102) rfl rfl Try.func10 kr_ rfl #[.agg #[.slice A0_0 l0_0.length c0_0, .int .i64 a0_1, .int .i64 a0_2], .agg #[.int .i64 z236a3, .int .i64 z236b3, .int .i64 z236c3, .int .i64 z236d3, .int .i64 z236e3, .int .i64 z236f3, .int .i64 z236g3, .int .i64 z236h3, .bool z236i3, .int .i64 z236j3], .int .i64 (wrap64 (x12_3 + (rd y219 x74_3)))] rfl (by (try simp only [List.map_toArray, List.map_cons, List.map_nil]); first | done | rfl | (simp only [List.length_drop, List.length_take]; rfl)) ?_; (with_reducible refine (clock_Press.calls kj47 _ _ l0_0 a0_1 a0_2 z236a3 z236b3 z236c3 z236d3 z236e3 z236f3 z236g3 z236h3 z236i3 z236j3 (wrap64 (x12_3 + (rd y219 x74_3))) t247 t248 t249 t250 t251 t252 t253 t254 t255 t256 t257 _ ?side1 ?side2 A61.out).mono ?_); (case side1 => exact xC (Kd.C_below HR0_0.out HB.out)); (case side2 => exact HC0_0.out); rintro e w107 ⟨rfl, hb⟩; refine ⟨_, rfl, ?_⟩; replace BK217 := Aside0.mk (xB BK217 hb); replace BK235 := Aside0.mk (xB BK235 hb); replace BK237 := Aside0.mk (xB BK237 hb); replace BK238 := Aside0.mk (xB BK238 hb); replace HB := Aside0.mk (xS HB hb); (try clear hb); (try clear hb2); (try clear hk); (try clear hi)) | ((with_reducible refine gate_dst (N := 21) rfl ?_); refine box_event ?hg (N := 21) ?hd (cs := #[.int .i64 0, .int .i64 0, .int .i64 0, .int .i64 0, .int .i64 0, .int .i64 0, .int .i64 0, .int .i64 0, .bool false, .int .i64 0]) (t := 31) ?hr ?_; (case hd => rfl); (case hg => rfl); (case hr => first | (go_simp; done) | (go_simp; rfl)); intro gb258 hg w108 hbox hb; have BK258 := Aside0.mk (hbox); have GW258 := Aside0.mk (xZ HB hg); have GE258 := Aside0.mk (xZ HB hg); have NB217_258 := Aside0.mk (xN BK217 hg); have NB258_217 := Aside0.mk (xM BK217 hg); have NB235_258 := Aside0.mk (xN BK235 hg); have NB258_235 := Aside0.mk (xM BK235 hg); have NB237_258 := Aside0.mk (xN BK237 hg); have NB258_237 := Aside0.mk (xM BK237 hg); have NB238_258 := Aside0.mk (xN BK238 hg); have NB258_238 := Aside0.mk (xM BK238 hg); replace BK217 := Aside0.mk (xB BK217 hb); replace BK235 := Aside0.mk (xB BK235 hb); replace BK237 := Aside0.mk (xB BK237 hb); replace BK238 := Aside0.mk (xB BK238 hb); replace HB := Aside0.mk (xS HB hb); clear hb hbox hg; have hnb109 := xne7 NB258_217; have hnc109 := xne7 NB217_258; have hnb110 := xne7 NB258_235; have hnc110 := xne7 NB235_258; have hnb111 := xne7 NB258_237; have hnc111 := xne7 NB237_258; have hnb112 := xne7 NB258_238; have hnc112 := xne7 NB238_258; have hcz113_0 := blkc10 BK258.out; have hcz114_0 := blkc3 BK217.out; have hcz115_0 := blkc10 BK235.out) | ((with_reducible refine gate_callee (f := 11) rfl ?_); refine goesL_ (some 112) rfl rfl Try.func11 kr_ rfl #[.agg #[.slice A0_0 l0_0.length c0_0, .int .i64 a0_1, .int .i64 a0_2], .agg #[.int .i64 z236a3, .int .i64 z236b3, .int .i64 z236c3, .int .i64 z236d3, .int .i64 z236e3, .int .i64 z236f3, .int .i64 z236g3, .int .i64 z236h3, .bool z236i3, .int .i64 z236j3], .int .i64 (Int.tmod x74_3 2), .int .i64 (wrap64 (x12_3 + (rd y219 x74_3)))] rfl (by (try simp only [List.map_toArray, List.map_cons, List.map_nil]); first | done | rfl | (simp only [List.length_drop, List.length_take]; rfl)) ?_; (with_reducible refine (clock_Left.calls kj47 _ _ l0_0 a0_1 a0_2 z236a3 z236b3 z236c3 z236d3 z236e3 z236f3 z236g3 z236h3 z236i3 z236j3 (Int.tmod x74_3 2) (wrap64 (x12_3 + (rd y219 x74_3))) t259 t260 _ ?side1 ?side2 A62.out).mono ?_); (case side1 => exact Kd.C_below HR0_0.out (xW HB)); (case side2 => exact HC0_0.out); rintro e w116 ⟨rfl, hb⟩; refine ⟨_, rfl, ?_⟩; replace BK217 := Aside0.mk (xB BK217 hb); replace BK235 := Aside0.mk (xB BK235 hb); replace BK237 := Aside0.mk (xB BK237 hb); replace BK238 := Aside0.mk (xB BK238 hb); replace BK258 := Aside0.mk (xP (l' := [.int .i64 t247, .int .i64 t248, .int .i64 t249, .int .i64 t250, .int .i64 t251, .int .i64 t252, .int .i64 t253, .int .i64 t254, .bool t255, .int .i64 t256]) BK258 hb); replace HB := Aside0.mk (xS HB hb); (try clear hb); (try clear hb2); (try clear hk); (try clear hi)))
                       go_ret
                       exact ⟨by first | rfl | (simp [errW_none, errW_some] <;> rfl) | (simp only [← hji7]; first | rfl | (simp [errW_none, errW_some] <;> rfl)) | (simp [*, errW_none, errW_some] <;> rfl), xW HB⟩
                     ·refine box_ ?g13;letI i:type_of% ?g13:=⟨by
                      rw [if_neg c63] at H
                      have c63b0 : decide (100000000 < (wrap64 (x12_3 + (rd y219 x74_3)))) = false := decide_eq_false c63
                      clear c63; replace H := Option.bind_eq_some_iff.mp H
                      obtain ⟨t261, A1170, H⟩ := H
                      try dsimp only at H
                      have A117 := Aside0.mk A1170; clear A1170; have HC118 := Aside0.mk H; clear H; have hcz122_0 := blkc3 BK217.out; have hcz125_0 := blkc10 BK235.out
                      go_upto_region 27 with (first | ((with_reducible refine gate_callee (f := 10) rfl ?_); refine goesL_ (some 102) rfl rfl Try.func10 kr_ rfl #[.agg #[.slice A0_0 l0_0.length c0_0, .int .i64 a0_1, .int .i64 a0_2], .agg #[.int .i64 z236a3, .int .i64 z236b3, .int .i64 z236c3, .int .i64 z236d3, .int .i64 z236e3, .int .i64 z236f3, .int .i64 z236g3, .int .i64 z236h3, .bool z236i3, .int .i64 z236j3], .int .i64 (wrap64 (x12_3 + (rd y219 x74_3)))] rfl (by (try simp only [List.map_toArray, List.map_cons, List.map_nil]); first | done | rfl | (simp only [List.length_drop, List.length_take]; rfl)) ?_; (with_reducible refine (clock_Press.calls kj47 _ _ l0_0 a0_1 a0_2 z236a3 z236b3 z236c3 z236d3 z236e3 z236f3 z236g3 z236h3 z236i3 z236j3 (wrap64 (x12_3 + (rd y219 x74_3))) t247 t248 t249 t250 t251 t252 t253 t254 t255 t256 t257 _ ?side1 ?side2 A61.out).mono ?_); (case side1 => exact xC (Kd.C_below HR0_0.out HB.out)); (case side2 => exact HC0_0.out); rintro e w126 ⟨rfl, hb⟩; refine ⟨_, rfl, ?_⟩; replace BK217 := Aside0.mk (xB BK217 hb); replace BK235 := Aside0.mk (xB BK235 hb); replace BK237 := Aside0.mk (xB BK237 hb); replace BK238 := Aside0.mk (xB BK238 hb); replace HB := Aside0.mk (xS HB hb); (try clear hb); (try clear hb2); (try clear hk); (try clear hi)) | ((with_reducible refine gate_dst (N := 21) rfl ?_); refine box_event ?hg (N := 21) ?hd (cs := #[.int .i64 0, .int .i64 0, .int .i64 0, .int .i64 0, .int .i64 0, .int .i64 0, .int .i64 0, .int .i64 0, .bool false, .int .i64 0]) (t := 31) ?hr ?_; (case hd => rfl); (case hg => rfl); (case hr => first | (go_simp; done) | (go_simp; rfl)); intro gb258 hg w127 hbox hb; have BK258 := Aside0.mk (hbox); have GW258 := Aside0.mk (xZ HB hg); have GE258 := Aside0.mk (xZ HB hg); have NB217_258 := Aside0.mk (xN BK217 hg); have NB258_217 := Aside0.mk (xM BK217 hg); have NB235_258 := Aside0.mk (xN BK235 hg); have NB258_235 := Aside0.mk (xM BK235 hg); have NB237_258 := Aside0.mk (xN BK237 hg); have NB258_237 := Aside0.mk (xM BK237 hg); have NB238_258 := Aside0.mk (xN BK238 hg); have NB258_238 := Aside0.mk (xM BK238 hg); replace BK217 := Aside0.mk (xB BK217 hb); replace BK235 := Aside0.mk (xB BK235 hb); replace BK237 := Aside0.mk (xB BK237 hb); replace BK238 := Aside0.mk (xB BK238 hb); replace HB := Aside0.mk (xS HB hb); clear hb hbox hg; have hnb128 := xne7 NB258_217; have hnc128 := xne7 NB217_258; have hnb129 := xne7 NB258_235; have hnc129 := xne7 NB235_258; have hnb130 := xne7 NB258_237; have hnc130 := xne7 NB237_258; have hnb131 := xne7 NB258_238; have hnc131 := xne7 NB238_258; have hcz132_0 := blkc10 BK258.out; have hcz133_0 := blkc3 BK217.out; have hcz134_0 := blkc10 BK235.out) | ((with_reducible refine gate_callee (f := 11) rfl ?_); refine goesL_ (some 112) rfl rfl Try.func11 kr_ rfl #[.agg #[.slice A0_0 l0_0.length c0_0, .int .i64 a0_1, .int .i64 a0_2], .agg #[.int .i64 z236a3, .int .i64 z236b3, .int .i64 z236c3, .int .i64 z236d3, .int .i64 z236e3, .int .i64 z236f3, .int .i64 z236g3, .int .i64 z236h3, .bool z236i3, .int .i64 z236j3], .int .i64 (Int.tmod x74_3 2), .int .i64 (wrap64 (x12_3 + (rd y219 x74_3)))] rfl (by (try simp only [List.map_toArray, List.map_cons, List.map_nil]); first | done | rfl | (simp only [List.length_drop, List.length_take]; rfl)) ?_; (with_reducible refine (clock_Left.calls kj47 _ _ l0_0 a0_1 a0_2 z236a3 z236b3 z236c3 z236d3 z236e3 z236f3 z236g3 z236h3 z236i3 z236j3 (Int.tmod x74_3 2) (wrap64 (x12_3 + (rd y219 x74_3))) t259 t260 _ ?side1 ?side2 A62.out).mono ?_); (case side1 => exact Kd.C_below HR0_0.out (xW HB)); (case side2 => exact HC0_0.out); rintro e w135 ⟨rfl, hb⟩; refine ⟨_, rfl, ?_⟩; replace BK217 := Aside0.mk (xB BK217 hb); replace BK235 := Aside0.mk (xB BK235 hb); replace BK237 := Aside0.mk (xB BK237 hb); replace BK238 := Aside0.mk (xB BK238 hb); replace BK258 := Aside0.mk (xP (l' := [.int .i64 t247, .int .i64 t248, .int .i64 t249, .int .i64 t250, .int .i64 t251, .int .i64 t252, .int .i64 t253, .int .i64 t254, .bool t255, .int .i64 t256]) BK258 hb); replace HB := Aside0.mk (xS HB hb); (try clear hb); (try clear hb2); (try clear hk); (try clear hi); have hcz136_0 := blkc3 BK217.out) | ((with_reducible refine gate_callee (f := 12) rfl ?_); refine goesL_ (some 131) rfl rfl Try.func12 kr_ rfl #[.agg #[.slice A0_0 l0_0.length c0_0, .int .i64 a0_1, .int .i64 a0_2], .int .i64 (rd y219 x74_3)] rfl (by (try simp only [List.map_toArray, List.map_cons, List.map_nil]); first | done | rfl | (simp only [List.length_drop, List.length_take]; rfl)) ?_; (with_reducible refine (gamehallref3_Spent.calls _ _ l0_0 a0_1 a0_2 (rd y219 x74_3) t261 _ ?side1 ?side2 A117.out).mono ?_); (case side1 => exact xC (Kd.C_below HR0_0.out HB.out)); (case side2 => exact HC0_0.out); rintro e w137 ⟨rfl, hb⟩; refine ⟨_, rfl, ?_⟩; replace BK217 := Aside0.mk (xB BK217 hb); replace BK235 := Aside0.mk (xB BK235 hb); replace BK237 := Aside0.mk (xB BK237 hb); replace BK238 := Aside0.mk (xB BK238 hb); replace BK258 := Aside0.mk (xB BK258 hb); replace HB := Aside0.mk (xS HB hb); (try clear hb); (try clear hb2); (try clear hk); (try clear hi)))
                      (try have hq238_258 := xne7 NB238_258); (try have hq258_238 := xne7 NB258_238); (try have hq217_258 := xne7 NB217_258); (try have hq258_217 := xne7 NB258_217); (try have hq235_258 := xne7 NB235_258); (try have hq258_235 := xne7 NB258_235); (try have hq258_237 := xne7 NB258_237); (try have hq237_258 := xne7 NB237_258)
                      (try simp only [Act.put, List.setIfInBounds_toArray, List.set_cons_zero, List.set_cons_succ])
                      go_cut [138] (fun vs138 wc => ∃ (kq : Nat) (x138_117 : Bool), vs138 = .bool x138_117 ∧ Aside0 (gamehalllaw3_ClockRuns.j5 kq a3 x12_3 (rd y219 x74_3) (Int.tmod x74_3 2) x18_47 x19_47 x20_47 t257 t259 t260 t261 y219 (y219.length : Int) x74_3 x138_117 l0_0 a0_1 a0_2 z236a3 z236b3 z236c3 z236d3 z236e3 z236f3 z236g3 z236h3 z236i3 z236j3 z238a3 z238b3 z239a3 z239b3 t247 t248 t249 t250 t251 t252 t253 t254 t255 t256 = some r) ∧ Aside0 (kq ≤ kj47) ∧ Aside0 (wc.heap[gb217]? = some (.cells #[(.slice A0_0 l0_0.length c0_0), .int .i64 a0_1, .int .i64 a0_2] 24 (0, 0))) ∧ Aside0 (wc.heap[gb235]? = some (.cells #[.int .i64 z236a3, .int .i64 z236b3, .int .i64 z236c3, .int .i64 z236d3, .int .i64 z236e3, .int .i64 z236f3, .int .i64 z236g3, .int .i64 z236h3, .bool z236i3, .int .i64 z236j3] 31 (0, 0))) ∧ Aside0 (wc.heap[gb237]? = some (.cells #[.int .i64 z238a3, .int .i64 z238b3] 29 (0, 0))) ∧ Aside0 (wc.heap[gb238]? = some (.cells #[.int .i64 z239a3, .int .i64 z239b3] 29 (0, 0))) ∧ Aside0 (wc.heap[gb258]? = some (.cells #[.int .i64 t247, .int .i64 t248, .int .i64 t249, .int .i64 t250, .int .i64 t251, .int .i64 t252, .int .i64 t253, .int .i64 t254, .bool t255, .int .i64 t256] 31 (0, 0))) ∧ Aside0 (Below w.heap.size w wc))
                      case first =>
                       have H := HC118.out; clear HC118
                       obtain ⟨ji138, hji138⟩ : ∃ j_ : Int, (Int.tmod x74_3 2) = j_ := ⟨_, rfl⟩
                       (first | rw [hji138] at H | simp only [hji138] at H)
                       by_cases c139 : 0 ≤ (ji138)
                       ·rw [if_pos c139] at H
                        have c139b0 : decide (0 ≤ (ji138)) = true := decide_eq_true c139
                        clear c139
                        (first | rw [c139b0] | (simp only [i64_w, i32_w]; rw [c139b0]) | skip)
                        by_cases c140 : (ji138) < 2
                        ·rw [if_pos c140] at H
                         have c140b0 : decide ((ji138) < 2) = true := decide_eq_true c140
                         clear c140
                         by_cases c141 : (ji138) = 0
                         ·rw [if_pos c141] at H
                          have c141b0 : ((ji138) == 0) = true := beq_iff_eq.mpr c141
                          have c141b1 : ((ji138) != 0) = false := bne_eq_false_iff_eq.mpr c141
                          clear c141; obtain ⟨c142b, c142g, c142c, c142d⟩ := xar ((ji138) : Int) 0 0 2
                          have H' := Aside0.mk H
                          clear H; have hcz147_0 := blkc2 BK238.out
                          go_wp2
                          go_meet
                          case rel => exact ⟨_, (decide ((wrap64 (z239a3 + t261)) > x18_47)), (xrf), (by first | exact H' | (try rw [hji138]; exact H')), ⟨by have := HJ13.out; have := HJ28.out; have := HK3.out; have := HJ44.out; have := HJ47.out; first | omega | exact Nat.le_refl _⟩, ⟨xK BK217⟩, ⟨xK BK235⟩, ⟨xK BK237⟩, ⟨xK BK238⟩, ⟨xK BK258⟩, ⟨xW HB⟩⟩
                         ·rw [if_neg c141] at H
                          have c141b0 : ((ji138) == 0) = false := beq_eq_false_iff_ne.mpr c141
                          have c141b1 : ((ji138) != 0) = true := bne_iff_ne.mpr c141
                          obtain ⟨c148b, c148g, c148c, c148d⟩ := xar ((ji138) : Int) 1 1 2
                          have H' := Aside0.mk H
                          clear H; have hcz153_0 := blkc2 BK238.out
                          go_wp2
                          go_meet
                          case rel => exact ⟨_, (decide ((wrap64 (z239b3 + t261)) > x18_47)), (xrf), (by first | exact H' | (try rw [hji138]; exact H')), ⟨by have := HJ13.out; have := HJ28.out; have := HK3.out; have := HJ44.out; have := HJ47.out; first | omega | exact Nat.le_refl _⟩, ⟨xK BK217⟩, ⟨xK BK235⟩, ⟨xK BK237⟩, ⟨xK BK238⟩, ⟨xK BK258⟩, ⟨xW HB⟩⟩
                        ·rw [if_neg c140] at H
                         exact absurd H (by simp)
                       ·rw [if_neg c139] at H
                        exact absurd H (by simp)
                      case rest =>
                       refine box_ ?g14;letI i:type_of% ?g14:=⟨by
                       clear HC118; (try clear q1); (try clear p2); (try clear q2); (try clear hx2); (try clear p6); (try clear q17); (try clear p24); (try clear q24); (try clear hx24); (try clear p64); (try clear hx240_0); (try clear p2); (try clear p24); (try clear p240); (try clear q1); (try clear q17); (try clear q2); (try clear q24); (try clear q240)
                       obtain ⟨kq, x138_117, rfl, HA, HJ117, BK217, BK235, BK237, BK238, BK258, HB⟩ := hcut
                       cases kq with
                       | zero => exact absurd HA.out (by simp [gamehalllaw3_ClockRuns.j5])
                       | succ kj117 =>
                        have H := HA.out; clear HA
                        simp only [gamehalllaw3_ClockRuns.j5] at H
                        by_cases c154 : x138_117 = true
                        ·subst c154
                         rw [if_pos rfl] at H
                         replace H := Option.bind_eq_some_iff.mp H
                         obtain ⟨⟨t262, t263, t264, t265, t266, t267, t268, t269, t270, t271, t272⟩, A1550, H⟩ := H
                         try dsimp only at H
                         have A155 := Aside0.mk A1550; clear A1550
                         by_cases c156 : t257 = 14
                         ·refine box_ ?g15;letI i:type_of% ?g15:=⟨by
                          rw [if_pos c156] at H
                          have c156b0 : (t257 == 14) = true := beq_iff_eq.mpr c156
                          have c156b1 : (t257 != 14) = false := bne_eq_false_iff_eq.mpr c156
                          clear c156
                          by_cases c157 : ((t247 == 0 && (t248 == 0)) && ((t249 == 0 && (t250 == 0)) && ((t251 == 0 && (t252 == 0)) && (t253 == 0 && (t254 == 0 && (!t255 && (t256 == 0))))))) = true
                          ·rw [if_pos c157] at H
                           have c157b0 : ((t247 == 0 && (t248 == 0)) && ((t249 == 0 && (t250 == 0)) && ((t251 == 0 && (t252 == 0)) && (t253 == 0 && (t254 == 0 && (!t255 && (t256 == 0))))))) = true := c157
                           clear c157
                           by_cases c158 : t260 = 0
                           ·rw [if_pos c158] at H
                            have c158b0 : (t260 == 0) = true := beq_iff_eq.mpr c158
                            have c158b1 : (t260 != 0) = false := bne_eq_false_iff_eq.mpr c158
                            clear c158
                            by_cases c159 : t259 = 0
                            ·rw [if_pos c159] at H
                             have c159b0 : (t259 == 0) = true := beq_iff_eq.mpr c159
                             have c159b1 : (t259 != 0) = false := bne_eq_false_iff_eq.mpr c159
                             clear c159
                             by_cases c160 : t272 = 0
                             ·rw [if_pos c160] at H
                              have c160b0 : (t272 == 0) = true := beq_iff_eq.mpr c160
                              have c160b1 : (t272 != 0) = false := bne_eq_false_iff_eq.mpr c160
                              clear c160
                              by_cases c161 : t271 = (Int.tmod x74_3 2)
                              ·rw [if_pos c161] at H
                               have c161b0 : (t271 == (Int.tmod x74_3 2)) = true := beq_iff_eq.mpr c161
                               have c161b1 : (t271 != (Int.tmod x74_3 2)) = false := bne_eq_false_iff_eq.mpr c161
                               clear c161
                               obtain ⟨ji162, hji162⟩ : ∃ j_ : Int, (Int.tmod x74_3 2) = j_ := ⟨_, rfl⟩
                               (first | rw [hji162] at H | simp only [hji162] at H)
                               (try rw [hji162] at c161b0)
                               (try rw [hji162] at c161b1)
                               (try rw [hji162] at A155)
                               by_cases c163 : 0 ≤ (ji162)
                               ·rw [if_pos c163] at H
                                have c163b0 : decide (0 ≤ (ji162)) = true := decide_eq_true c163
                                clear c163
                                by_cases c164 : (ji162) < 2
                                ·rw [if_pos c164] at H
                                 have c164b0 : decide ((ji162) < 2) = true := decide_eq_true c164
                                 clear c164
                                 by_cases c165 : (ji162) = 0
                                 ·rw [if_pos c165] at H
                                  have c165b0 : ((ji162) == 0) = true := beq_iff_eq.mpr c165
                                  have c165b1 : ((ji162) != 0) = false := bne_eq_false_iff_eq.mpr c165
                                  clear c165; obtain ⟨c166b, c166g, c166c, c166d⟩ := xar ((ji162) : Int) 0 0 2
                                  obtain rfl := Option.some.inj H
                                  have hcz171_0 := blkc3 BK217.out; have hcz175_0 := blkc10 BK235.out
                                  go_wp2_with (first | ((with_reducible refine gate_callee (f := 13) rfl ?_); refine goesL_ (some 145) rfl rfl Try.func13 kr_ rfl #[.agg #[.slice A0_0 l0_0.length c0_0, .int .i64 a0_1, .int .i64 a0_2], .agg #[.int .i64 z236a3, .int .i64 z236b3, .int .i64 z236c3, .int .i64 z236d3, .int .i64 z236e3, .int .i64 z236f3, .int .i64 z236g3, .int .i64 z236h3, .bool z236i3, .int .i64 z236j3], .int .i64 (wrap64 (x12_3 + (rd y219 x74_3)))] rfl (by (try simp only [List.map_toArray, List.map_cons, List.map_nil]); first | done | rfl | (simp only [List.length_drop, List.length_take]; rfl)) ?_; (with_reducible refine (clock_Look.calls kj117 _ _ l0_0 a0_1 a0_2 z236a3 z236b3 z236c3 z236d3 z236e3 z236f3 z236g3 z236h3 z236i3 z236j3 (wrap64 (x12_3 + (rd y219 x74_3))) t262 t263 t264 t265 t266 t267 t268 t269 t270 t271 t272 _ ?side1 ?side2 A155.out).mono ?_); (case side1 => exact xC (Kd.C_below HR0_0.out HB.out)); (case side2 => exact HC0_0.out); rintro e w176 ⟨rfl, hb⟩; refine ⟨_, rfl, ?_⟩; replace BK217 := Aside0.mk (xB BK217 hb); replace BK235 := Aside0.mk (xB BK235 hb); replace BK237 := Aside0.mk (xB BK237 hb); replace BK238 := Aside0.mk (xB BK238 hb); replace BK258 := Aside0.mk (xB BK258 hb); replace HB := Aside0.mk (xS HB hb); (try clear hb); (try clear hb2); (try clear hk); (try clear hi)) | ((with_reducible refine gate_dst (N := 26) rfl ?_); refine box_event ?hg (N := 26) ?hd (cs := #[.int .i64 0, .int .i64 0, .int .i64 0, .int .i64 0, .int .i64 0, .int .i64 0, .int .i64 0, .int .i64 0, .bool false, .int .i64 0]) (t := 31) ?hr ?_; (case hd => rfl); (case hg => rfl); (case hr => first | (go_simp; done) | (go_simp; rfl)); intro gb273 hg w177 hbox hb; have BK273 := Aside0.mk (hbox); have GW273 := Aside0.mk (xZ HB hg); have GE273 := Aside0.mk (xZ HB hg); have NB217_273 := Aside0.mk (xN BK217 hg); have NB273_217 := Aside0.mk (xM BK217 hg); have NB235_273 := Aside0.mk (xN BK235 hg); have NB273_235 := Aside0.mk (xM BK235 hg); have NB237_273 := Aside0.mk (xN BK237 hg); have NB273_237 := Aside0.mk (xM BK237 hg); have NB238_273 := Aside0.mk (xN BK238 hg); have NB273_238 := Aside0.mk (xM BK238 hg); have NB258_273 := Aside0.mk (xN BK258 hg); have NB273_258 := Aside0.mk (xM BK258 hg); replace BK217 := Aside0.mk (xB BK217 hb); replace BK235 := Aside0.mk (xB BK235 hb); replace BK237 := Aside0.mk (xB BK237 hb); replace BK238 := Aside0.mk (xB BK238 hb); replace BK258 := Aside0.mk (xB BK258 hb); replace HB := Aside0.mk (xS HB hb); clear hb hbox hg; have hnb178 := xne7 NB273_217; have hnc178 := xne7 NB217_273; have hnb179 := xne7 NB273_235; have hnc179 := xne7 NB235_273; have hnb180 := xne7 NB273_237; have hnc180 := xne7 NB237_273; have hnb181 := xne7 NB273_238; have hnc181 := xne7 NB238_273; have hnb182 := xne7 NB273_258; have hnc182 := xne7 NB258_273; have hcz183_0 := blkc10 BK273.out; have hcz186_0 := blkc10 BK258.out))
                                  go_ret
                                  exact ⟨by first | rfl | (simp [errW_none, errW_some] <;> rfl) | (simp only [← hji7, ← hji162]; first | rfl | (simp [errW_none, errW_some] <;> rfl)) | (simp [*, errW_none, errW_some] <;> rfl), xW HB⟩
                                 ·rw [if_neg c165] at H
                                  have c165b0 : ((ji162) == 0) = false := beq_eq_false_iff_ne.mpr c165
                                  have c165b1 : ((ji162) != 0) = true := bne_iff_ne.mpr c165
                                  obtain ⟨c187b, c187g, c187c, c187d⟩ := xar ((ji162) : Int) 1 1 2
                                  obtain rfl := Option.some.inj H
                                  have hcz192_0 := blkc3 BK217.out; have hcz196_0 := blkc10 BK235.out
                                  go_wp2_with (first | ((with_reducible refine gate_callee (f := 13) rfl ?_); refine goesL_ (some 145) rfl rfl Try.func13 kr_ rfl #[.agg #[.slice A0_0 l0_0.length c0_0, .int .i64 a0_1, .int .i64 a0_2], .agg #[.int .i64 z236a3, .int .i64 z236b3, .int .i64 z236c3, .int .i64 z236d3, .int .i64 z236e3, .int .i64 z236f3, .int .i64 z236g3, .int .i64 z236h3, .bool z236i3, .int .i64 z236j3], .int .i64 (wrap64 (x12_3 + (rd y219 x74_3)))] rfl (by (try simp only [List.map_toArray, List.map_cons, List.map_nil]); first | done | rfl | (simp only [List.length_drop, List.length_take]; rfl)) ?_; (with_reducible refine (clock_Look.calls kj117 _ _ l0_0 a0_1 a0_2 z236a3 z236b3 z236c3 z236d3 z236e3 z236f3 z236g3 z236h3 z236i3 z236j3 (wrap64 (x12_3 + (rd y219 x74_3))) t262 t263 t264 t265 t266 t267 t268 t269 t270 t271 t272 _ ?side1 ?side2 A155.out).mono ?_); (case side1 => exact xC (Kd.C_below HR0_0.out HB.out)); (case side2 => exact HC0_0.out); rintro e w197 ⟨rfl, hb⟩; refine ⟨_, rfl, ?_⟩; replace BK217 := Aside0.mk (xB BK217 hb); replace BK235 := Aside0.mk (xB BK235 hb); replace BK237 := Aside0.mk (xB BK237 hb); replace BK238 := Aside0.mk (xB BK238 hb); replace BK258 := Aside0.mk (xB BK258 hb); replace HB := Aside0.mk (xS HB hb); (try clear hb); (try clear hb2); (try clear hk); (try clear hi)) | ((with_reducible refine gate_dst (N := 26) rfl ?_); refine box_event ?hg (N := 26) ?hd (cs := #[.int .i64 0, .int .i64 0, .int .i64 0, .int .i64 0, .int .i64 0, .int .i64 0, .int .i64 0, .int .i64 0, .bool false, .int .i64 0]) (t := 31) ?hr ?_; (case hd => rfl); (case hg => rfl); (case hr => first | (go_simp; done) | (go_simp; rfl)); intro gb273 hg w198 hbox hb; have BK273 := Aside0.mk (hbox); have GW273 := Aside0.mk (xZ HB hg); have GE273 := Aside0.mk (xZ HB hg); have NB217_273 := Aside0.mk (xN BK217 hg); have NB273_217 := Aside0.mk (xM BK217 hg); have NB235_273 := Aside0.mk (xN BK235 hg); have NB273_235 := Aside0.mk (xM BK235 hg); have NB237_273 := Aside0.mk (xN BK237 hg); have NB273_237 := Aside0.mk (xM BK237 hg); have NB238_273 := Aside0.mk (xN BK238 hg); have NB273_238 := Aside0.mk (xM BK238 hg); have NB258_273 := Aside0.mk (xN BK258 hg); have NB273_258 := Aside0.mk (xM BK258 hg); replace BK217 := Aside0.mk (xB BK217 hb); replace BK235 := Aside0.mk (xB BK235 hb); replace BK237 := Aside0.mk (xB BK237 hb); replace BK238 := Aside0.mk (xB BK238 hb); replace BK258 := Aside0.mk (xB BK258 hb); replace HB := Aside0.mk (xS HB hb); clear hb hbox hg; have hnb199 := xne7 NB273_217; have hnc199 := xne7 NB217_273; have hnb200 := xne7 NB273_235; have hnc200 := xne7 NB235_273; have hnb201 := xne7 NB273_237; have hnc201 := xne7 NB237_273; have hnb202 := xne7 NB273_238; have hnc202 := xne7 NB238_273; have hnb203 := xne7 NB273_258; have hnc203 := xne7 NB258_273; have hcz204_0 := blkc10 BK273.out; have hcz207_0 := blkc10 BK258.out))
                                  go_ret
                                  exact ⟨by first | rfl | (simp [errW_none, errW_some] <;> rfl) | (simp only [← hji7, ← hji162]; first | rfl | (simp [errW_none, errW_some] <;> rfl)) | (simp [*, errW_none, errW_some] <;> rfl), xW HB⟩
                                ·rw [if_neg c164] at H
                                 exact absurd H (by simp)
                               ·rw [if_neg c163] at H
                                exact absurd H (by simp)
                              ·rw [if_neg c161] at H
                               have c161b0 : (t271 == (Int.tmod x74_3 2)) = false := beq_eq_false_iff_ne.mpr c161
                               have c161b1 : (t271 != (Int.tmod x74_3 2)) = true := bne_iff_ne.mpr c161; clear c161
                               obtain rfl := Option.some.inj H
                               have hcz212_0 := blkc3 BK217.out; have hcz216_0 := blkc10 BK235.out
                               go_wp2_with (first | ((with_reducible refine gate_callee (f := 13) rfl ?_); refine goesL_ (some 145) rfl rfl Try.func13 kr_ rfl #[.agg #[.slice A0_0 l0_0.length c0_0, .int .i64 a0_1, .int .i64 a0_2], .agg #[.int .i64 z236a3, .int .i64 z236b3, .int .i64 z236c3, .int .i64 z236d3, .int .i64 z236e3, .int .i64 z236f3, .int .i64 z236g3, .int .i64 z236h3, .bool z236i3, .int .i64 z236j3], .int .i64 (wrap64 (x12_3 + (rd y219 x74_3)))] rfl (by (try simp only [List.map_toArray, List.map_cons, List.map_nil]); first | done | rfl | (simp only [List.length_drop, List.length_take]; rfl)) ?_; (with_reducible refine (clock_Look.calls kj117 _ _ l0_0 a0_1 a0_2 z236a3 z236b3 z236c3 z236d3 z236e3 z236f3 z236g3 z236h3 z236i3 z236j3 (wrap64 (x12_3 + (rd y219 x74_3))) t262 t263 t264 t265 t266 t267 t268 t269 t270 t271 t272 _ ?side1 ?side2 A155.out).mono ?_); (case side1 => exact xC (Kd.C_below HR0_0.out HB.out)); (case side2 => exact HC0_0.out); rintro e w217 ⟨rfl, hb⟩; refine ⟨_, rfl, ?_⟩; replace BK217 := Aside0.mk (xB BK217 hb); replace BK235 := Aside0.mk (xB BK235 hb); replace BK237 := Aside0.mk (xB BK237 hb); replace BK238 := Aside0.mk (xB BK238 hb); replace BK258 := Aside0.mk (xB BK258 hb); replace HB := Aside0.mk (xS HB hb); (try clear hb); (try clear hb2); (try clear hk); (try clear hi)) | ((with_reducible refine gate_dst (N := 26) rfl ?_); refine box_event ?hg (N := 26) ?hd (cs := #[.int .i64 0, .int .i64 0, .int .i64 0, .int .i64 0, .int .i64 0, .int .i64 0, .int .i64 0, .int .i64 0, .bool false, .int .i64 0]) (t := 31) ?hr ?_; (case hd => rfl); (case hg => rfl); (case hr => first | (go_simp; done) | (go_simp; rfl)); intro gb273 hg w218 hbox hb; have BK273 := Aside0.mk (hbox); have GW273 := Aside0.mk (xZ HB hg); have GE273 := Aside0.mk (xZ HB hg); have NB217_273 := Aside0.mk (xN BK217 hg); have NB273_217 := Aside0.mk (xM BK217 hg); have NB235_273 := Aside0.mk (xN BK235 hg); have NB273_235 := Aside0.mk (xM BK235 hg); have NB237_273 := Aside0.mk (xN BK237 hg); have NB273_237 := Aside0.mk (xM BK237 hg); have NB238_273 := Aside0.mk (xN BK238 hg); have NB273_238 := Aside0.mk (xM BK238 hg); have NB258_273 := Aside0.mk (xN BK258 hg); have NB273_258 := Aside0.mk (xM BK258 hg); replace BK217 := Aside0.mk (xB BK217 hb); replace BK235 := Aside0.mk (xB BK235 hb); replace BK237 := Aside0.mk (xB BK237 hb); replace BK238 := Aside0.mk (xB BK238 hb); replace BK258 := Aside0.mk (xB BK258 hb); replace HB := Aside0.mk (xS HB hb); clear hb hbox hg; have hnb219 := xne7 NB273_217; have hnc219 := xne7 NB217_273; have hnb220 := xne7 NB273_235; have hnc220 := xne7 NB235_273; have hnb221 := xne7 NB273_237; have hnc221 := xne7 NB237_273; have hnb222 := xne7 NB273_238; have hnc222 := xne7 NB238_273; have hnb223 := xne7 NB273_258; have hnc223 := xne7 NB258_273; have hcz224_0 := blkc10 BK273.out; have hcz227_0 := blkc10 BK258.out))
                               go_ret
                               exact ⟨by first | rfl | (simp [errW_none, errW_some] <;> rfl) | (simp only [← hji7]; first | rfl | (simp [errW_none, errW_some] <;> rfl)) | (simp [*, errW_none, errW_some] <;> rfl), xW HB⟩
                             ·rw [if_neg c160] at H
                              have c160b0 : (t272 == 0) = false := beq_eq_false_iff_ne.mpr c160
                              have c160b1 : (t272 != 0) = true := bne_iff_ne.mpr c160; clear c160
                              obtain rfl := Option.some.inj H
                              have hcz232_0 := blkc3 BK217.out; have hcz236_0 := blkc10 BK235.out
                              go_wp2_with (first | ((with_reducible refine gate_callee (f := 13) rfl ?_); refine goesL_ (some 145) rfl rfl Try.func13 kr_ rfl #[.agg #[.slice A0_0 l0_0.length c0_0, .int .i64 a0_1, .int .i64 a0_2], .agg #[.int .i64 z236a3, .int .i64 z236b3, .int .i64 z236c3, .int .i64 z236d3, .int .i64 z236e3, .int .i64 z236f3, .int .i64 z236g3, .int .i64 z236h3, .bool z236i3, .int .i64 z236j3], .int .i64 (wrap64 (x12_3 + (rd y219 x74_3)))] rfl (by (try simp only [List.map_toArray, List.map_cons, List.map_nil]); first | done | rfl | (simp only [List.length_drop, List.length_take]; rfl)) ?_; (with_reducible refine (clock_Look.calls kj117 _ _ l0_0 a0_1 a0_2 z236a3 z236b3 z236c3 z236d3 z236e3 z236f3 z236g3 z236h3 z236i3 z236j3 (wrap64 (x12_3 + (rd y219 x74_3))) t262 t263 t264 t265 t266 t267 t268 t269 t270 t271 t272 _ ?side1 ?side2 A155.out).mono ?_); (case side1 => exact xC (Kd.C_below HR0_0.out HB.out)); (case side2 => exact HC0_0.out); rintro e w237 ⟨rfl, hb⟩; refine ⟨_, rfl, ?_⟩; replace BK217 := Aside0.mk (xB BK217 hb); replace BK235 := Aside0.mk (xB BK235 hb); replace BK237 := Aside0.mk (xB BK237 hb); replace BK238 := Aside0.mk (xB BK238 hb); replace BK258 := Aside0.mk (xB BK258 hb); replace HB := Aside0.mk (xS HB hb); (try clear hb); (try clear hb2); (try clear hk); (try clear hi)) | ((with_reducible refine gate_dst (N := 26) rfl ?_); refine box_event ?hg (N := 26) ?hd (cs := #[.int .i64 0, .int .i64 0, .int .i64 0, .int .i64 0, .int .i64 0, .int .i64 0, .int .i64 0, .int .i64 0, .bool false, .int .i64 0]) (t := 31) ?hr ?_; (case hd => rfl); (case hg => rfl); (case hr => first | (go_simp; done) | (go_simp; rfl)); intro gb273 hg w238 hbox hb; have BK273 := Aside0.mk (hbox); have GW273 := Aside0.mk (xZ HB hg); have GE273 := Aside0.mk (xZ HB hg); have NB217_273 := Aside0.mk (xN BK217 hg); have NB273_217 := Aside0.mk (xM BK217 hg); have NB235_273 := Aside0.mk (xN BK235 hg); have NB273_235 := Aside0.mk (xM BK235 hg); have NB237_273 := Aside0.mk (xN BK237 hg); have NB273_237 := Aside0.mk (xM BK237 hg); have NB238_273 := Aside0.mk (xN BK238 hg); have NB273_238 := Aside0.mk (xM BK238 hg); have NB258_273 := Aside0.mk (xN BK258 hg); have NB273_258 := Aside0.mk (xM BK258 hg); replace BK217 := Aside0.mk (xB BK217 hb); replace BK235 := Aside0.mk (xB BK235 hb); replace BK237 := Aside0.mk (xB BK237 hb); replace BK238 := Aside0.mk (xB BK238 hb); replace BK258 := Aside0.mk (xB BK258 hb); replace HB := Aside0.mk (xS HB hb); clear hb hbox hg; have hnb239 := xne7 NB273_217; have hnc239 := xne7 NB217_273; have hnb240 := xne7 NB273_235; have hnc240 := xne7 NB235_273; have hnb241 := xne7 NB273_237; have hnc241 := xne7 NB237_273; have hnb242 := xne7 NB273_238; have hnc242 := xne7 NB238_273; have hnb243 := xne7 NB273_258; have hnc243 := xne7 NB258_273; have hcz244_0 := blkc10 BK273.out; have hcz247_0 := blkc10 BK258.out))
                              go_ret
                              exact ⟨by first | rfl | (simp [errW_none, errW_some] <;> rfl) | (simp only [← hji7]; first | rfl | (simp [errW_none, errW_some] <;> rfl)) | (simp [*, errW_none, errW_some] <;> rfl), xW HB⟩
                            ·rw [if_neg c159] at H
                             have c159b0 : (t259 == 0) = false := beq_eq_false_iff_ne.mpr c159
                             have c159b1 : (t259 != 0) = true := bne_iff_ne.mpr c159; clear c159
                             obtain rfl := Option.some.inj H
                             have hcz252_0 := blkc3 BK217.out; have hcz256_0 := blkc10 BK235.out
                             go_wp2_with (first | ((with_reducible refine gate_callee (f := 13) rfl ?_); refine goesL_ (some 145) rfl rfl Try.func13 kr_ rfl #[.agg #[.slice A0_0 l0_0.length c0_0, .int .i64 a0_1, .int .i64 a0_2], .agg #[.int .i64 z236a3, .int .i64 z236b3, .int .i64 z236c3, .int .i64 z236d3, .int .i64 z236e3, .int .i64 z236f3, .int .i64 z236g3, .int .i64 z236h3, .bool z236i3, .int .i64 z236j3], .int .i64 (wrap64 (x12_3 + (rd y219 x74_3)))] rfl (by (try simp only [List.map_toArray, List.map_cons, List.map_nil]); first | done | rfl | (simp only [List.length_drop, List.length_take]; rfl)) ?_; (with_reducible refine (clock_Look.calls kj117 _ _ l0_0 a0_1 a0_2 z236a3 z236b3 z236c3 z236d3 z236e3 z236f3 z236g3 z236h3 z236i3 z236j3 (wrap64 (x12_3 + (rd y219 x74_3))) t262 t263 t264 t265 t266 t267 t268 t269 t270 t271 t272 _ ?side1 ?side2 A155.out).mono ?_); (case side1 => exact xC (Kd.C_below HR0_0.out HB.out)); (case side2 => exact HC0_0.out); rintro e w257 ⟨rfl, hb⟩; refine ⟨_, rfl, ?_⟩; replace BK217 := Aside0.mk (xB BK217 hb); replace BK235 := Aside0.mk (xB BK235 hb); replace BK237 := Aside0.mk (xB BK237 hb); replace BK238 := Aside0.mk (xB BK238 hb); replace BK258 := Aside0.mk (xB BK258 hb); replace HB := Aside0.mk (xS HB hb); (try clear hb); (try clear hb2); (try clear hk); (try clear hi)) | ((with_reducible refine gate_dst (N := 26) rfl ?_); refine box_event ?hg (N := 26) ?hd (cs := #[.int .i64 0, .int .i64 0, .int .i64 0, .int .i64 0, .int .i64 0, .int .i64 0, .int .i64 0, .int .i64 0, .bool false, .int .i64 0]) (t := 31) ?hr ?_; (case hd => rfl); (case hg => rfl); (case hr => first | (go_simp; done) | (go_simp; rfl)); intro gb273 hg w258 hbox hb; have BK273 := Aside0.mk (hbox); have GW273 := Aside0.mk (xZ HB hg); have GE273 := Aside0.mk (xZ HB hg); have NB217_273 := Aside0.mk (xN BK217 hg); have NB273_217 := Aside0.mk (xM BK217 hg); have NB235_273 := Aside0.mk (xN BK235 hg); have NB273_235 := Aside0.mk (xM BK235 hg); have NB237_273 := Aside0.mk (xN BK237 hg); have NB273_237 := Aside0.mk (xM BK237 hg); have NB238_273 := Aside0.mk (xN BK238 hg); have NB273_238 := Aside0.mk (xM BK238 hg); have NB258_273 := Aside0.mk (xN BK258 hg); have NB273_258 := Aside0.mk (xM BK258 hg); replace BK217 := Aside0.mk (xB BK217 hb); replace BK235 := Aside0.mk (xB BK235 hb); replace BK237 := Aside0.mk (xB BK237 hb); replace BK238 := Aside0.mk (xB BK238 hb); replace BK258 := Aside0.mk (xB BK258 hb); replace HB := Aside0.mk (xS HB hb); clear hb hbox hg; have hnb259 := xne7 NB273_217; have hnc259 := xne7 NB217_273; have hnb260 := xne7 NB273_235; have hnc260 := xne7 NB235_273; have hnb261 := xne7 NB273_237; have hnc261 := xne7 NB237_273; have hnb262 := xne7 NB273_238; have hnc262 := xne7 NB238_273; have hnb263 := xne7 NB273_258; have hnc263 := xne7 NB258_273; have hcz264_0 := blkc10 BK273.out; have hcz267_0 := blkc10 BK258.out))
                             go_ret
                             exact ⟨by first | rfl | (simp [errW_none, errW_some] <;> rfl) | (simp only [← hji7]; first | rfl | (simp [errW_none, errW_some] <;> rfl)) | (simp [*, errW_none, errW_some] <;> rfl), xW HB⟩
                           ·rw [if_neg c158] at H
                            have c158b0 : (t260 == 0) = false := beq_eq_false_iff_ne.mpr c158
                            have c158b1 : (t260 != 0) = true := bne_iff_ne.mpr c158; clear c158
                            obtain rfl := Option.some.inj H
                            have hcz272_0 := blkc3 BK217.out; have hcz276_0 := blkc10 BK235.out
                            go_wp2_with (first | ((with_reducible refine gate_callee (f := 13) rfl ?_); refine goesL_ (some 145) rfl rfl Try.func13 kr_ rfl #[.agg #[.slice A0_0 l0_0.length c0_0, .int .i64 a0_1, .int .i64 a0_2], .agg #[.int .i64 z236a3, .int .i64 z236b3, .int .i64 z236c3, .int .i64 z236d3, .int .i64 z236e3, .int .i64 z236f3, .int .i64 z236g3, .int .i64 z236h3, .bool z236i3, .int .i64 z236j3], .int .i64 (wrap64 (x12_3 + (rd y219 x74_3)))] rfl (by (try simp only [List.map_toArray, List.map_cons, List.map_nil]); first | done | rfl | (simp only [List.length_drop, List.length_take]; rfl)) ?_; (with_reducible refine (clock_Look.calls kj117 _ _ l0_0 a0_1 a0_2 z236a3 z236b3 z236c3 z236d3 z236e3 z236f3 z236g3 z236h3 z236i3 z236j3 (wrap64 (x12_3 + (rd y219 x74_3))) t262 t263 t264 t265 t266 t267 t268 t269 t270 t271 t272 _ ?side1 ?side2 A155.out).mono ?_); (case side1 => exact xC (Kd.C_below HR0_0.out HB.out)); (case side2 => exact HC0_0.out); rintro e w277 ⟨rfl, hb⟩; refine ⟨_, rfl, ?_⟩; replace BK217 := Aside0.mk (xB BK217 hb); replace BK235 := Aside0.mk (xB BK235 hb); replace BK237 := Aside0.mk (xB BK237 hb); replace BK238 := Aside0.mk (xB BK238 hb); replace BK258 := Aside0.mk (xB BK258 hb); replace HB := Aside0.mk (xS HB hb); (try clear hb); (try clear hb2); (try clear hk); (try clear hi)) | ((with_reducible refine gate_dst (N := 26) rfl ?_); refine box_event ?hg (N := 26) ?hd (cs := #[.int .i64 0, .int .i64 0, .int .i64 0, .int .i64 0, .int .i64 0, .int .i64 0, .int .i64 0, .int .i64 0, .bool false, .int .i64 0]) (t := 31) ?hr ?_; (case hd => rfl); (case hg => rfl); (case hr => first | (go_simp; done) | (go_simp; rfl)); intro gb273 hg w278 hbox hb; have BK273 := Aside0.mk (hbox); have GW273 := Aside0.mk (xZ HB hg); have GE273 := Aside0.mk (xZ HB hg); have NB217_273 := Aside0.mk (xN BK217 hg); have NB273_217 := Aside0.mk (xM BK217 hg); have NB235_273 := Aside0.mk (xN BK235 hg); have NB273_235 := Aside0.mk (xM BK235 hg); have NB237_273 := Aside0.mk (xN BK237 hg); have NB273_237 := Aside0.mk (xM BK237 hg); have NB238_273 := Aside0.mk (xN BK238 hg); have NB273_238 := Aside0.mk (xM BK238 hg); have NB258_273 := Aside0.mk (xN BK258 hg); have NB273_258 := Aside0.mk (xM BK258 hg); replace BK217 := Aside0.mk (xB BK217 hb); replace BK235 := Aside0.mk (xB BK235 hb); replace BK237 := Aside0.mk (xB BK237 hb); replace BK238 := Aside0.mk (xB BK238 hb); replace BK258 := Aside0.mk (xB BK258 hb); replace HB := Aside0.mk (xS HB hb); clear hb hbox hg; have hnb279 := xne7 NB273_217; have hnc279 := xne7 NB217_273; have hnb280 := xne7 NB273_235; have hnc280 := xne7 NB235_273; have hnb281 := xne7 NB273_237; have hnc281 := xne7 NB237_273; have hnb282 := xne7 NB273_238; have hnc282 := xne7 NB238_273; have hnb283 := xne7 NB273_258; have hnc283 := xne7 NB258_273; have hcz284_0 := blkc10 BK273.out; have hcz287_0 := blkc10 BK258.out))
                            go_ret
                            exact ⟨by first | rfl | (simp [errW_none, errW_some] <;> rfl) | (simp only [← hji7]; first | rfl | (simp [errW_none, errW_some] <;> rfl)) | (simp [*, errW_none, errW_some] <;> rfl), xW HB⟩
                          ·rw [if_neg c157] at H
                           have c157b0 : ((t247 == 0 && (t248 == 0)) && ((t249 == 0 && (t250 == 0)) && ((t251 == 0 && (t252 == 0)) && (t253 == 0 && (t254 == 0 && (!t255 && (t256 == 0))))))) = false := by simpa using c157
                           clear c157
                           obtain rfl := Option.some.inj H
                           have hcz292_0 := blkc3 BK217.out; have hcz296_0 := blkc10 BK235.out
                           go_wp2_with (first | ((with_reducible refine gate_callee (f := 13) rfl ?_); refine goesL_ (some 145) rfl rfl Try.func13 kr_ rfl #[.agg #[.slice A0_0 l0_0.length c0_0, .int .i64 a0_1, .int .i64 a0_2], .agg #[.int .i64 z236a3, .int .i64 z236b3, .int .i64 z236c3, .int .i64 z236d3, .int .i64 z236e3, .int .i64 z236f3, .int .i64 z236g3, .int .i64 z236h3, .bool z236i3, .int .i64 z236j3], .int .i64 (wrap64 (x12_3 + (rd y219 x74_3)))] rfl (by (try simp only [List.map_toArray, List.map_cons, List.map_nil]); first | done | rfl | (simp only [List.length_drop, List.length_take]; rfl)) ?_; (with_reducible refine (clock_Look.calls kj117 _ _ l0_0 a0_1 a0_2 z236a3 z236b3 z236c3 z236d3 z236e3 z236f3 z236g3 z236h3 z236i3 z236j3 (wrap64 (x12_3 + (rd y219 x74_3))) t262 t263 t264 t265 t266 t267 t268 t269 t270 t271 t272 _ ?side1 ?side2 A155.out).mono ?_); (case side1 => exact xC (Kd.C_below HR0_0.out HB.out)); (case side2 => exact HC0_0.out); rintro e w297 ⟨rfl, hb⟩; refine ⟨_, rfl, ?_⟩; replace BK217 := Aside0.mk (xB BK217 hb); replace BK235 := Aside0.mk (xB BK235 hb); replace BK237 := Aside0.mk (xB BK237 hb); replace BK238 := Aside0.mk (xB BK238 hb); replace BK258 := Aside0.mk (xB BK258 hb); replace HB := Aside0.mk (xS HB hb); (try clear hb); (try clear hb2); (try clear hk); (try clear hi)) | ((with_reducible refine gate_dst (N := 26) rfl ?_); refine box_event ?hg (N := 26) ?hd (cs := #[.int .i64 0, .int .i64 0, .int .i64 0, .int .i64 0, .int .i64 0, .int .i64 0, .int .i64 0, .int .i64 0, .bool false, .int .i64 0]) (t := 31) ?hr ?_; (case hd => rfl); (case hg => rfl); (case hr => first | (go_simp; done) | (go_simp; rfl)); intro gb273 hg w298 hbox hb; have BK273 := Aside0.mk (hbox); have GW273 := Aside0.mk (xZ HB hg); have GE273 := Aside0.mk (xZ HB hg); have NB217_273 := Aside0.mk (xN BK217 hg); have NB273_217 := Aside0.mk (xM BK217 hg); have NB235_273 := Aside0.mk (xN BK235 hg); have NB273_235 := Aside0.mk (xM BK235 hg); have NB237_273 := Aside0.mk (xN BK237 hg); have NB273_237 := Aside0.mk (xM BK237 hg); have NB238_273 := Aside0.mk (xN BK238 hg); have NB273_238 := Aside0.mk (xM BK238 hg); have NB258_273 := Aside0.mk (xN BK258 hg); have NB273_258 := Aside0.mk (xM BK258 hg); replace BK217 := Aside0.mk (xB BK217 hb); replace BK235 := Aside0.mk (xB BK235 hb); replace BK237 := Aside0.mk (xB BK237 hb); replace BK238 := Aside0.mk (xB BK238 hb); replace BK258 := Aside0.mk (xB BK258 hb); replace HB := Aside0.mk (xS HB hb); clear hb hbox hg; have hnb299 := xne7 NB273_217; have hnc299 := xne7 NB217_273; have hnb300 := xne7 NB273_235; have hnc300 := xne7 NB235_273; have hnb301 := xne7 NB273_237; have hnc301 := xne7 NB237_273; have hnb302 := xne7 NB273_238; have hnc302 := xne7 NB238_273; have hnb303 := xne7 NB273_258; have hnc303 := xne7 NB258_273; have hcz304_0 := blkc10 BK273.out; have hcz307_0 := blkc10 BK258.out))
                           go_ret
                           exact ⟨by first | rfl | (simp [errW_none, errW_some] <;> rfl) | (simp only [← hji7]; first | rfl | (simp [errW_none, errW_some] <;> rfl)) | (simp [*, errW_none, errW_some] <;> rfl), xW HB⟩⟩
                          exact inferInstanceAs _
                         ·rw [if_neg c156] at H
                          have c156b0 : (t257 == 14) = false := beq_eq_false_iff_ne.mpr c156
                          have c156b1 : (t257 != 14) = true := bne_iff_ne.mpr c156; clear c156
                          obtain rfl := Option.some.inj H
                          have hcz312_0 := blkc3 BK217.out; have hcz316_0 := blkc10 BK235.out
                          go_wp2_with (first | ((with_reducible refine gate_callee (f := 13) rfl ?_); refine goesL_ (some 145) rfl rfl Try.func13 kr_ rfl #[.agg #[.slice A0_0 l0_0.length c0_0, .int .i64 a0_1, .int .i64 a0_2], .agg #[.int .i64 z236a3, .int .i64 z236b3, .int .i64 z236c3, .int .i64 z236d3, .int .i64 z236e3, .int .i64 z236f3, .int .i64 z236g3, .int .i64 z236h3, .bool z236i3, .int .i64 z236j3], .int .i64 (wrap64 (x12_3 + (rd y219 x74_3)))] rfl (by (try simp only [List.map_toArray, List.map_cons, List.map_nil]); first | done | rfl | (simp only [List.length_drop, List.length_take]; rfl)) ?_; (with_reducible refine (clock_Look.calls kj117 _ _ l0_0 a0_1 a0_2 z236a3 z236b3 z236c3 z236d3 z236e3 z236f3 z236g3 z236h3 z236i3 z236j3 (wrap64 (x12_3 + (rd y219 x74_3))) t262 t263 t264 t265 t266 t267 t268 t269 t270 t271 t272 _ ?side1 ?side2 A155.out).mono ?_); (case side1 => exact xC (Kd.C_below HR0_0.out HB.out)); (case side2 => exact HC0_0.out); rintro e w317 ⟨rfl, hb⟩; refine ⟨_, rfl, ?_⟩; replace BK217 := Aside0.mk (xB BK217 hb); replace BK235 := Aside0.mk (xB BK235 hb); replace BK237 := Aside0.mk (xB BK237 hb); replace BK238 := Aside0.mk (xB BK238 hb); replace BK258 := Aside0.mk (xB BK258 hb); replace HB := Aside0.mk (xS HB hb); (try clear hb); (try clear hb2); (try clear hk); (try clear hi)) | ((with_reducible refine gate_dst (N := 26) rfl ?_); refine box_event ?hg (N := 26) ?hd (cs := #[.int .i64 0, .int .i64 0, .int .i64 0, .int .i64 0, .int .i64 0, .int .i64 0, .int .i64 0, .int .i64 0, .bool false, .int .i64 0]) (t := 31) ?hr ?_; (case hd => rfl); (case hg => rfl); (case hr => first | (go_simp; done) | (go_simp; rfl)); intro gb273 hg w318 hbox hb; have BK273 := Aside0.mk (hbox); have GW273 := Aside0.mk (xZ HB hg); have GE273 := Aside0.mk (xZ HB hg); have NB217_273 := Aside0.mk (xN BK217 hg); have NB273_217 := Aside0.mk (xM BK217 hg); have NB235_273 := Aside0.mk (xN BK235 hg); have NB273_235 := Aside0.mk (xM BK235 hg); have NB237_273 := Aside0.mk (xN BK237 hg); have NB273_237 := Aside0.mk (xM BK237 hg); have NB238_273 := Aside0.mk (xN BK238 hg); have NB273_238 := Aside0.mk (xM BK238 hg); have NB258_273 := Aside0.mk (xN BK258 hg); have NB273_258 := Aside0.mk (xM BK258 hg); replace BK217 := Aside0.mk (xB BK217 hb); replace BK235 := Aside0.mk (xB BK235 hb); replace BK237 := Aside0.mk (xB BK237 hb); replace BK238 := Aside0.mk (xB BK238 hb); replace BK258 := Aside0.mk (xB BK258 hb); replace HB := Aside0.mk (xS HB hb); clear hb hbox hg; have hnb319 := xne7 NB273_217; have hnc319 := xne7 NB217_273; have hnb320 := xne7 NB273_235; have hnc320 := xne7 NB235_273; have hnb321 := xne7 NB273_237; have hnc321 := xne7 NB237_273; have hnb322 := xne7 NB273_238; have hnc322 := xne7 NB238_273; have hnb323 := xne7 NB273_258; have hnc323 := xne7 NB258_273; have hcz324_0 := blkc10 BK273.out))
                          go_ret
                          exact ⟨by first | rfl | (simp [errW_none, errW_some] <;> rfl) | (simp only [← hji7]; first | rfl | (simp [errW_none, errW_some] <;> rfl)) | (simp [*, errW_none, errW_some] <;> rfl), xW HB⟩
                        ·replace c154 := Bool.eq_false_iff.mpr c154
                         subst c154
                         rw [if_neg (show ¬ (false = true) by decide)] at H
                         have HC325 := Aside0.mk H; clear H
                         go_upto_region 30 with (fail)
                         go_cut [212] (fun vs212 wc => ∃ (kq : Nat) (x212_324 : Bool), vs212 = .bool x212_324 ∧ Aside0 (gamehalllaw3_ClockRuns.j6 kq a3 x12_3 (rd y219 x74_3) (Int.tmod x74_3 2) t261 y219 (y219.length : Int) x74_3 x212_324 l0_0 a0_1 a0_2 z238a3 z238b3 z239a3 z239b3 t247 t248 t249 t250 t251 t252 t253 t254 t255 t256 = some r) ∧ Aside0 (kq ≤ kj117) ∧ Aside0 (wc.heap[gb217]? = some (.cells #[(.slice A0_0 l0_0.length c0_0), .int .i64 a0_1, .int .i64 a0_2] 24 (0, 0))) ∧ Aside0 (wc.heap[gb235]? = some (.cells #[.int .i64 z236a3, .int .i64 z236b3, .int .i64 z236c3, .int .i64 z236d3, .int .i64 z236e3, .int .i64 z236f3, .int .i64 z236g3, .int .i64 z236h3, .bool z236i3, .int .i64 z236j3] 31 (0, 0))) ∧ Aside0 (wc.heap[gb237]? = some (.cells #[.int .i64 z238a3, .int .i64 z238b3] 29 (0, 0))) ∧ Aside0 (wc.heap[gb238]? = some (.cells #[.int .i64 z239a3, .int .i64 z239b3] 29 (0, 0))) ∧ Aside0 (wc.heap[gb258]? = some (.cells #[.int .i64 t247, .int .i64 t248, .int .i64 t249, .int .i64 t250, .int .i64 t251, .int .i64 t252, .int .i64 t253, .int .i64 t254, .bool t255, .int .i64 t256] 31 (0, 0))) ∧ Aside0 (Below w.heap.size w wc))
                         case first =>
                          refine box_ ?g16;letI i:type_of% ?g16:=⟨by
                          have H := HC325.out; clear HC325
                          by_cases c326 : t257 = 0
                          ·refine box_ ?g17;letI i:type_of% ?g17:=⟨by
                           rw [if_pos c326] at H
                           have c326b0 : (t257 == 0) = true := beq_iff_eq.mpr c326
                           have c326b1 : (t257 != 0) = false := bne_eq_false_iff_eq.mpr c326
                           clear c326
                           (first | rw [c326b0] | (simp only [i64_w, i32_w]; rw [c326b0]) | skip)
                           by_cases c327 : t260 = 0
                           ·rw [if_pos c327] at H
                            have c327b0 : (t260 == 0) = true := beq_iff_eq.mpr c327
                            have c327b1 : (t260 != 0) = false := bne_eq_false_iff_eq.mpr c327
                            clear c327
                            obtain ⟨ji328, hji328⟩ : ∃ j_ : Int, (Int.tmod x74_3 2) = j_ := ⟨_, rfl⟩
                            (first | rw [hji328] at H | simp only [hji328] at H)
                            by_cases c329 : 0 ≤ (ji328)
                            ·rw [if_pos c329] at H
                             have c329b0 : decide (0 ≤ (ji328)) = true := decide_eq_true c329
                             clear c329
                             by_cases c330 : (ji328) < 2
                             ·rw [if_pos c330] at H
                              have c330b0 : decide ((ji328) < 2) = true := decide_eq_true c330
                              clear c330
                              by_cases c331 : (ji328) = 0
                              ·rw [if_pos c331] at H
                               have c331b0 : ((ji328) == 0) = true := beq_iff_eq.mpr c331
                               have c331b1 : ((ji328) != 0) = false := bne_eq_false_iff_eq.mpr c331
                               clear c331; obtain ⟨c332b, c332g, c332c, c332d⟩ := xar ((ji328) : Int) 0 0 2
                               by_cases c333 : t259 = (wrap64 ((wrap64 (x18_47 - z239a3)) - t261))
                               ·rw [if_pos c333] at H
                                have c333b0 : (t259 == (wrap64 ((wrap64 (x18_47 - z239a3)) - t261))) = true := beq_iff_eq.mpr c333
                                have c333b1 : (t259 != (wrap64 ((wrap64 (x18_47 - z239a3)) - t261))) = false := bne_eq_false_iff_eq.mpr c333
                                clear c333; obtain ⟨c334b, c334g, c334c, c334d⟩ := xar ((ji328) : Int) 0 0 2
                                by_cases c335 : z236e3 = x19_47
                                ·rw [if_pos c335] at H
                                 have c335b0 : (z236e3 == x19_47) = true := beq_iff_eq.mpr c335
                                 have c335b1 : (z236e3 != x19_47) = false := bne_eq_false_iff_eq.mpr c335
                                 clear c335; obtain ⟨c336b, c336g, c336c, c336d⟩ := xar ((ji328) : Int) 0 0 2
                                 have H' := Aside0.mk H
                                 clear H; have hcz341_0 := blkc2 BK238.out; have hcz345_0 := blkc10 BK235.out
                                 go_wp2
                                 go_meet
                                 case rel => exact ⟨_, ((z236c3 != x20_47)), (xrf), (by first | exact H' | (try rw [hji328]; exact H')), ⟨by have := HJ13.out; have := HJ28.out; have := HK3.out; have := HJ44.out; have := HJ47.out; have := HJ117.out; first | omega | exact Nat.le_refl _⟩, ⟨xK BK217⟩, ⟨xK BK235⟩, ⟨xK BK237⟩, ⟨xK BK238⟩, ⟨xK BK258⟩, ⟨xW HB⟩⟩
                                ·rw [if_neg c335] at H
                                 have c335b0 : (z236e3 == x19_47) = false := beq_eq_false_iff_ne.mpr c335
                                 have c335b1 : (z236e3 != x19_47) = true := bne_iff_ne.mpr c335; clear c335
                                 have H' := Aside0.mk H
                                 clear H; have hcz350_0 := blkc2 BK238.out; have hcz354_0 := blkc10 BK235.out
                                 go_wp2
                                 go_meet
                                 case rel => exact ⟨_, (true), (xrf), (by first | exact H' | (try rw [hji328]; exact H')), ⟨by have := HJ13.out; have := HJ28.out; have := HK3.out; have := HJ44.out; have := HJ47.out; have := HJ117.out; first | omega | exact Nat.le_refl _⟩, ⟨xK BK217⟩, ⟨xK BK235⟩, ⟨xK BK237⟩, ⟨xK BK238⟩, ⟨xK BK258⟩, ⟨xW HB⟩⟩
                               ·rw [if_neg c333] at H
                                have c333b0 : (t259 == (wrap64 ((wrap64 (x18_47 - z239a3)) - t261))) = false := beq_eq_false_iff_ne.mpr c333
                                have c333b1 : (t259 != (wrap64 ((wrap64 (x18_47 - z239a3)) - t261))) = true := bne_iff_ne.mpr c333; clear c333
                                have H' := Aside0.mk H
                                clear H; have hcz359_0 := blkc2 BK238.out
                                go_wp2
                                go_meet
                                case rel => exact ⟨_, (true), (xrf), (by first | exact H' | (try rw [hji328]; exact H')), ⟨by have := HJ13.out; have := HJ28.out; have := HK3.out; have := HJ44.out; have := HJ47.out; have := HJ117.out; first | omega | exact Nat.le_refl _⟩, ⟨xK BK217⟩, ⟨xK BK235⟩, ⟨xK BK237⟩, ⟨xK BK238⟩, ⟨xK BK258⟩, ⟨xW HB⟩⟩
                              ·rw [if_neg c331] at H
                               have c331b0 : ((ji328) == 0) = false := beq_eq_false_iff_ne.mpr c331
                               have c331b1 : ((ji328) != 0) = true := bne_iff_ne.mpr c331
                               obtain ⟨c360b, c360g, c360c, c360d⟩ := xar ((ji328) : Int) 1 1 2
                               by_cases c361 : t259 = (wrap64 ((wrap64 (x18_47 - z239b3)) - t261))
                               ·rw [if_pos c361] at H
                                have c361b0 : (t259 == (wrap64 ((wrap64 (x18_47 - z239b3)) - t261))) = true := beq_iff_eq.mpr c361
                                have c361b1 : (t259 != (wrap64 ((wrap64 (x18_47 - z239b3)) - t261))) = false := bne_eq_false_iff_eq.mpr c361
                                clear c361; obtain ⟨c362b, c362g, c362c, c362d⟩ := xar ((ji328) : Int) 1 1 2
                                by_cases c363 : z236f3 = x19_47
                                ·rw [if_pos c363] at H
                                 have c363b0 : (z236f3 == x19_47) = true := beq_iff_eq.mpr c363
                                 have c363b1 : (z236f3 != x19_47) = false := bne_eq_false_iff_eq.mpr c363
                                 clear c363; obtain ⟨c364b, c364g, c364c, c364d⟩ := xar ((ji328) : Int) 1 1 2
                                 have H' := Aside0.mk H
                                 clear H; have hcz369_0 := blkc2 BK238.out; have hcz373_0 := blkc10 BK235.out
                                 go_wp2
                                 go_meet
                                 case rel => exact ⟨_, ((z236d3 != x20_47)), (xrf), (by first | exact H' | (try rw [hji328]; exact H')), ⟨by have := HJ13.out; have := HJ28.out; have := HK3.out; have := HJ44.out; have := HJ47.out; have := HJ117.out; first | omega | exact Nat.le_refl _⟩, ⟨xK BK217⟩, ⟨xK BK235⟩, ⟨xK BK237⟩, ⟨xK BK238⟩, ⟨xK BK258⟩, ⟨xW HB⟩⟩
                                ·rw [if_neg c363] at H
                                 have c363b0 : (z236f3 == x19_47) = false := beq_eq_false_iff_ne.mpr c363
                                 have c363b1 : (z236f3 != x19_47) = true := bne_iff_ne.mpr c363; clear c363
                                 have H' := Aside0.mk H
                                 clear H; have hcz378_0 := blkc2 BK238.out; have hcz382_0 := blkc10 BK235.out
                                 go_wp2
                                 go_meet
                                 case rel => exact ⟨_, (true), (xrf), (by first | exact H' | (try rw [hji328]; exact H')), ⟨by have := HJ13.out; have := HJ28.out; have := HK3.out; have := HJ44.out; have := HJ47.out; have := HJ117.out; first | omega | exact Nat.le_refl _⟩, ⟨xK BK217⟩, ⟨xK BK235⟩, ⟨xK BK237⟩, ⟨xK BK238⟩, ⟨xK BK258⟩, ⟨xW HB⟩⟩
                               ·rw [if_neg c361] at H
                                have c361b0 : (t259 == (wrap64 ((wrap64 (x18_47 - z239b3)) - t261))) = false := beq_eq_false_iff_ne.mpr c361
                                have c361b1 : (t259 != (wrap64 ((wrap64 (x18_47 - z239b3)) - t261))) = true := bne_iff_ne.mpr c361; clear c361
                                have H' := Aside0.mk H
                                clear H; have hcz387_0 := blkc2 BK238.out
                                go_wp2
                                go_meet
                                case rel => exact ⟨_, (true), (xrf), (by first | exact H' | (try rw [hji328]; exact H')), ⟨by have := HJ13.out; have := HJ28.out; have := HK3.out; have := HJ44.out; have := HJ47.out; have := HJ117.out; first | omega | exact Nat.le_refl _⟩, ⟨xK BK217⟩, ⟨xK BK235⟩, ⟨xK BK237⟩, ⟨xK BK238⟩, ⟨xK BK258⟩, ⟨xW HB⟩⟩
                             ·rw [if_neg c330] at H
                              exact absurd H (by simp)
                            ·rw [if_neg c329] at H
                             exact absurd H (by simp)
                           ·rw [if_neg c327] at H
                            have c327b0 : (t260 == 0) = false := beq_eq_false_iff_ne.mpr c327
                            have c327b1 : (t260 != 0) = true := bne_iff_ne.mpr c327; clear c327
                            have H' := Aside0.mk H
                            clear H
                            go_wp2
                            go_meet
                            case rel => exact ⟨_, (true), (xrf), H', ⟨by have := HJ13.out; have := HJ28.out; have := HK3.out; have := HJ44.out; have := HJ47.out; have := HJ117.out; first | omega | exact Nat.le_refl _⟩, ⟨xK BK217⟩, ⟨xK BK235⟩, ⟨xK BK237⟩, ⟨xK BK238⟩, ⟨xK BK258⟩, ⟨xW HB⟩⟩⟩
                           exact inferInstanceAs _
                          ·rw [if_neg c326] at H
                           have c326b0 : (t257 == 0) = false := beq_eq_false_iff_ne.mpr c326
                           have c326b1 : (t257 != 0) = true := bne_iff_ne.mpr c326; clear c326
                           (first | rw [c326b0] | (simp only [i64_w, i32_w]; rw [c326b0]) | skip)
                           have H' := Aside0.mk H
                           clear H
                           go_wp2
                           go_meet
                           case rel => exact ⟨_, (true), (xrf), H', ⟨by have := HJ13.out; have := HJ28.out; have := HK3.out; have := HJ44.out; have := HJ47.out; have := HJ117.out; first | omega | exact Nat.le_refl _⟩, ⟨xK BK217⟩, ⟨xK BK235⟩, ⟨xK BK237⟩, ⟨xK BK238⟩, ⟨xK BK258⟩, ⟨xW HB⟩⟩⟩
                          exact inferInstanceAs _
                         case rest =>
                          refine box_ ?g18;letI i:type_of% ?g18:=⟨by
                          clear HC325; (try clear q1); (try clear p2); (try clear q2); (try clear hx2); (try clear p6); (try clear q17); (try clear p24); (try clear q24); (try clear hx24); (try clear p64); (try clear p240); (try clear q240); (try clear hx240); (try clear hx240_0); (try clear p2); (try clear p24); (try clear p240); (try clear q1); (try clear q17); (try clear q2); (try clear q24); (try clear q240)
                          obtain ⟨kq, x212_324, rfl, HA, HJ324, BK217, BK235, BK237, BK238, BK258, HB⟩ := hcut
                          cases kq with
                          | zero => exact absurd HA.out (by simp [gamehalllaw3_ClockRuns.j6])
                          | succ kj324 =>
                           have H := HA.out; clear HA
                           simp only [gamehalllaw3_ClockRuns.j6] at H
                           by_cases c388 : x212_324 = true
                           ·subst c388
                            rw [if_pos rfl] at H
                            obtain rfl := Option.some.inj H
                            go_wp2
                            go_ret
                            exact ⟨by first | rfl | (simp [errW_none, errW_some] <;> rfl) | (simp only [← hji7]; first | rfl | (simp [errW_none, errW_some] <;> rfl)) | (simp [*, errW_none, errW_some] <;> rfl), xW HB⟩
                           ·replace c388 := Bool.eq_false_iff.mpr c388
                            subst c388
                            rw [if_neg (show ¬ (false = true) by decide)] at H
                            obtain ⟨ji389, hji389⟩ : ∃ j_ : Int, (Int.tmod x74_3 2) = j_ := ⟨_, rfl⟩
                            (first | rw [hji389] at H | simp only [hji389] at H)
                            by_cases c390 : 0 ≤ (ji389)
                            ·refine box_ ?g19;letI i:type_of% ?g19:=⟨by
                             rw [if_pos c390] at H
                             have c390b0 : decide (0 ≤ (ji389)) = true := decide_eq_true c390
                             clear c390
                             by_cases c391 : (ji389) < 2
                             ·refine box_ ?g20;letI i:type_of% ?g20:=⟨by
                              rw [if_pos c391] at H
                              have c391b0 : decide ((ji389) < 2) = true := decide_eq_true c391
                              clear c391
                              by_cases c392 : (ji389) = 0
                              ·refine box_ ?g21;letI i:type_of% ?g21:=⟨by
                               rw [if_pos c392] at H
                               have c392b0 : ((ji389) == 0) = true := beq_iff_eq.mpr c392
                               have c392b1 : ((ji389) != 0) = false := bne_eq_false_iff_eq.mpr c392
                               clear c392; obtain ⟨c393b, c393g, c393c, c393d⟩ := xar ((ji389) : Int) 0 0 2; obtain ⟨c394b, c394g, c394c, c394d⟩ := xar ((ji389) : Int) 0 0 2; obtain ⟨c395b, c395g, c395c, c395d⟩ := xar ((ji389) : Int) 0 0 2; obtain ⟨c396b, c396g, c396c, c396d⟩ := xar ((ji389) : Int) 0 0 2; obtain ⟨c397b, c397g, c397c, c397d⟩ := xar ((ji389) : Int) 0 0 2; replace H := Option.bind_eq_some_iff.mp H
                               obtain ⟨⟨t274, t275, t276⟩, A3980, H⟩ := H
                               try dsimp only at H
                               have A398 := Aside0.mk A3980; clear A3980; obtain ⟨c399b, c399g, c399c, c399d⟩ := xar ((ji389) : Int) 0 0 2; obtain ⟨c400b, c400g, c400c, c400d⟩ := xar ((ji389) : Int) 0 0 2
                               by_cases c401 : t247 = (wrap64 (t274 - (wrap64 (z239a3 + t261))))
                               ·refine box_ ?g22;letI i:type_of% ?g22:=⟨by
                                rw [if_pos c401] at H
                                have c401b0 : (t247 == (wrap64 (t274 - (wrap64 (z239a3 + t261))))) = true := beq_iff_eq.mpr c401
                                have c401b1 : (t247 != (wrap64 (t274 - (wrap64 (z239a3 + t261))))) = false := bne_eq_false_iff_eq.mpr c401
                                clear c401
                                by_cases c402 : t253 = (wrap64 (1 - (ji389)))
                                ·refine box_ ?g23;letI i:type_of% ?g23:=⟨by
                                 rw [if_pos c402] at H
                                 have c402b0 : (t253 == (wrap64 (1 - (ji389)))) = true := beq_iff_eq.mpr c402
                                 have c402b1 : (t253 != (wrap64 (1 - (ji389)))) = false := bne_eq_false_iff_eq.mpr c402
                                 clear c402
                                 by_cases c403 : t254 = (wrap64 (x12_3 + (rd y219 x74_3)))
                                 ·refine box_ ?g24;letI i:type_of% ?g24:=⟨by
                                  rw [if_pos c403] at H
                                  have c403b0 : (t254 == (wrap64 (x12_3 + (rd y219 x74_3)))) = true := beq_iff_eq.mpr c403
                                  have c403b1 : (t254 != (wrap64 (x12_3 + (rd y219 x74_3)))) = false := bne_eq_false_iff_eq.mpr c403
                                  clear c403
                                  by_cases c404 : t256 = (-1)
                                  ·rw [if_pos c404] at H
                                   have c404b0 : (t256 == (-1)) = true := beq_iff_eq.mpr c404
                                   have c404b1 : (t256 != (-1)) = false := bne_eq_false_iff_eq.mpr c404
                                   clear c404
                                   have H' := Aside0.mk H
                                   clear H
                                   try go_wp2
                                   replace BK217 := Aside0.mk (blk_drew BK217.out); replace BK235 := Aside0.mk (blk_drew BK235.out); replace BK237 := Aside0.mk (blk_drew BK237.out); replace BK238 := Aside0.mk (blk_drew BK238.out); replace BK258 := Aside0.mk (blk_drew BK258.out); replace HB := Aside0.mk (below_drew1 HB.out)
                                   refine start_ (n := 19) (S := fun w' => ce w' gb238 0 (.int .i64 z239a3) ∧ ce w' gb238 1 (.int .i64 z239b3)) (ds := [18]) (mk 19 0) kr_ rfl rfl ⟨xc BK238 0, xc BK238 1⟩ (fun hHeld => ?_); refine with_tabW gamehalllaw3_ClockRuns.tab32 gamehalllaw3_ClockRuns.bits32 (fun HT_ HW_ => ?_)
                                   generalize wc.drew = w405 at BK217 BK235 BK237 BK238 BK258 HB hHeld ⊢; refine pu_ 0 213 HT_ ?_; refine pu_ 1 214 HT_ ?_; refine pu_ 2 215 HT_ ?_; refine pu_ 3 216 HT_ ?_; refine pu_ 4 217 HT_ ?_; refine pu_ 5 218 HT_ ?_; refine pu_ 6 219 HT_ ?_; refine pu_ 9 222 HT_ ?_; refine pu_ 10 223 HT_ ?_; refine pu_ 12 225 HT_ ?_; refine pu_ 14 12 HT_ ?_; refine tk_ 11 224 HT_ HW_ hHeld ?_; refine pu_ 13 226 HT_ ?_
                                   refine one_ (i := 7) (N := some 220) #[true, true, true, true, true, true, true, true, false, true, true, true, true, true, true, false, false, false, false] rfl rfl (one_of HT_.out kr_) (by decide) (fun K hK => ?_)
                                   have hcv7_0 : w405.cell? ⟨gb237, 0, none⟩ = some (.int .i64 z238a3) := (blk_cell BK237.out 0).trans rfl
                                   have hcv7_1 : w405.cell? ⟨gb237, 1, none⟩ = some (.int .i64 z238b3) := (blk_cell BK237.out 1).trans rfl
                                   refine value_ (w1 := ?_) (v := ?_) (by rfl) rfl ?_ ?_
                                   rotate_left 2
                                   ·go_simp
                                    constructor
                                    ·rfl
                                    ·rfl
                                   refine hK.out _ _ ⟨hHeld.1, hHeld.2⟩ (fun hHeld => ?_)
                                   clear hK K
                                   refine norm_ (a' := ?_) ?_ ?_
                                   rotate_left
                                   ·show Act.put _ (some 220) _ = _
                                    simp only [Act.put, List.setIfInBounds_toArray, List.set_cons_zero, List.set_cons_succ, i64_w, i32_w]
                                    rfl
                                   refine pu_ 8 221 HT_ ?_; refine pu_ 15 227 HT_ ?_
                                   refine one_ (i := 16) (N := none) #[true, true, true, true, true, true, true, true, true, true, true, true, true, true, true, true, true, false, false] rfl rfl (one_of HT_.out kr_) (by decide) (fun K hK => ?_)
                                   have hs406 : w405.cell? ⟨gb237, 0, none⟩ = some (.int .i64 z238a3) := (blk_cell BK237.out 0).trans rfl
                                   have hfs406 := blk_frozen BK237.out 0; have hms406_0 := NB237_217.out; have hms406_1 := NB237_235.out; have hms406_3 := NB237_238.out; have hms406_4 := NB237_258.out
                                   refine skip_ (w1 := ?_) (by rfl) rfl ?_ ?_
                                   rotate_left
                                   ·go_simp
                                    rfl
                                   refine hK.out _ _ ⟨((cell_far (p := ⟨gb237, _, none⟩) NB238_237.out _).trans (hHeld.1)), ((cell_far (p := ⟨gb237, _, none⟩) NB238_237.out _).trans (hHeld.2))⟩ (fun hHeld => ?_)
                                   clear hK K; refine pu_ 17 228 HT_ ?_
                                   refine last_ (i := 18) (N := none) #[true, true, true, true, true, true, true, true, true, true, true, true, true, true, true, true, true, true, true] rfl rfl (one_of HT_.out kr_) (by decide) (fun K hK => ?_)
                                   have hs407 : w405.cell? ⟨gb238, 0, none⟩ = some (.int .i64 z239a3) := (blk_cell BK238.out 0).trans rfl
                                   have hfs407 := blk_frozen BK238.out 0; have hms407_0 := NB238_217.out; have hms407_1 := NB238_235.out; have hms407_2 := NB238_237.out; have hms407_4 := NB238_258.out
                                   refine skip_ (w1 := ?_) (by rfl) rfl ?_ ?_
                                   rotate_left
                                   ·go_simp
                                    rfl
                                   refine hK.out _ _ ?_
                                   clear hK K
                                   refine done_ (done_of HT_.out kr_) ?_
                                   try go_wp2
                                   have n0_ : Aside0 (((w405.setCell ⟨gb237, 0, none⟩ (.int .i64 (wrap64 (z238a3 + 1)))).setCell ⟨gb238, 0, none⟩ (.int .i64 (wrap64 (z239a3 + t261)))).heap[gb217]? = some (.cells #[.slice A0_0 l0_0.length c0_0, .int .i64 a0_1, .int .i64 a0_2] 24 (0, 0))) := ⟨xK BK217⟩
                                   have n1_ : Aside0 (((w405.setCell ⟨gb237, 0, none⟩ (.int .i64 (wrap64 (z238a3 + 1)))).setCell ⟨gb238, 0, none⟩ (.int .i64 (wrap64 (z239a3 + t261)))).heap[gb235]? = some (.cells #[.int .i64 z236a3, .int .i64 z236b3, .int .i64 z236c3, .int .i64 z236d3, .int .i64 z236e3, .int .i64 z236f3, .int .i64 z236g3, .int .i64 z236h3, .bool z236i3, .int .i64 z236j3] 31 (0, 0))) := ⟨xK BK235⟩
                                   have n2_ : Aside0 (((w405.setCell ⟨gb237, 0, none⟩ (.int .i64 (wrap64 (z238a3 + 1)))).setCell ⟨gb238, 0, none⟩ (.int .i64 (wrap64 (z239a3 + t261)))).heap[gb237]? = some (.cells #[.int .i64 (wrap64 (z238a3 + 1)), .int .i64 z238b3] 29 (0, 0))) := ⟨xQ BK237⟩
                                   have n3_ : Aside0 (((w405.setCell ⟨gb237, 0, none⟩ (.int .i64 (wrap64 (z238a3 + 1)))).setCell ⟨gb238, 0, none⟩ (.int .i64 (wrap64 (z239a3 + t261)))).heap[gb238]? = some (.cells #[.int .i64 (wrap64 (z239a3 + t261)), .int .i64 z239b3] 29 (0, 0))) := ⟨xQ BK238⟩
                                   have n4_ : Aside0 (((w405.setCell ⟨gb237, 0, none⟩ (.int .i64 (wrap64 (z238a3 + 1)))).setCell ⟨gb238, 0, none⟩ (.int .i64 (wrap64 (z239a3 + t261)))).heap[gb258]? = some (.cells #[.int .i64 t247, .int .i64 t248, .int .i64 t249, .int .i64 t250, .int .i64 t251, .int .i64 t252, .int .i64 t253, .int .i64 t254, .bool t255, .int .i64 t256] 31 (0, 0))) := ⟨xK BK258⟩
                                   have n5_ : Aside0 (Below w.heap.size w ((w405.setCell ⟨gb237, 0, none⟩ (.int .i64 (wrap64 (z238a3 + 1)))).setCell ⟨gb238, 0, none⟩ (.int .i64 (wrap64 (z239a3 + t261))))) := ⟨xW HB⟩
                                   (try clear BK217)
                                   (try clear BK235)
                                   (try clear BK237)
                                   (try clear BK238)
                                   (try clear BK258)
                                   (try clear HB)
                                   generalize ((w405.setCell ⟨gb237, 0, none⟩ (.int .i64 (wrap64 (z238a3 + 1)))).setCell ⟨gb238, 0, none⟩ (.int .i64 (wrap64 (z239a3 + t261)))) = w408 at n0_ n1_ n2_ n3_ n4_ n5_ ⊢; have BK217 := n0_; have BK235 := n1_; have BK237 := n2_; have BK238 := n3_; have BK258 := n4_; have HB := n5_; clear n0_ n1_ n2_ n3_ n4_ n5_; replace BK217 := Aside0.mk (blk_drew BK217.out); replace BK235 := Aside0.mk (blk_drew BK235.out); replace BK237 := Aside0.mk (blk_drew BK237.out); replace BK238 := Aside0.mk (blk_drew BK238.out); replace BK258 := Aside0.mk (blk_drew BK258.out); replace HB := Aside0.mk (below_drew1 HB.out)
                                   refine start_ (n := 10) (S := fun w' => ce w' gb217 0 (.slice A0_0 l0_0.length c0_0) ∧ ce w' gb217 1 (.int .i64 a0_1) ∧ ce w' gb217 2 (.int .i64 a0_2) ∧ w'.cell? ⟨gb237, 0, none⟩ = some (.int .i64 (wrap64 (z238a3 + 1))) ∧ ce w' gb237 1 (.int .i64 z238b3)) (ds := []) (mk 10 0) kr_ rfl rfl ⟨xc BK217 0, xc BK217 1, xc BK217 2, xc BK237 0, xc BK237 1⟩ (fun hHeld => ?_); refine with_tabW gamehalllaw3_ClockRuns.tab33 gamehalllaw3_ClockRuns.bits33 (fun HT_ HW_ => ?_)
                                   generalize w408.drew = w409 at BK217 BK235 BK237 BK238 BK258 HB hHeld ⊢; refine pu_ 1 231 HT_ ?_; refine pu_ 2 232 HT_ ?_; refine tk_ 0 230 HT_ HW_ hHeld ?_; refine tk_ 3 233 HT_ HW_ hHeld ?_
                                   refine one_ (i := 4) (N := some 234) #[true, true, true, true, true, false, false, false, false, false] rfl rfl (one_of HT_.out kr_) (by decide) (fun K hK => ?_)
                                   refine goes_ Try.func9 kr_ rfl #[.agg #[.slice A0_0 l0_0.length c0_0, .int .i64 a0_1, .int .i64 a0_2], .int .i64 (wrap64 (z238a3 + 1))] (by rfl) rfl rfl (by (try simp only [List.map_toArray, List.map_cons, List.map_nil]); first | done | rfl | (simp only [List.length_drop, List.length_take]; rfl)) ?_
                                   with_reducible refine (gamehallref3_Budget.calls kj324 _ _ l0_0 a0_1 a0_2 (wrap64 (z238a3 + 1)) t274 t275 t276 _ ?side1 ?side2 A398.out).mono ?_
                                   (case side1 => exact xC (Kd.C_below HR0_0.out HB.out))
                                   (case side2 => exact HC0_0.out)
                                   rintro e w410 ⟨rfl, hb⟩
                                   refine ⟨_, rfl, ?_⟩
                                   replace BK217 := Aside0.mk (xB BK217 hb); replace BK235 := Aside0.mk (xB BK235 hb); replace BK237 := Aside0.mk (xB BK237 hb); replace BK238 := Aside0.mk (xB BK238 hb); replace BK258 := Aside0.mk (xB BK258 hb); replace HB := Aside0.mk (xS HB hb)
                                   (try clear hb)
                                   (try clear hb2)
                                   (try clear hk)
                                   (try clear hi)
                                   refine hK.out _ _ ⟨(blk_cell BK217.out 0).trans rfl, (blk_cell BK217.out 1).trans rfl, (blk_cell BK217.out 2).trans rfl, (blk_cell BK237.out 0).trans rfl, (blk_cell BK237.out 1).trans rfl⟩ (fun hHeld => ?_)
                                   clear hK K
                                   refine norm_ (a' := ?_) ?_ ?_
                                   rotate_left
                                   ·show Act.put _ (some 234) _ = _
                                    simp only [Act.put, List.setIfInBounds_toArray, List.set_cons_zero, List.set_cons_succ, i64_w, i32_w]
                                    rfl
                                   refine pu_ 5 229 HT_ ?_; refine pu_ 6 235 HT_ ?_; refine pu_ 7 236 HT_ ?_; refine pu_ 8 237 HT_ ?_; refine pu_ 9 18 HT_ ?_
                                   refine done_ (done_of HT_.out kr_) ?_
                                   try go_wp2
                                   replace BK217 := Aside0.mk (blk_drew BK217.out); replace BK235 := Aside0.mk (blk_drew BK235.out); replace BK237 := Aside0.mk (blk_drew BK237.out); replace BK238 := Aside0.mk (blk_drew BK238.out); replace BK258 := Aside0.mk (blk_drew BK258.out); replace HB := Aside0.mk (below_drew1 HB.out)
                                   refine start_ (n := 28) (S := fun w' => ce w' gb258 0 (.int .i64 t247) ∧ ce w' gb258 1 (.int .i64 t248) ∧ ce w' gb258 2 (.int .i64 t249) ∧ ce w' gb258 3 (.int .i64 t250) ∧ ce w' gb258 4 (.int .i64 t251) ∧ ce w' gb258 5 (.int .i64 t252) ∧ ce w' gb258 6 (.int .i64 t253) ∧ ce w' gb258 7 (.int .i64 t254) ∧ ce w' gb258 8 (.bool t255) ∧ ce w' gb258 9 (.int .i64 t256) ∧ w'.cell? ⟨gb238, 0, none⟩ = some (.int .i64 (wrap64 (z239a3 + t261))) ∧ ce w' gb238 1 (.int .i64 z239b3)) (ds := []) (mk 28 0) kr_ rfl rfl ⟨xc BK258 0, xc BK258 1, xc BK258 2, xc BK258 3, xc BK258 4, xc BK258 5, xc BK258 6, xc BK258 7, xc BK258 8, xc BK258 9, xc BK238 0, xc BK238 1⟩ (fun hHeld => ?_); refine with_tabW gamehalllaw3_ClockRuns.tab34 gamehalllaw3_ClockRuns.bits34 (fun HT_ HW_ => ?_)
                                   generalize w410.drew = w411 at BK217 BK235 BK237 BK238 BK258 HB hHeld ⊢; refine pu_ 0 238 HT_ ?_; refine pu_ 1 239 HT_ ?_; refine pu_ 2 240 HT_ ?_; refine pu_ 4 242 HT_ ?_; refine pu_ 5 243 HT_ ?_; refine pu_ 6 244 HT_ ?_; refine tk_ 3 241 HT_ HW_ hHeld ?_; refine tk_ 7 245 HT_ HW_ hHeld ?_; refine pu_ 8 246 HT_ ?_; refine pu_ 9 247 HT_ ?_; refine pu_ 10 248 HT_ ?_; refine pu_ 11 249 HT_ ?_; refine pu_ 13 251 HT_ ?_; refine pu_ 14 252 HT_ ?_; refine tk_ 12 250 HT_ HW_ hHeld ?_; refine pu_ 15 253 HT_ ?_; refine pu_ 16 254 HT_ ?_; refine pu_ 17 255 HT_ ?_; refine pu_ 18 256 HT_ ?_; refine pu_ 20 258 HT_ ?_; refine tk_ 19 257 HT_ HW_ hHeld ?_; refine pu_ 21 259 HT_ ?_; refine pu_ 22 260 HT_ ?_; refine pu_ 23 261 HT_ ?_; refine pu_ 24 262 HT_ ?_; refine tk_ 25 263 HT_ HW_ hHeld ?_; refine pu_ 26 264 HT_ ?_; refine pu_ 27 265 HT_ ?_
                                   refine done_ (done_of HT_.out kr_) ?_
                                   have hcz416_0 := blkc10 BK258.out; have hcz420_0 := blkc10 BK235.out
                                   try go_wp2
                                   go_roundg kj324
                                   case measure => have := HJ13.out; have := HJ28.out; have := HK3.out; have := HJ44.out; have := HJ47.out; have := HJ117.out; have := HJ324.out; omega
                                   case rel => exact ⟨(wrap64 (x12_3 + (rd y219 x74_3))), (wrap64 (x74_3 + 1)), (t247), (t248), (t249), (t250), (t251), (t252), (t253), (t254), (t255), (t256), (wrap64 (z238a3 + 1)), (z238b3), (wrap64 (z239a3 + t261)), (z239b3), (xrf), (xrf), (by first | exact H' | (try rw [hji389]; exact H')), ⟨by have := HJ13.out; have := HJ28.out; have := HK3.out; have := HJ44.out; have := HJ47.out; have := HJ117.out; have := HJ324.out; omega⟩, ⟨xK BK217⟩, ⟨xQ BK235⟩, ⟨xK BK237⟩, ⟨xK BK238⟩, ⟨xW HB⟩⟩
                                  ·rw [if_neg c404] at H
                                   have c404b0 : (t256 == (-1)) = false := beq_eq_false_iff_ne.mpr c404
                                   have c404b1 : (t256 != (-1)) = true := bne_iff_ne.mpr c404; clear c404
                                   obtain rfl := Option.some.inj H
                                   try go_wp2
                                   replace BK217 := Aside0.mk (blk_drew BK217.out); replace BK235 := Aside0.mk (blk_drew BK235.out); replace BK237 := Aside0.mk (blk_drew BK237.out); replace BK238 := Aside0.mk (blk_drew BK238.out); replace BK258 := Aside0.mk (blk_drew BK258.out); replace HB := Aside0.mk (below_drew1 HB.out)
                                   refine start_ (n := 19) (S := fun w' => ce w' gb238 0 (.int .i64 z239a3) ∧ ce w' gb238 1 (.int .i64 z239b3)) (ds := [18]) (mk 19 0) kr_ rfl rfl ⟨xc BK238 0, xc BK238 1⟩ (fun hHeld => ?_); refine with_tabW gamehalllaw3_ClockRuns.tab32 gamehalllaw3_ClockRuns.bits32 (fun HT_ HW_ => ?_)
                                   generalize wc.drew = w421 at BK217 BK235 BK237 BK238 BK258 HB hHeld ⊢; refine pu_ 0 213 HT_ ?_; refine pu_ 1 214 HT_ ?_; refine pu_ 2 215 HT_ ?_; refine pu_ 3 216 HT_ ?_; refine pu_ 4 217 HT_ ?_; refine pu_ 5 218 HT_ ?_; refine pu_ 6 219 HT_ ?_; refine pu_ 9 222 HT_ ?_; refine pu_ 10 223 HT_ ?_; refine pu_ 12 225 HT_ ?_; refine pu_ 14 12 HT_ ?_; refine tk_ 11 224 HT_ HW_ hHeld ?_; refine pu_ 13 226 HT_ ?_
                                   refine one_ (i := 7) (N := some 220) #[true, true, true, true, true, true, true, true, false, true, true, true, true, true, true, false, false, false, false] rfl rfl (one_of HT_.out kr_) (by decide) (fun K hK => ?_)
                                   have hcv7_0 : w421.cell? ⟨gb237, 0, none⟩ = some (.int .i64 z238a3) := (blk_cell BK237.out 0).trans rfl
                                   have hcv7_1 : w421.cell? ⟨gb237, 1, none⟩ = some (.int .i64 z238b3) := (blk_cell BK237.out 1).trans rfl
                                   refine value_ (w1 := ?_) (v := ?_) (by rfl) rfl ?_ ?_
                                   rotate_left 2
                                   ·go_simp
                                    constructor
                                    ·rfl
                                    ·rfl
                                   refine hK.out _ _ ⟨hHeld.1, hHeld.2⟩ (fun hHeld => ?_)
                                   clear hK K
                                   refine norm_ (a' := ?_) ?_ ?_
                                   rotate_left
                                   ·show Act.put _ (some 220) _ = _
                                    simp only [Act.put, List.setIfInBounds_toArray, List.set_cons_zero, List.set_cons_succ, i64_w, i32_w]
                                    rfl
                                   refine pu_ 8 221 HT_ ?_; refine pu_ 15 227 HT_ ?_
                                   refine one_ (i := 16) (N := none) #[true, true, true, true, true, true, true, true, true, true, true, true, true, true, true, true, true, false, false] rfl rfl (one_of HT_.out kr_) (by decide) (fun K hK => ?_)
                                   have hs422 : w421.cell? ⟨gb237, 0, none⟩ = some (.int .i64 z238a3) := (blk_cell BK237.out 0).trans rfl
                                   have hfs422 := blk_frozen BK237.out 0; have hms422_0 := NB237_217.out; have hms422_1 := NB237_235.out; have hms422_3 := NB237_238.out; have hms422_4 := NB237_258.out
                                   refine skip_ (w1 := ?_) (by rfl) rfl ?_ ?_
                                   rotate_left
                                   ·go_simp
                                    rfl
                                   refine hK.out _ _ ⟨((cell_far (p := ⟨gb237, _, none⟩) NB238_237.out _).trans (hHeld.1)), ((cell_far (p := ⟨gb237, _, none⟩) NB238_237.out _).trans (hHeld.2))⟩ (fun hHeld => ?_)
                                   clear hK K; refine pu_ 17 228 HT_ ?_
                                   refine last_ (i := 18) (N := none) #[true, true, true, true, true, true, true, true, true, true, true, true, true, true, true, true, true, true, true] rfl rfl (one_of HT_.out kr_) (by decide) (fun K hK => ?_)
                                   have hs423 : w421.cell? ⟨gb238, 0, none⟩ = some (.int .i64 z239a3) := (blk_cell BK238.out 0).trans rfl
                                   have hfs423 := blk_frozen BK238.out 0; have hms423_0 := NB238_217.out; have hms423_1 := NB238_235.out; have hms423_2 := NB238_237.out; have hms423_4 := NB238_258.out
                                   refine skip_ (w1 := ?_) (by rfl) rfl ?_ ?_
                                   rotate_left
                                   ·go_simp
                                    rfl
                                   refine hK.out _ _ ?_
                                   clear hK K
                                   refine done_ (done_of HT_.out kr_) ?_
                                   try go_wp2
                                   have n0_ : Aside0 (((w421.setCell ⟨gb237, 0, none⟩ (.int .i64 (wrap64 (z238a3 + 1)))).setCell ⟨gb238, 0, none⟩ (.int .i64 (wrap64 (z239a3 + t261)))).heap[gb217]? = some (.cells #[.slice A0_0 l0_0.length c0_0, .int .i64 a0_1, .int .i64 a0_2] 24 (0, 0))) := ⟨xK BK217⟩
                                   have n1_ : Aside0 (((w421.setCell ⟨gb237, 0, none⟩ (.int .i64 (wrap64 (z238a3 + 1)))).setCell ⟨gb238, 0, none⟩ (.int .i64 (wrap64 (z239a3 + t261)))).heap[gb235]? = some (.cells #[.int .i64 z236a3, .int .i64 z236b3, .int .i64 z236c3, .int .i64 z236d3, .int .i64 z236e3, .int .i64 z236f3, .int .i64 z236g3, .int .i64 z236h3, .bool z236i3, .int .i64 z236j3] 31 (0, 0))) := ⟨xK BK235⟩
                                   have n2_ : Aside0 (((w421.setCell ⟨gb237, 0, none⟩ (.int .i64 (wrap64 (z238a3 + 1)))).setCell ⟨gb238, 0, none⟩ (.int .i64 (wrap64 (z239a3 + t261)))).heap[gb237]? = some (.cells #[.int .i64 (wrap64 (z238a3 + 1)), .int .i64 z238b3] 29 (0, 0))) := ⟨xQ BK237⟩
                                   have n3_ : Aside0 (((w421.setCell ⟨gb237, 0, none⟩ (.int .i64 (wrap64 (z238a3 + 1)))).setCell ⟨gb238, 0, none⟩ (.int .i64 (wrap64 (z239a3 + t261)))).heap[gb238]? = some (.cells #[.int .i64 (wrap64 (z239a3 + t261)), .int .i64 z239b3] 29 (0, 0))) := ⟨xQ BK238⟩
                                   have n4_ : Aside0 (((w421.setCell ⟨gb237, 0, none⟩ (.int .i64 (wrap64 (z238a3 + 1)))).setCell ⟨gb238, 0, none⟩ (.int .i64 (wrap64 (z239a3 + t261)))).heap[gb258]? = some (.cells #[.int .i64 t247, .int .i64 t248, .int .i64 t249, .int .i64 t250, .int .i64 t251, .int .i64 t252, .int .i64 t253, .int .i64 t254, .bool t255, .int .i64 t256] 31 (0, 0))) := ⟨xK BK258⟩
                                   have n5_ : Aside0 (Below w.heap.size w ((w421.setCell ⟨gb237, 0, none⟩ (.int .i64 (wrap64 (z238a3 + 1)))).setCell ⟨gb238, 0, none⟩ (.int .i64 (wrap64 (z239a3 + t261))))) := ⟨xW HB⟩
                                   (try clear BK217)
                                   (try clear BK235)
                                   (try clear BK237)
                                   (try clear BK238)
                                   (try clear BK258)
                                   (try clear HB)
                                   generalize ((w421.setCell ⟨gb237, 0, none⟩ (.int .i64 (wrap64 (z238a3 + 1)))).setCell ⟨gb238, 0, none⟩ (.int .i64 (wrap64 (z239a3 + t261)))) = w424 at n0_ n1_ n2_ n3_ n4_ n5_ ⊢; have BK217 := n0_; have BK235 := n1_; have BK237 := n2_; have BK238 := n3_; have BK258 := n4_; have HB := n5_; clear n0_ n1_ n2_ n3_ n4_ n5_; replace BK217 := Aside0.mk (blk_drew BK217.out); replace BK235 := Aside0.mk (blk_drew BK235.out); replace BK237 := Aside0.mk (blk_drew BK237.out); replace BK238 := Aside0.mk (blk_drew BK238.out); replace BK258 := Aside0.mk (blk_drew BK258.out); replace HB := Aside0.mk (below_drew1 HB.out)
                                   refine start_ (n := 10) (S := fun w' => ce w' gb217 0 (.slice A0_0 l0_0.length c0_0) ∧ ce w' gb217 1 (.int .i64 a0_1) ∧ ce w' gb217 2 (.int .i64 a0_2) ∧ w'.cell? ⟨gb237, 0, none⟩ = some (.int .i64 (wrap64 (z238a3 + 1))) ∧ ce w' gb237 1 (.int .i64 z238b3)) (ds := []) (mk 10 0) kr_ rfl rfl ⟨xc BK217 0, xc BK217 1, xc BK217 2, xc BK237 0, xc BK237 1⟩ (fun hHeld => ?_); refine with_tabW gamehalllaw3_ClockRuns.tab33 gamehalllaw3_ClockRuns.bits33 (fun HT_ HW_ => ?_)
                                   generalize w424.drew = w425 at BK217 BK235 BK237 BK238 BK258 HB hHeld ⊢; refine pu_ 1 231 HT_ ?_; refine pu_ 2 232 HT_ ?_; refine tk_ 0 230 HT_ HW_ hHeld ?_; refine tk_ 3 233 HT_ HW_ hHeld ?_
                                   refine one_ (i := 4) (N := some 234) #[true, true, true, true, true, false, false, false, false, false] rfl rfl (one_of HT_.out kr_) (by decide) (fun K hK => ?_)
                                   refine goes_ Try.func9 kr_ rfl #[.agg #[.slice A0_0 l0_0.length c0_0, .int .i64 a0_1, .int .i64 a0_2], .int .i64 (wrap64 (z238a3 + 1))] (by rfl) rfl rfl (by (try simp only [List.map_toArray, List.map_cons, List.map_nil]); first | done | rfl | (simp only [List.length_drop, List.length_take]; rfl)) ?_
                                   with_reducible refine (gamehallref3_Budget.calls kj324 _ _ l0_0 a0_1 a0_2 (wrap64 (z238a3 + 1)) t274 t275 t276 _ ?side1 ?side2 A398.out).mono ?_
                                   (case side1 => exact xC (Kd.C_below HR0_0.out HB.out))
                                   (case side2 => exact HC0_0.out)
                                   rintro e w426 ⟨rfl, hb⟩
                                   refine ⟨_, rfl, ?_⟩
                                   replace BK217 := Aside0.mk (xB BK217 hb); replace BK235 := Aside0.mk (xB BK235 hb); replace BK237 := Aside0.mk (xB BK237 hb); replace BK238 := Aside0.mk (xB BK238 hb); replace BK258 := Aside0.mk (xB BK258 hb); replace HB := Aside0.mk (xS HB hb)
                                   (try clear hb)
                                   (try clear hb2)
                                   (try clear hk)
                                   (try clear hi)
                                   refine hK.out _ _ ⟨(blk_cell BK217.out 0).trans rfl, (blk_cell BK217.out 1).trans rfl, (blk_cell BK217.out 2).trans rfl, (blk_cell BK237.out 0).trans rfl, (blk_cell BK237.out 1).trans rfl⟩ (fun hHeld => ?_)
                                   clear hK K
                                   refine norm_ (a' := ?_) ?_ ?_
                                   rotate_left
                                   ·show Act.put _ (some 234) _ = _
                                    simp only [Act.put, List.setIfInBounds_toArray, List.set_cons_zero, List.set_cons_succ, i64_w, i32_w]
                                    rfl
                                   refine pu_ 5 229 HT_ ?_; refine pu_ 6 235 HT_ ?_; refine pu_ 7 236 HT_ ?_; refine pu_ 8 237 HT_ ?_; refine pu_ 9 18 HT_ ?_
                                   refine done_ (done_of HT_.out kr_) ?_
                                   try go_wp2
                                   replace BK217 := Aside0.mk (blk_drew BK217.out); replace BK235 := Aside0.mk (blk_drew BK235.out); replace BK237 := Aside0.mk (blk_drew BK237.out); replace BK238 := Aside0.mk (blk_drew BK238.out); replace BK258 := Aside0.mk (blk_drew BK258.out); replace HB := Aside0.mk (below_drew1 HB.out)
                                   refine start_ (n := 28) (S := fun w' => ce w' gb258 0 (.int .i64 t247) ∧ ce w' gb258 1 (.int .i64 t248) ∧ ce w' gb258 2 (.int .i64 t249) ∧ ce w' gb258 3 (.int .i64 t250) ∧ ce w' gb258 4 (.int .i64 t251) ∧ ce w' gb258 5 (.int .i64 t252) ∧ ce w' gb258 6 (.int .i64 t253) ∧ ce w' gb258 7 (.int .i64 t254) ∧ ce w' gb258 8 (.bool t255) ∧ ce w' gb258 9 (.int .i64 t256) ∧ w'.cell? ⟨gb238, 0, none⟩ = some (.int .i64 (wrap64 (z239a3 + t261))) ∧ ce w' gb238 1 (.int .i64 z239b3)) (ds := []) (mk 28 0) kr_ rfl rfl ⟨xc BK258 0, xc BK258 1, xc BK258 2, xc BK258 3, xc BK258 4, xc BK258 5, xc BK258 6, xc BK258 7, xc BK258 8, xc BK258 9, xc BK238 0, xc BK238 1⟩ (fun hHeld => ?_); refine with_tabW gamehalllaw3_ClockRuns.tab34 gamehalllaw3_ClockRuns.bits34 (fun HT_ HW_ => ?_)
                                   generalize w426.drew = w427 at BK217 BK235 BK237 BK238 BK258 HB hHeld ⊢; refine pu_ 0 238 HT_ ?_; refine pu_ 1 239 HT_ ?_; refine pu_ 2 240 HT_ ?_; refine pu_ 4 242 HT_ ?_; refine pu_ 5 243 HT_ ?_; refine pu_ 6 244 HT_ ?_; refine tk_ 3 241 HT_ HW_ hHeld ?_; refine tk_ 7 245 HT_ HW_ hHeld ?_; refine pu_ 8 246 HT_ ?_; refine pu_ 9 247 HT_ ?_; refine pu_ 10 248 HT_ ?_; refine pu_ 11 249 HT_ ?_; refine pu_ 13 251 HT_ ?_; refine pu_ 14 252 HT_ ?_; refine tk_ 12 250 HT_ HW_ hHeld ?_; refine pu_ 15 253 HT_ ?_; refine pu_ 16 254 HT_ ?_; refine pu_ 17 255 HT_ ?_; refine pu_ 18 256 HT_ ?_; refine pu_ 20 258 HT_ ?_; refine tk_ 19 257 HT_ HW_ hHeld ?_; refine pu_ 21 259 HT_ ?_; refine pu_ 22 260 HT_ ?_; refine pu_ 23 261 HT_ ?_; refine pu_ 24 262 HT_ ?_; refine tk_ 25 263 HT_ HW_ hHeld ?_; refine pu_ 26 264 HT_ ?_; refine pu_ 27 265 HT_ ?_
                                   refine done_ (done_of HT_.out kr_) ?_
                                   try go_wp2
                                   go_ret
                                   exact ⟨by first | rfl | (simp [errW_none, errW_some] <;> rfl) | (simp only [← hji7, ← hji389]; first | rfl | (simp [errW_none, errW_some] <;> rfl)) | (simp [*, errW_none, errW_some] <;> rfl), xW HB⟩⟩
                                  exact inferInstanceAs _
                                 ·rw [if_neg c403] at H
                                  have c403b0 : (t254 == (wrap64 (x12_3 + (rd y219 x74_3)))) = false := beq_eq_false_iff_ne.mpr c403
                                  have c403b1 : (t254 != (wrap64 (x12_3 + (rd y219 x74_3)))) = true := bne_iff_ne.mpr c403; clear c403
                                  obtain rfl := Option.some.inj H
                                  try go_wp2
                                  replace BK217 := Aside0.mk (blk_drew BK217.out); replace BK235 := Aside0.mk (blk_drew BK235.out); replace BK237 := Aside0.mk (blk_drew BK237.out); replace BK238 := Aside0.mk (blk_drew BK238.out); replace BK258 := Aside0.mk (blk_drew BK258.out); replace HB := Aside0.mk (below_drew1 HB.out)
                                  refine start_ (n := 19) (S := fun w' => ce w' gb238 0 (.int .i64 z239a3) ∧ ce w' gb238 1 (.int .i64 z239b3)) (ds := [18]) (mk 19 0) kr_ rfl rfl ⟨xc BK238 0, xc BK238 1⟩ (fun hHeld => ?_); refine with_tabW gamehalllaw3_ClockRuns.tab32 gamehalllaw3_ClockRuns.bits32 (fun HT_ HW_ => ?_)
                                  generalize wc.drew = w428 at BK217 BK235 BK237 BK238 BK258 HB hHeld ⊢; refine pu_ 0 213 HT_ ?_; refine pu_ 1 214 HT_ ?_; refine pu_ 2 215 HT_ ?_; refine pu_ 3 216 HT_ ?_; refine pu_ 4 217 HT_ ?_; refine pu_ 5 218 HT_ ?_; refine pu_ 6 219 HT_ ?_; refine pu_ 9 222 HT_ ?_; refine pu_ 10 223 HT_ ?_; refine pu_ 12 225 HT_ ?_; refine pu_ 14 12 HT_ ?_; refine tk_ 11 224 HT_ HW_ hHeld ?_; refine pu_ 13 226 HT_ ?_
                                  refine one_ (i := 7) (N := some 220) #[true, true, true, true, true, true, true, true, false, true, true, true, true, true, true, false, false, false, false] rfl rfl (one_of HT_.out kr_) (by decide) (fun K hK => ?_)
                                  have hcv7_0 : w428.cell? ⟨gb237, 0, none⟩ = some (.int .i64 z238a3) := (blk_cell BK237.out 0).trans rfl
                                  have hcv7_1 : w428.cell? ⟨gb237, 1, none⟩ = some (.int .i64 z238b3) := (blk_cell BK237.out 1).trans rfl
                                  refine value_ (w1 := ?_) (v := ?_) (by rfl) rfl ?_ ?_
                                  rotate_left 2
                                  ·go_simp
                                   constructor
                                   ·rfl
                                   ·rfl
                                  refine hK.out _ _ ⟨hHeld.1, hHeld.2⟩ (fun hHeld => ?_)
                                  clear hK K
                                  refine norm_ (a' := ?_) ?_ ?_
                                  rotate_left
                                  ·show Act.put _ (some 220) _ = _
                                   simp only [Act.put, List.setIfInBounds_toArray, List.set_cons_zero, List.set_cons_succ, i64_w, i32_w]
                                   rfl
                                  refine pu_ 8 221 HT_ ?_; refine pu_ 15 227 HT_ ?_
                                  refine one_ (i := 16) (N := none) #[true, true, true, true, true, true, true, true, true, true, true, true, true, true, true, true, true, false, false] rfl rfl (one_of HT_.out kr_) (by decide) (fun K hK => ?_)
                                  have hs429 : w428.cell? ⟨gb237, 0, none⟩ = some (.int .i64 z238a3) := (blk_cell BK237.out 0).trans rfl
                                  have hfs429 := blk_frozen BK237.out 0; have hms429_0 := NB237_217.out; have hms429_1 := NB237_235.out; have hms429_3 := NB237_238.out; have hms429_4 := NB237_258.out
                                  refine skip_ (w1 := ?_) (by rfl) rfl ?_ ?_
                                  rotate_left
                                  ·go_simp
                                   rfl
                                  refine hK.out _ _ ⟨((cell_far (p := ⟨gb237, _, none⟩) NB238_237.out _).trans (hHeld.1)), ((cell_far (p := ⟨gb237, _, none⟩) NB238_237.out _).trans (hHeld.2))⟩ (fun hHeld => ?_)
                                  clear hK K; refine pu_ 17 228 HT_ ?_
                                  refine last_ (i := 18) (N := none) #[true, true, true, true, true, true, true, true, true, true, true, true, true, true, true, true, true, true, true] rfl rfl (one_of HT_.out kr_) (by decide) (fun K hK => ?_)
                                  have hs430 : w428.cell? ⟨gb238, 0, none⟩ = some (.int .i64 z239a3) := (blk_cell BK238.out 0).trans rfl
                                  have hfs430 := blk_frozen BK238.out 0; have hms430_0 := NB238_217.out; have hms430_1 := NB238_235.out; have hms430_2 := NB238_237.out; have hms430_4 := NB238_258.out
                                  refine skip_ (w1 := ?_) (by rfl) rfl ?_ ?_
                                  rotate_left
                                  ·go_simp
                                   rfl
                                  refine hK.out _ _ ?_
                                  clear hK K
                                  refine done_ (done_of HT_.out kr_) ?_
                                  try go_wp2
                                  have n0_ : Aside0 (((w428.setCell ⟨gb237, 0, none⟩ (.int .i64 (wrap64 (z238a3 + 1)))).setCell ⟨gb238, 0, none⟩ (.int .i64 (wrap64 (z239a3 + t261)))).heap[gb217]? = some (.cells #[.slice A0_0 l0_0.length c0_0, .int .i64 a0_1, .int .i64 a0_2] 24 (0, 0))) := ⟨xK BK217⟩
                                  have n1_ : Aside0 (((w428.setCell ⟨gb237, 0, none⟩ (.int .i64 (wrap64 (z238a3 + 1)))).setCell ⟨gb238, 0, none⟩ (.int .i64 (wrap64 (z239a3 + t261)))).heap[gb235]? = some (.cells #[.int .i64 z236a3, .int .i64 z236b3, .int .i64 z236c3, .int .i64 z236d3, .int .i64 z236e3, .int .i64 z236f3, .int .i64 z236g3, .int .i64 z236h3, .bool z236i3, .int .i64 z236j3] 31 (0, 0))) := ⟨xK BK235⟩
                                  have n2_ : Aside0 (((w428.setCell ⟨gb237, 0, none⟩ (.int .i64 (wrap64 (z238a3 + 1)))).setCell ⟨gb238, 0, none⟩ (.int .i64 (wrap64 (z239a3 + t261)))).heap[gb237]? = some (.cells #[.int .i64 (wrap64 (z238a3 + 1)), .int .i64 z238b3] 29 (0, 0))) := ⟨xQ BK237⟩
                                  have n3_ : Aside0 (((w428.setCell ⟨gb237, 0, none⟩ (.int .i64 (wrap64 (z238a3 + 1)))).setCell ⟨gb238, 0, none⟩ (.int .i64 (wrap64 (z239a3 + t261)))).heap[gb238]? = some (.cells #[.int .i64 (wrap64 (z239a3 + t261)), .int .i64 z239b3] 29 (0, 0))) := ⟨xQ BK238⟩
                                  have n4_ : Aside0 (((w428.setCell ⟨gb237, 0, none⟩ (.int .i64 (wrap64 (z238a3 + 1)))).setCell ⟨gb238, 0, none⟩ (.int .i64 (wrap64 (z239a3 + t261)))).heap[gb258]? = some (.cells #[.int .i64 t247, .int .i64 t248, .int .i64 t249, .int .i64 t250, .int .i64 t251, .int .i64 t252, .int .i64 t253, .int .i64 t254, .bool t255, .int .i64 t256] 31 (0, 0))) := ⟨xK BK258⟩
                                  have n5_ : Aside0 (Below w.heap.size w ((w428.setCell ⟨gb237, 0, none⟩ (.int .i64 (wrap64 (z238a3 + 1)))).setCell ⟨gb238, 0, none⟩ (.int .i64 (wrap64 (z239a3 + t261))))) := ⟨xW HB⟩
                                  (try clear BK217)
                                  (try clear BK235)
                                  (try clear BK237)
                                  (try clear BK238)
                                  (try clear BK258)
                                  (try clear HB)
                                  generalize ((w428.setCell ⟨gb237, 0, none⟩ (.int .i64 (wrap64 (z238a3 + 1)))).setCell ⟨gb238, 0, none⟩ (.int .i64 (wrap64 (z239a3 + t261)))) = w431 at n0_ n1_ n2_ n3_ n4_ n5_ ⊢; have BK217 := n0_; have BK235 := n1_; have BK237 := n2_; have BK238 := n3_; have BK258 := n4_; have HB := n5_; clear n0_ n1_ n2_ n3_ n4_ n5_; replace BK217 := Aside0.mk (blk_drew BK217.out); replace BK235 := Aside0.mk (blk_drew BK235.out); replace BK237 := Aside0.mk (blk_drew BK237.out); replace BK238 := Aside0.mk (blk_drew BK238.out); replace BK258 := Aside0.mk (blk_drew BK258.out); replace HB := Aside0.mk (below_drew1 HB.out)
                                  refine start_ (n := 10) (S := fun w' => ce w' gb217 0 (.slice A0_0 l0_0.length c0_0) ∧ ce w' gb217 1 (.int .i64 a0_1) ∧ ce w' gb217 2 (.int .i64 a0_2) ∧ w'.cell? ⟨gb237, 0, none⟩ = some (.int .i64 (wrap64 (z238a3 + 1))) ∧ ce w' gb237 1 (.int .i64 z238b3)) (ds := []) (mk 10 0) kr_ rfl rfl ⟨xc BK217 0, xc BK217 1, xc BK217 2, xc BK237 0, xc BK237 1⟩ (fun hHeld => ?_); refine with_tabW gamehalllaw3_ClockRuns.tab33 gamehalllaw3_ClockRuns.bits33 (fun HT_ HW_ => ?_)
                                  generalize w431.drew = w432 at BK217 BK235 BK237 BK238 BK258 HB hHeld ⊢; refine pu_ 1 231 HT_ ?_; refine pu_ 2 232 HT_ ?_; refine tk_ 0 230 HT_ HW_ hHeld ?_; refine tk_ 3 233 HT_ HW_ hHeld ?_
                                  refine one_ (i := 4) (N := some 234) #[true, true, true, true, true, false, false, false, false, false] rfl rfl (one_of HT_.out kr_) (by decide) (fun K hK => ?_)
                                  refine goes_ Try.func9 kr_ rfl #[.agg #[.slice A0_0 l0_0.length c0_0, .int .i64 a0_1, .int .i64 a0_2], .int .i64 (wrap64 (z238a3 + 1))] (by rfl) rfl rfl (by (try simp only [List.map_toArray, List.map_cons, List.map_nil]); first | done | rfl | (simp only [List.length_drop, List.length_take]; rfl)) ?_
                                  with_reducible refine (gamehallref3_Budget.calls kj324 _ _ l0_0 a0_1 a0_2 (wrap64 (z238a3 + 1)) t274 t275 t276 _ ?side1 ?side2 A398.out).mono ?_
                                  (case side1 => exact xC (Kd.C_below HR0_0.out HB.out))
                                  (case side2 => exact HC0_0.out)
                                  rintro e w433 ⟨rfl, hb⟩
                                  refine ⟨_, rfl, ?_⟩
                                  replace BK217 := Aside0.mk (xB BK217 hb); replace BK235 := Aside0.mk (xB BK235 hb); replace BK237 := Aside0.mk (xB BK237 hb); replace BK238 := Aside0.mk (xB BK238 hb); replace BK258 := Aside0.mk (xB BK258 hb); replace HB := Aside0.mk (xS HB hb)
                                  (try clear hb)
                                  (try clear hb2)
                                  (try clear hk)
                                  (try clear hi)
                                  refine hK.out _ _ ⟨(blk_cell BK217.out 0).trans rfl, (blk_cell BK217.out 1).trans rfl, (blk_cell BK217.out 2).trans rfl, (blk_cell BK237.out 0).trans rfl, (blk_cell BK237.out 1).trans rfl⟩ (fun hHeld => ?_)
                                  clear hK K
                                  refine norm_ (a' := ?_) ?_ ?_
                                  rotate_left
                                  ·show Act.put _ (some 234) _ = _
                                   simp only [Act.put, List.setIfInBounds_toArray, List.set_cons_zero, List.set_cons_succ, i64_w, i32_w]
                                   rfl
                                  refine pu_ 5 229 HT_ ?_; refine pu_ 6 235 HT_ ?_; refine pu_ 7 236 HT_ ?_; refine pu_ 8 237 HT_ ?_; refine pu_ 9 18 HT_ ?_
                                  refine done_ (done_of HT_.out kr_) ?_
                                  try go_wp2
                                  replace BK217 := Aside0.mk (blk_drew BK217.out); replace BK235 := Aside0.mk (blk_drew BK235.out); replace BK237 := Aside0.mk (blk_drew BK237.out); replace BK238 := Aside0.mk (blk_drew BK238.out); replace BK258 := Aside0.mk (blk_drew BK258.out); replace HB := Aside0.mk (below_drew1 HB.out)
                                  refine start_ (n := 28) (S := fun w' => ce w' gb258 0 (.int .i64 t247) ∧ ce w' gb258 1 (.int .i64 t248) ∧ ce w' gb258 2 (.int .i64 t249) ∧ ce w' gb258 3 (.int .i64 t250) ∧ ce w' gb258 4 (.int .i64 t251) ∧ ce w' gb258 5 (.int .i64 t252) ∧ ce w' gb258 6 (.int .i64 t253) ∧ ce w' gb258 7 (.int .i64 t254) ∧ ce w' gb258 8 (.bool t255) ∧ ce w' gb258 9 (.int .i64 t256) ∧ w'.cell? ⟨gb238, 0, none⟩ = some (.int .i64 (wrap64 (z239a3 + t261))) ∧ ce w' gb238 1 (.int .i64 z239b3)) (ds := []) (mk 28 0) kr_ rfl rfl ⟨xc BK258 0, xc BK258 1, xc BK258 2, xc BK258 3, xc BK258 4, xc BK258 5, xc BK258 6, xc BK258 7, xc BK258 8, xc BK258 9, xc BK238 0, xc BK238 1⟩ (fun hHeld => ?_); refine with_tabW gamehalllaw3_ClockRuns.tab34 gamehalllaw3_ClockRuns.bits34 (fun HT_ HW_ => ?_)
                                  generalize w433.drew = w434 at BK217 BK235 BK237 BK238 BK258 HB hHeld ⊢; refine pu_ 0 238 HT_ ?_; refine pu_ 1 239 HT_ ?_; refine pu_ 2 240 HT_ ?_; refine pu_ 4 242 HT_ ?_; refine pu_ 5 243 HT_ ?_; refine pu_ 6 244 HT_ ?_; refine tk_ 3 241 HT_ HW_ hHeld ?_; refine tk_ 7 245 HT_ HW_ hHeld ?_; refine pu_ 8 246 HT_ ?_; refine pu_ 9 247 HT_ ?_; refine pu_ 10 248 HT_ ?_; refine pu_ 11 249 HT_ ?_; refine pu_ 13 251 HT_ ?_; refine pu_ 14 252 HT_ ?_; refine tk_ 12 250 HT_ HW_ hHeld ?_; refine pu_ 15 253 HT_ ?_; refine pu_ 16 254 HT_ ?_; refine pu_ 17 255 HT_ ?_; refine pu_ 18 256 HT_ ?_; refine pu_ 20 258 HT_ ?_; refine tk_ 19 257 HT_ HW_ hHeld ?_; refine pu_ 21 259 HT_ ?_; refine pu_ 22 260 HT_ ?_; refine pu_ 23 261 HT_ ?_; refine pn_ 24 262 HT_ ?_; refine pn_ 25 263 HT_ ?_; refine pn_ 26 264 HT_ ?_; refine pu_ 27 265 HT_ ?_
                                  refine done_ (done_of HT_.out kr_) ?_
                                  try go_wp2
                                  go_ret
                                  exact ⟨by first | rfl | (simp [errW_none, errW_some] <;> rfl) | (simp only [← hji7, ← hji389]; first | rfl | (simp [errW_none, errW_some] <;> rfl)) | (simp [*, errW_none, errW_some] <;> rfl), xW HB⟩⟩
                                 exact inferInstanceAs _
                                ·rw [if_neg c402] at H
                                 have c402b0 : (t253 == (wrap64 (1 - (ji389)))) = false := beq_eq_false_iff_ne.mpr c402
                                 have c402b1 : (t253 != (wrap64 (1 - (ji389)))) = true := bne_iff_ne.mpr c402; clear c402
                                 obtain rfl := Option.some.inj H
                                 try go_wp2
                                 replace BK217 := Aside0.mk (blk_drew BK217.out); replace BK235 := Aside0.mk (blk_drew BK235.out); replace BK237 := Aside0.mk (blk_drew BK237.out); replace BK238 := Aside0.mk (blk_drew BK238.out); replace BK258 := Aside0.mk (blk_drew BK258.out); replace HB := Aside0.mk (below_drew1 HB.out)
                                 refine start_ (n := 19) (S := fun w' => ce w' gb238 0 (.int .i64 z239a3) ∧ ce w' gb238 1 (.int .i64 z239b3)) (ds := [18]) (mk 19 0) kr_ rfl rfl ⟨xc BK238 0, xc BK238 1⟩ (fun hHeld => ?_); refine with_tabW gamehalllaw3_ClockRuns.tab32 gamehalllaw3_ClockRuns.bits32 (fun HT_ HW_ => ?_)
                                 generalize wc.drew = w435 at BK217 BK235 BK237 BK238 BK258 HB hHeld ⊢; refine pu_ 0 213 HT_ ?_; refine pu_ 1 214 HT_ ?_; refine pu_ 2 215 HT_ ?_; refine pu_ 3 216 HT_ ?_; refine pu_ 4 217 HT_ ?_; refine pu_ 5 218 HT_ ?_; refine pu_ 6 219 HT_ ?_; refine pu_ 9 222 HT_ ?_; refine pu_ 10 223 HT_ ?_; refine pu_ 12 225 HT_ ?_; refine pu_ 14 12 HT_ ?_; refine tk_ 11 224 HT_ HW_ hHeld ?_; refine pu_ 13 226 HT_ ?_
                                 refine one_ (i := 7) (N := some 220) #[true, true, true, true, true, true, true, true, false, true, true, true, true, true, true, false, false, false, false] rfl rfl (one_of HT_.out kr_) (by decide) (fun K hK => ?_)
                                 have hcv7_0 : w435.cell? ⟨gb237, 0, none⟩ = some (.int .i64 z238a3) := (blk_cell BK237.out 0).trans rfl
                                 have hcv7_1 : w435.cell? ⟨gb237, 1, none⟩ = some (.int .i64 z238b3) := (blk_cell BK237.out 1).trans rfl
                                 refine value_ (w1 := ?_) (v := ?_) (by rfl) rfl ?_ ?_
                                 rotate_left 2
                                 ·go_simp
                                  constructor
                                  ·rfl
                                  ·rfl
                                 refine hK.out _ _ ⟨hHeld.1, hHeld.2⟩ (fun hHeld => ?_)
                                 clear hK K
                                 refine norm_ (a' := ?_) ?_ ?_
                                 rotate_left
                                 ·show Act.put _ (some 220) _ = _
                                  simp only [Act.put, List.setIfInBounds_toArray, List.set_cons_zero, List.set_cons_succ, i64_w, i32_w]
                                  rfl
                                 refine pu_ 8 221 HT_ ?_; refine pu_ 15 227 HT_ ?_
                                 refine one_ (i := 16) (N := none) #[true, true, true, true, true, true, true, true, true, true, true, true, true, true, true, true, true, false, false] rfl rfl (one_of HT_.out kr_) (by decide) (fun K hK => ?_)
                                 have hs436 : w435.cell? ⟨gb237, 0, none⟩ = some (.int .i64 z238a3) := (blk_cell BK237.out 0).trans rfl
                                 have hfs436 := blk_frozen BK237.out 0; have hms436_0 := NB237_217.out; have hms436_1 := NB237_235.out; have hms436_3 := NB237_238.out; have hms436_4 := NB237_258.out
                                 refine skip_ (w1 := ?_) (by rfl) rfl ?_ ?_
                                 rotate_left
                                 ·go_simp
                                  rfl
                                 refine hK.out _ _ ⟨((cell_far (p := ⟨gb237, _, none⟩) NB238_237.out _).trans (hHeld.1)), ((cell_far (p := ⟨gb237, _, none⟩) NB238_237.out _).trans (hHeld.2))⟩ (fun hHeld => ?_)
                                 clear hK K; refine pu_ 17 228 HT_ ?_
                                 refine last_ (i := 18) (N := none) #[true, true, true, true, true, true, true, true, true, true, true, true, true, true, true, true, true, true, true] rfl rfl (one_of HT_.out kr_) (by decide) (fun K hK => ?_)
                                 have hs437 : w435.cell? ⟨gb238, 0, none⟩ = some (.int .i64 z239a3) := (blk_cell BK238.out 0).trans rfl
                                 have hfs437 := blk_frozen BK238.out 0; have hms437_0 := NB238_217.out; have hms437_1 := NB238_235.out; have hms437_2 := NB238_237.out; have hms437_4 := NB238_258.out
                                 refine skip_ (w1 := ?_) (by rfl) rfl ?_ ?_
                                 rotate_left
                                 ·go_simp
                                  rfl
                                 refine hK.out _ _ ?_
                                 clear hK K
                                 refine done_ (done_of HT_.out kr_) ?_
                                 try go_wp2
                                 have n0_ : Aside0 (((w435.setCell ⟨gb237, 0, none⟩ (.int .i64 (wrap64 (z238a3 + 1)))).setCell ⟨gb238, 0, none⟩ (.int .i64 (wrap64 (z239a3 + t261)))).heap[gb217]? = some (.cells #[.slice A0_0 l0_0.length c0_0, .int .i64 a0_1, .int .i64 a0_2] 24 (0, 0))) := ⟨xK BK217⟩
                                 have n1_ : Aside0 (((w435.setCell ⟨gb237, 0, none⟩ (.int .i64 (wrap64 (z238a3 + 1)))).setCell ⟨gb238, 0, none⟩ (.int .i64 (wrap64 (z239a3 + t261)))).heap[gb235]? = some (.cells #[.int .i64 z236a3, .int .i64 z236b3, .int .i64 z236c3, .int .i64 z236d3, .int .i64 z236e3, .int .i64 z236f3, .int .i64 z236g3, .int .i64 z236h3, .bool z236i3, .int .i64 z236j3] 31 (0, 0))) := ⟨xK BK235⟩
                                 have n2_ : Aside0 (((w435.setCell ⟨gb237, 0, none⟩ (.int .i64 (wrap64 (z238a3 + 1)))).setCell ⟨gb238, 0, none⟩ (.int .i64 (wrap64 (z239a3 + t261)))).heap[gb237]? = some (.cells #[.int .i64 (wrap64 (z238a3 + 1)), .int .i64 z238b3] 29 (0, 0))) := ⟨xQ BK237⟩
                                 have n3_ : Aside0 (((w435.setCell ⟨gb237, 0, none⟩ (.int .i64 (wrap64 (z238a3 + 1)))).setCell ⟨gb238, 0, none⟩ (.int .i64 (wrap64 (z239a3 + t261)))).heap[gb238]? = some (.cells #[.int .i64 (wrap64 (z239a3 + t261)), .int .i64 z239b3] 29 (0, 0))) := ⟨xQ BK238⟩
                                 have n4_ : Aside0 (((w435.setCell ⟨gb237, 0, none⟩ (.int .i64 (wrap64 (z238a3 + 1)))).setCell ⟨gb238, 0, none⟩ (.int .i64 (wrap64 (z239a3 + t261)))).heap[gb258]? = some (.cells #[.int .i64 t247, .int .i64 t248, .int .i64 t249, .int .i64 t250, .int .i64 t251, .int .i64 t252, .int .i64 t253, .int .i64 t254, .bool t255, .int .i64 t256] 31 (0, 0))) := ⟨xK BK258⟩
                                 have n5_ : Aside0 (Below w.heap.size w ((w435.setCell ⟨gb237, 0, none⟩ (.int .i64 (wrap64 (z238a3 + 1)))).setCell ⟨gb238, 0, none⟩ (.int .i64 (wrap64 (z239a3 + t261))))) := ⟨xW HB⟩
                                 (try clear BK217)
                                 (try clear BK235)
                                 (try clear BK237)
                                 (try clear BK238)
                                 (try clear BK258)
                                 (try clear HB)
                                 generalize ((w435.setCell ⟨gb237, 0, none⟩ (.int .i64 (wrap64 (z238a3 + 1)))).setCell ⟨gb238, 0, none⟩ (.int .i64 (wrap64 (z239a3 + t261)))) = w438 at n0_ n1_ n2_ n3_ n4_ n5_ ⊢; have BK217 := n0_; have BK235 := n1_; have BK237 := n2_; have BK238 := n3_; have BK258 := n4_; have HB := n5_; clear n0_ n1_ n2_ n3_ n4_ n5_; replace BK217 := Aside0.mk (blk_drew BK217.out); replace BK235 := Aside0.mk (blk_drew BK235.out); replace BK237 := Aside0.mk (blk_drew BK237.out); replace BK238 := Aside0.mk (blk_drew BK238.out); replace BK258 := Aside0.mk (blk_drew BK258.out); replace HB := Aside0.mk (below_drew1 HB.out)
                                 refine start_ (n := 10) (S := fun w' => ce w' gb217 0 (.slice A0_0 l0_0.length c0_0) ∧ ce w' gb217 1 (.int .i64 a0_1) ∧ ce w' gb217 2 (.int .i64 a0_2) ∧ w'.cell? ⟨gb237, 0, none⟩ = some (.int .i64 (wrap64 (z238a3 + 1))) ∧ ce w' gb237 1 (.int .i64 z238b3)) (ds := []) (mk 10 0) kr_ rfl rfl ⟨xc BK217 0, xc BK217 1, xc BK217 2, xc BK237 0, xc BK237 1⟩ (fun hHeld => ?_); refine with_tabW gamehalllaw3_ClockRuns.tab33 gamehalllaw3_ClockRuns.bits33 (fun HT_ HW_ => ?_)
                                 generalize w438.drew = w439 at BK217 BK235 BK237 BK238 BK258 HB hHeld ⊢; refine pu_ 1 231 HT_ ?_; refine pu_ 2 232 HT_ ?_; refine tk_ 0 230 HT_ HW_ hHeld ?_; refine tk_ 3 233 HT_ HW_ hHeld ?_
                                 refine one_ (i := 4) (N := some 234) #[true, true, true, true, true, false, false, false, false, false] rfl rfl (one_of HT_.out kr_) (by decide) (fun K hK => ?_)
                                 refine goes_ Try.func9 kr_ rfl #[.agg #[.slice A0_0 l0_0.length c0_0, .int .i64 a0_1, .int .i64 a0_2], .int .i64 (wrap64 (z238a3 + 1))] (by rfl) rfl rfl (by (try simp only [List.map_toArray, List.map_cons, List.map_nil]); first | done | rfl | (simp only [List.length_drop, List.length_take]; rfl)) ?_
                                 with_reducible refine (gamehallref3_Budget.calls kj324 _ _ l0_0 a0_1 a0_2 (wrap64 (z238a3 + 1)) t274 t275 t276 _ ?side1 ?side2 A398.out).mono ?_
                                 (case side1 => exact xC (Kd.C_below HR0_0.out HB.out))
                                 (case side2 => exact HC0_0.out)
                                 rintro e w440 ⟨rfl, hb⟩
                                 refine ⟨_, rfl, ?_⟩
                                 replace BK217 := Aside0.mk (xB BK217 hb); replace BK235 := Aside0.mk (xB BK235 hb); replace BK237 := Aside0.mk (xB BK237 hb); replace BK238 := Aside0.mk (xB BK238 hb); replace BK258 := Aside0.mk (xB BK258 hb); replace HB := Aside0.mk (xS HB hb)
                                 (try clear hb)
                                 (try clear hb2)
                                 (try clear hk)
                                 (try clear hi)
                                 refine hK.out _ _ ⟨(blk_cell BK217.out 0).trans rfl, (blk_cell BK217.out 1).trans rfl, (blk_cell BK217.out 2).trans rfl, (blk_cell BK237.out 0).trans rfl, (blk_cell BK237.out 1).trans rfl⟩ (fun hHeld => ?_)
                                 clear hK K
                                 refine norm_ (a' := ?_) ?_ ?_
                                 rotate_left
                                 ·show Act.put _ (some 234) _ = _
                                  simp only [Act.put, List.setIfInBounds_toArray, List.set_cons_zero, List.set_cons_succ, i64_w, i32_w]
                                  rfl
                                 refine pu_ 5 229 HT_ ?_; refine pu_ 6 235 HT_ ?_; refine pu_ 7 236 HT_ ?_; refine pu_ 8 237 HT_ ?_; refine pu_ 9 18 HT_ ?_
                                 refine done_ (done_of HT_.out kr_) ?_
                                 try go_wp2
                                 replace BK217 := Aside0.mk (blk_drew BK217.out); replace BK235 := Aside0.mk (blk_drew BK235.out); replace BK237 := Aside0.mk (blk_drew BK237.out); replace BK238 := Aside0.mk (blk_drew BK238.out); replace BK258 := Aside0.mk (blk_drew BK258.out); replace HB := Aside0.mk (below_drew1 HB.out)
                                 refine start_ (n := 28) (S := fun w' => ce w' gb258 0 (.int .i64 t247) ∧ ce w' gb258 1 (.int .i64 t248) ∧ ce w' gb258 2 (.int .i64 t249) ∧ ce w' gb258 3 (.int .i64 t250) ∧ ce w' gb258 4 (.int .i64 t251) ∧ ce w' gb258 5 (.int .i64 t252) ∧ ce w' gb258 6 (.int .i64 t253) ∧ ce w' gb258 7 (.int .i64 t254) ∧ ce w' gb258 8 (.bool t255) ∧ ce w' gb258 9 (.int .i64 t256) ∧ w'.cell? ⟨gb238, 0, none⟩ = some (.int .i64 (wrap64 (z239a3 + t261))) ∧ ce w' gb238 1 (.int .i64 z239b3)) (ds := []) (mk 28 0) kr_ rfl rfl ⟨xc BK258 0, xc BK258 1, xc BK258 2, xc BK258 3, xc BK258 4, xc BK258 5, xc BK258 6, xc BK258 7, xc BK258 8, xc BK258 9, xc BK238 0, xc BK238 1⟩ (fun hHeld => ?_); refine with_tabW gamehalllaw3_ClockRuns.tab34 gamehalllaw3_ClockRuns.bits34 (fun HT_ HW_ => ?_)
                                 generalize w440.drew = w441 at BK217 BK235 BK237 BK238 BK258 HB hHeld ⊢; refine pu_ 0 238 HT_ ?_; refine pu_ 1 239 HT_ ?_; refine pu_ 2 240 HT_ ?_; refine pu_ 4 242 HT_ ?_; refine pu_ 5 243 HT_ ?_; refine pu_ 6 244 HT_ ?_; refine tk_ 3 241 HT_ HW_ hHeld ?_; refine tk_ 7 245 HT_ HW_ hHeld ?_; refine pu_ 8 246 HT_ ?_; refine pu_ 9 247 HT_ ?_; refine pu_ 10 248 HT_ ?_; refine pu_ 11 249 HT_ ?_; refine pu_ 13 251 HT_ ?_; refine pu_ 14 252 HT_ ?_; refine tk_ 12 250 HT_ HW_ hHeld ?_; refine pu_ 15 253 HT_ ?_; refine pu_ 16 254 HT_ ?_; refine pu_ 17 255 HT_ ?_; refine pn_ 18 256 HT_ ?_; refine pn_ 19 257 HT_ ?_; refine pn_ 20 258 HT_ ?_; refine pn_ 21 259 HT_ ?_; refine pu_ 22 260 HT_ ?_; refine pu_ 23 261 HT_ ?_; refine pn_ 24 262 HT_ ?_; refine pn_ 25 263 HT_ ?_; refine pn_ 26 264 HT_ ?_; refine pu_ 27 265 HT_ ?_
                                 refine done_ (done_of HT_.out kr_) ?_
                                 try go_wp2
                                 go_ret
                                 exact ⟨by first | rfl | (simp [errW_none, errW_some] <;> rfl) | (simp only [← hji7, ← hji389]; first | rfl | (simp [errW_none, errW_some] <;> rfl)) | (simp [*, errW_none, errW_some] <;> rfl), xW HB⟩⟩
                                exact inferInstanceAs _
                               ·rw [if_neg c401] at H
                                have c401b0 : (t247 == (wrap64 (t274 - (wrap64 (z239a3 + t261))))) = false := beq_eq_false_iff_ne.mpr c401
                                have c401b1 : (t247 != (wrap64 (t274 - (wrap64 (z239a3 + t261))))) = true := bne_iff_ne.mpr c401; clear c401
                                obtain rfl := Option.some.inj H
                                try go_wp2
                                replace BK217 := Aside0.mk (blk_drew BK217.out); replace BK235 := Aside0.mk (blk_drew BK235.out); replace BK237 := Aside0.mk (blk_drew BK237.out); replace BK238 := Aside0.mk (blk_drew BK238.out); replace BK258 := Aside0.mk (blk_drew BK258.out); replace HB := Aside0.mk (below_drew1 HB.out)
                                refine start_ (n := 19) (S := fun w' => ce w' gb238 0 (.int .i64 z239a3) ∧ ce w' gb238 1 (.int .i64 z239b3)) (ds := [18]) (mk 19 0) kr_ rfl rfl ⟨xc BK238 0, xc BK238 1⟩ (fun hHeld => ?_); refine with_tabW gamehalllaw3_ClockRuns.tab32 gamehalllaw3_ClockRuns.bits32 (fun HT_ HW_ => ?_)
                                generalize wc.drew = w442 at BK217 BK235 BK237 BK238 BK258 HB hHeld ⊢; refine pu_ 0 213 HT_ ?_; refine pu_ 1 214 HT_ ?_; refine pu_ 2 215 HT_ ?_; refine pu_ 3 216 HT_ ?_; refine pu_ 4 217 HT_ ?_; refine pu_ 5 218 HT_ ?_; refine pu_ 6 219 HT_ ?_; refine pu_ 9 222 HT_ ?_; refine pu_ 10 223 HT_ ?_; refine pu_ 12 225 HT_ ?_; refine pu_ 14 12 HT_ ?_; refine tk_ 11 224 HT_ HW_ hHeld ?_; refine pu_ 13 226 HT_ ?_
                                refine one_ (i := 7) (N := some 220) #[true, true, true, true, true, true, true, true, false, true, true, true, true, true, true, false, false, false, false] rfl rfl (one_of HT_.out kr_) (by decide) (fun K hK => ?_)
                                have hcv7_0 : w442.cell? ⟨gb237, 0, none⟩ = some (.int .i64 z238a3) := (blk_cell BK237.out 0).trans rfl
                                have hcv7_1 : w442.cell? ⟨gb237, 1, none⟩ = some (.int .i64 z238b3) := (blk_cell BK237.out 1).trans rfl
                                refine value_ (w1 := ?_) (v := ?_) (by rfl) rfl ?_ ?_
                                rotate_left 2
                                ·go_simp
                                 constructor
                                 ·rfl
                                 ·rfl
                                refine hK.out _ _ ⟨hHeld.1, hHeld.2⟩ (fun hHeld => ?_)
                                clear hK K
                                refine norm_ (a' := ?_) ?_ ?_
                                rotate_left
                                ·show Act.put _ (some 220) _ = _
                                 simp only [Act.put, List.setIfInBounds_toArray, List.set_cons_zero, List.set_cons_succ, i64_w, i32_w]
                                 rfl
                                refine pu_ 8 221 HT_ ?_; refine pu_ 15 227 HT_ ?_
                                refine one_ (i := 16) (N := none) #[true, true, true, true, true, true, true, true, true, true, true, true, true, true, true, true, true, false, false] rfl rfl (one_of HT_.out kr_) (by decide) (fun K hK => ?_)
                                have hs443 : w442.cell? ⟨gb237, 0, none⟩ = some (.int .i64 z238a3) := (blk_cell BK237.out 0).trans rfl
                                have hfs443 := blk_frozen BK237.out 0; have hms443_0 := NB237_217.out; have hms443_1 := NB237_235.out; have hms443_3 := NB237_238.out; have hms443_4 := NB237_258.out
                                refine skip_ (w1 := ?_) (by rfl) rfl ?_ ?_
                                rotate_left
                                ·go_simp
                                 rfl
                                refine hK.out _ _ ⟨((cell_far (p := ⟨gb237, _, none⟩) NB238_237.out _).trans (hHeld.1)), ((cell_far (p := ⟨gb237, _, none⟩) NB238_237.out _).trans (hHeld.2))⟩ (fun hHeld => ?_)
                                clear hK K; refine pu_ 17 228 HT_ ?_
                                refine last_ (i := 18) (N := none) #[true, true, true, true, true, true, true, true, true, true, true, true, true, true, true, true, true, true, true] rfl rfl (one_of HT_.out kr_) (by decide) (fun K hK => ?_)
                                have hs444 : w442.cell? ⟨gb238, 0, none⟩ = some (.int .i64 z239a3) := (blk_cell BK238.out 0).trans rfl
                                have hfs444 := blk_frozen BK238.out 0; have hms444_0 := NB238_217.out; have hms444_1 := NB238_235.out; have hms444_2 := NB238_237.out; have hms444_4 := NB238_258.out
                                refine skip_ (w1 := ?_) (by rfl) rfl ?_ ?_
                                rotate_left
                                ·go_simp
                                 rfl
                                refine hK.out _ _ ?_
                                clear hK K
                                refine done_ (done_of HT_.out kr_) ?_
                                try go_wp2
                                have n0_ : Aside0 (((w442.setCell ⟨gb237, 0, none⟩ (.int .i64 (wrap64 (z238a3 + 1)))).setCell ⟨gb238, 0, none⟩ (.int .i64 (wrap64 (z239a3 + t261)))).heap[gb217]? = some (.cells #[.slice A0_0 l0_0.length c0_0, .int .i64 a0_1, .int .i64 a0_2] 24 (0, 0))) := ⟨xK BK217⟩
                                have n1_ : Aside0 (((w442.setCell ⟨gb237, 0, none⟩ (.int .i64 (wrap64 (z238a3 + 1)))).setCell ⟨gb238, 0, none⟩ (.int .i64 (wrap64 (z239a3 + t261)))).heap[gb235]? = some (.cells #[.int .i64 z236a3, .int .i64 z236b3, .int .i64 z236c3, .int .i64 z236d3, .int .i64 z236e3, .int .i64 z236f3, .int .i64 z236g3, .int .i64 z236h3, .bool z236i3, .int .i64 z236j3] 31 (0, 0))) := ⟨xK BK235⟩
                                have n2_ : Aside0 (((w442.setCell ⟨gb237, 0, none⟩ (.int .i64 (wrap64 (z238a3 + 1)))).setCell ⟨gb238, 0, none⟩ (.int .i64 (wrap64 (z239a3 + t261)))).heap[gb237]? = some (.cells #[.int .i64 (wrap64 (z238a3 + 1)), .int .i64 z238b3] 29 (0, 0))) := ⟨xQ BK237⟩
                                have n3_ : Aside0 (((w442.setCell ⟨gb237, 0, none⟩ (.int .i64 (wrap64 (z238a3 + 1)))).setCell ⟨gb238, 0, none⟩ (.int .i64 (wrap64 (z239a3 + t261)))).heap[gb238]? = some (.cells #[.int .i64 (wrap64 (z239a3 + t261)), .int .i64 z239b3] 29 (0, 0))) := ⟨xQ BK238⟩
                                have n4_ : Aside0 (((w442.setCell ⟨gb237, 0, none⟩ (.int .i64 (wrap64 (z238a3 + 1)))).setCell ⟨gb238, 0, none⟩ (.int .i64 (wrap64 (z239a3 + t261)))).heap[gb258]? = some (.cells #[.int .i64 t247, .int .i64 t248, .int .i64 t249, .int .i64 t250, .int .i64 t251, .int .i64 t252, .int .i64 t253, .int .i64 t254, .bool t255, .int .i64 t256] 31 (0, 0))) := ⟨xK BK258⟩
                                have n5_ : Aside0 (Below w.heap.size w ((w442.setCell ⟨gb237, 0, none⟩ (.int .i64 (wrap64 (z238a3 + 1)))).setCell ⟨gb238, 0, none⟩ (.int .i64 (wrap64 (z239a3 + t261))))) := ⟨xW HB⟩
                                (try clear BK217)
                                (try clear BK235)
                                (try clear BK237)
                                (try clear BK238)
                                (try clear BK258)
                                (try clear HB)
                                generalize ((w442.setCell ⟨gb237, 0, none⟩ (.int .i64 (wrap64 (z238a3 + 1)))).setCell ⟨gb238, 0, none⟩ (.int .i64 (wrap64 (z239a3 + t261)))) = w445 at n0_ n1_ n2_ n3_ n4_ n5_ ⊢; have BK217 := n0_; have BK235 := n1_; have BK237 := n2_; have BK238 := n3_; have BK258 := n4_; have HB := n5_; clear n0_ n1_ n2_ n3_ n4_ n5_; replace BK217 := Aside0.mk (blk_drew BK217.out); replace BK235 := Aside0.mk (blk_drew BK235.out); replace BK237 := Aside0.mk (blk_drew BK237.out); replace BK238 := Aside0.mk (blk_drew BK238.out); replace BK258 := Aside0.mk (blk_drew BK258.out); replace HB := Aside0.mk (below_drew1 HB.out)
                                refine start_ (n := 10) (S := fun w' => ce w' gb217 0 (.slice A0_0 l0_0.length c0_0) ∧ ce w' gb217 1 (.int .i64 a0_1) ∧ ce w' gb217 2 (.int .i64 a0_2) ∧ w'.cell? ⟨gb237, 0, none⟩ = some (.int .i64 (wrap64 (z238a3 + 1))) ∧ ce w' gb237 1 (.int .i64 z238b3)) (ds := []) (mk 10 0) kr_ rfl rfl ⟨xc BK217 0, xc BK217 1, xc BK217 2, xc BK237 0, xc BK237 1⟩ (fun hHeld => ?_); refine with_tabW gamehalllaw3_ClockRuns.tab33 gamehalllaw3_ClockRuns.bits33 (fun HT_ HW_ => ?_)
                                generalize w445.drew = w446 at BK217 BK235 BK237 BK238 BK258 HB hHeld ⊢; refine pu_ 1 231 HT_ ?_; refine pu_ 2 232 HT_ ?_; refine tk_ 0 230 HT_ HW_ hHeld ?_; refine tk_ 3 233 HT_ HW_ hHeld ?_
                                refine one_ (i := 4) (N := some 234) #[true, true, true, true, true, false, false, false, false, false] rfl rfl (one_of HT_.out kr_) (by decide) (fun K hK => ?_)
                                refine goes_ Try.func9 kr_ rfl #[.agg #[.slice A0_0 l0_0.length c0_0, .int .i64 a0_1, .int .i64 a0_2], .int .i64 (wrap64 (z238a3 + 1))] (by rfl) rfl rfl (by (try simp only [List.map_toArray, List.map_cons, List.map_nil]); first | done | rfl | (simp only [List.length_drop, List.length_take]; rfl)) ?_
                                with_reducible refine (gamehallref3_Budget.calls kj324 _ _ l0_0 a0_1 a0_2 (wrap64 (z238a3 + 1)) t274 t275 t276 _ ?side1 ?side2 A398.out).mono ?_
                                (case side1 => exact xC (Kd.C_below HR0_0.out HB.out))
                                (case side2 => exact HC0_0.out)
                                rintro e w447 ⟨rfl, hb⟩
                                refine ⟨_, rfl, ?_⟩
                                replace BK217 := Aside0.mk (xB BK217 hb); replace BK235 := Aside0.mk (xB BK235 hb); replace BK237 := Aside0.mk (xB BK237 hb); replace BK238 := Aside0.mk (xB BK238 hb); replace BK258 := Aside0.mk (xB BK258 hb); replace HB := Aside0.mk (xS HB hb)
                                (try clear hb)
                                (try clear hb2)
                                (try clear hk)
                                (try clear hi)
                                refine hK.out _ _ ⟨(blk_cell BK217.out 0).trans rfl, (blk_cell BK217.out 1).trans rfl, (blk_cell BK217.out 2).trans rfl, (blk_cell BK237.out 0).trans rfl, (blk_cell BK237.out 1).trans rfl⟩ (fun hHeld => ?_)
                                clear hK K
                                refine norm_ (a' := ?_) ?_ ?_
                                rotate_left
                                ·show Act.put _ (some 234) _ = _
                                 simp only [Act.put, List.setIfInBounds_toArray, List.set_cons_zero, List.set_cons_succ, i64_w, i32_w]
                                 rfl
                                refine pu_ 5 229 HT_ ?_; refine pu_ 6 235 HT_ ?_; refine pu_ 7 236 HT_ ?_; refine pu_ 8 237 HT_ ?_; refine pu_ 9 18 HT_ ?_
                                refine done_ (done_of HT_.out kr_) ?_
                                try go_wp2
                                replace BK217 := Aside0.mk (blk_drew BK217.out); replace BK235 := Aside0.mk (blk_drew BK235.out); replace BK237 := Aside0.mk (blk_drew BK237.out); replace BK238 := Aside0.mk (blk_drew BK238.out); replace BK258 := Aside0.mk (blk_drew BK258.out); replace HB := Aside0.mk (below_drew1 HB.out)
                                refine start_ (n := 28) (S := fun w' => ce w' gb258 0 (.int .i64 t247) ∧ ce w' gb258 1 (.int .i64 t248) ∧ ce w' gb258 2 (.int .i64 t249) ∧ ce w' gb258 3 (.int .i64 t250) ∧ ce w' gb258 4 (.int .i64 t251) ∧ ce w' gb258 5 (.int .i64 t252) ∧ ce w' gb258 6 (.int .i64 t253) ∧ ce w' gb258 7 (.int .i64 t254) ∧ ce w' gb258 8 (.bool t255) ∧ ce w' gb258 9 (.int .i64 t256) ∧ w'.cell? ⟨gb238, 0, none⟩ = some (.int .i64 (wrap64 (z239a3 + t261))) ∧ ce w' gb238 1 (.int .i64 z239b3)) (ds := []) (mk 28 0) kr_ rfl rfl ⟨xc BK258 0, xc BK258 1, xc BK258 2, xc BK258 3, xc BK258 4, xc BK258 5, xc BK258 6, xc BK258 7, xc BK258 8, xc BK258 9, xc BK238 0, xc BK238 1⟩ (fun hHeld => ?_); refine with_tabW gamehalllaw3_ClockRuns.tab34 gamehalllaw3_ClockRuns.bits34 (fun HT_ HW_ => ?_)
                                generalize w447.drew = w448 at BK217 BK235 BK237 BK238 BK258 HB hHeld ⊢; refine pu_ 0 238 HT_ ?_; refine pu_ 1 239 HT_ ?_; refine pu_ 2 240 HT_ ?_; refine pu_ 4 242 HT_ ?_; refine pu_ 5 243 HT_ ?_; refine pu_ 6 244 HT_ ?_; refine tk_ 3 241 HT_ HW_ hHeld ?_; refine tk_ 7 245 HT_ HW_ hHeld ?_; refine pu_ 8 246 HT_ ?_; refine pu_ 9 247 HT_ ?_; refine pu_ 10 248 HT_ ?_; refine pn_ 11 249 HT_ ?_; refine pn_ 12 250 HT_ ?_; refine pn_ 13 251 HT_ ?_; refine pn_ 14 252 HT_ ?_; refine pn_ 15 253 HT_ ?_; refine pu_ 16 254 HT_ ?_; refine pu_ 17 255 HT_ ?_; refine pn_ 18 256 HT_ ?_; refine pn_ 19 257 HT_ ?_; refine pn_ 20 258 HT_ ?_; refine pn_ 21 259 HT_ ?_; refine pu_ 22 260 HT_ ?_; refine pu_ 23 261 HT_ ?_; refine pn_ 24 262 HT_ ?_; refine pn_ 25 263 HT_ ?_; refine pn_ 26 264 HT_ ?_; refine pu_ 27 265 HT_ ?_
                                refine done_ (done_of HT_.out kr_) ?_
                                try go_wp2
                                go_ret
                                exact ⟨by first | rfl | (simp [errW_none, errW_some] <;> rfl) | (simp only [← hji7, ← hji389]; first | rfl | (simp [errW_none, errW_some] <;> rfl)) | (simp [*, errW_none, errW_some] <;> rfl), xW HB⟩⟩
                               exact inferInstanceAs _
                              ·refine box_ ?g25;letI i:type_of% ?g25:=⟨by
                               rw [if_neg c392] at H
                               have c392b0 : ((ji389) == 0) = false := beq_eq_false_iff_ne.mpr c392
                               have c392b1 : ((ji389) != 0) = true := bne_iff_ne.mpr c392
                               obtain ⟨c449b, c449g, c449c, c449d⟩ := xar ((ji389) : Int) 1 1 2; obtain ⟨c450b, c450g, c450c, c450d⟩ := xar ((ji389) : Int) 1 1 2; obtain ⟨c451b, c451g, c451c, c451d⟩ := xar ((ji389) : Int) 1 1 2; obtain ⟨c452b, c452g, c452c, c452d⟩ := xar ((ji389) : Int) 1 1 2; obtain ⟨c453b, c453g, c453c, c453d⟩ := xar ((ji389) : Int) 1 1 2; replace H := Option.bind_eq_some_iff.mp H
                               obtain ⟨⟨t277, t278, t279⟩, A4540, H⟩ := H
                               try dsimp only at H
                               have A454 := Aside0.mk A4540; clear A4540; obtain ⟨c455b, c455g, c455c, c455d⟩ := xar ((ji389) : Int) 1 1 2; obtain ⟨c456b, c456g, c456c, c456d⟩ := xar ((ji389) : Int) 1 1 2
                               by_cases c457 : t248 = (wrap64 (t277 - (wrap64 (z239b3 + t261))))
                               ·refine box_ ?g26;letI i:type_of% ?g26:=⟨by
                                rw [if_pos c457] at H
                                have c457b0 : (t248 == (wrap64 (t277 - (wrap64 (z239b3 + t261))))) = true := beq_iff_eq.mpr c457
                                have c457b1 : (t248 != (wrap64 (t277 - (wrap64 (z239b3 + t261))))) = false := bne_eq_false_iff_eq.mpr c457
                                clear c457
                                by_cases c458 : t253 = (wrap64 (1 - (ji389)))
                                ·refine box_ ?g27;letI i:type_of% ?g27:=⟨by
                                 rw [if_pos c458] at H
                                 have c458b0 : (t253 == (wrap64 (1 - (ji389)))) = true := beq_iff_eq.mpr c458
                                 have c458b1 : (t253 != (wrap64 (1 - (ji389)))) = false := bne_eq_false_iff_eq.mpr c458
                                 clear c458
                                 by_cases c459 : t254 = (wrap64 (x12_3 + (rd y219 x74_3)))
                                 ·refine box_ ?g28;letI i:type_of% ?g28:=⟨by
                                  rw [if_pos c459] at H
                                  have c459b0 : (t254 == (wrap64 (x12_3 + (rd y219 x74_3)))) = true := beq_iff_eq.mpr c459
                                  have c459b1 : (t254 != (wrap64 (x12_3 + (rd y219 x74_3)))) = false := bne_eq_false_iff_eq.mpr c459
                                  clear c459
                                  by_cases c460 : t256 = (-1)
                                  ·rw [if_pos c460] at H
                                   have c460b0 : (t256 == (-1)) = true := beq_iff_eq.mpr c460
                                   have c460b1 : (t256 != (-1)) = false := bne_eq_false_iff_eq.mpr c460
                                   clear c460
                                   have H' := Aside0.mk H
                                   clear H
                                   try go_wp2
                                   replace BK217 := Aside0.mk (blk_drew BK217.out); replace BK235 := Aside0.mk (blk_drew BK235.out); replace BK237 := Aside0.mk (blk_drew BK237.out); replace BK238 := Aside0.mk (blk_drew BK238.out); replace BK258 := Aside0.mk (blk_drew BK258.out); replace HB := Aside0.mk (below_drew1 HB.out)
                                   refine start_ (n := 19) (S := fun w' => ce w' gb238 0 (.int .i64 z239a3) ∧ ce w' gb238 1 (.int .i64 z239b3)) (ds := [18]) (mk 19 0) kr_ rfl rfl ⟨xc BK238 0, xc BK238 1⟩ (fun hHeld => ?_); refine with_tabW gamehalllaw3_ClockRuns.tab32 gamehalllaw3_ClockRuns.bits32 (fun HT_ HW_ => ?_)
                                   generalize wc.drew = w461 at BK217 BK235 BK237 BK238 BK258 HB hHeld ⊢; refine pu_ 0 213 HT_ ?_; refine pu_ 1 214 HT_ ?_; refine pu_ 2 215 HT_ ?_; refine pu_ 3 216 HT_ ?_; refine pu_ 4 217 HT_ ?_; refine pu_ 5 218 HT_ ?_; refine pu_ 6 219 HT_ ?_; refine pu_ 9 222 HT_ ?_; refine pu_ 10 223 HT_ ?_; refine pu_ 12 225 HT_ ?_; refine pu_ 14 12 HT_ ?_; refine tk_ 11 224 HT_ HW_ hHeld ?_; refine pu_ 13 226 HT_ ?_
                                   refine one_ (i := 7) (N := some 220) #[true, true, true, true, true, true, true, true, false, true, true, true, true, true, true, false, false, false, false] rfl rfl (one_of HT_.out kr_) (by decide) (fun K hK => ?_)
                                   have hcv7_0 : w461.cell? ⟨gb237, 0, none⟩ = some (.int .i64 z238a3) := (blk_cell BK237.out 0).trans rfl
                                   have hcv7_1 : w461.cell? ⟨gb237, 1, none⟩ = some (.int .i64 z238b3) := (blk_cell BK237.out 1).trans rfl
                                   refine value_ (w1 := ?_) (v := ?_) (by rfl) rfl ?_ ?_
                                   rotate_left 2
                                   ·go_simp
                                    constructor
                                    ·rfl
                                    ·rfl
                                   refine hK.out _ _ ⟨hHeld.1, hHeld.2⟩ (fun hHeld => ?_)
                                   clear hK K
                                   refine norm_ (a' := ?_) ?_ ?_
                                   rotate_left
                                   ·show Act.put _ (some 220) _ = _
                                    simp only [Act.put, List.setIfInBounds_toArray, List.set_cons_zero, List.set_cons_succ, i64_w, i32_w]
                                    rfl
                                   refine pu_ 8 221 HT_ ?_; refine pu_ 15 227 HT_ ?_
                                   refine one_ (i := 16) (N := none) #[true, true, true, true, true, true, true, true, true, true, true, true, true, true, true, true, true, false, false] rfl rfl (one_of HT_.out kr_) (by decide) (fun K hK => ?_)
                                   have hs462 : w461.cell? ⟨gb237, 1, none⟩ = some (.int .i64 z238b3) := (blk_cell BK237.out 1).trans rfl
                                   have hfs462 := blk_frozen BK237.out 1; have hms462_0 := NB237_217.out; have hms462_1 := NB237_235.out; have hms462_3 := NB237_238.out; have hms462_4 := NB237_258.out
                                   refine skip_ (w1 := ?_) (by rfl) rfl ?_ ?_
                                   rotate_left
                                   ·go_simp
                                    rfl
                                   refine hK.out _ _ ⟨((cell_far (p := ⟨gb237, _, none⟩) NB238_237.out _).trans (hHeld.1)), ((cell_far (p := ⟨gb237, _, none⟩) NB238_237.out _).trans (hHeld.2))⟩ (fun hHeld => ?_)
                                   clear hK K; refine pu_ 17 228 HT_ ?_
                                   refine last_ (i := 18) (N := none) #[true, true, true, true, true, true, true, true, true, true, true, true, true, true, true, true, true, true, true] rfl rfl (one_of HT_.out kr_) (by decide) (fun K hK => ?_)
                                   have hs463 : w461.cell? ⟨gb238, 1, none⟩ = some (.int .i64 z239b3) := (blk_cell BK238.out 1).trans rfl
                                   have hfs463 := blk_frozen BK238.out 1; have hms463_0 := NB238_217.out; have hms463_1 := NB238_235.out; have hms463_2 := NB238_237.out; have hms463_4 := NB238_258.out
                                   refine skip_ (w1 := ?_) (by rfl) rfl ?_ ?_
                                   rotate_left
                                   ·go_simp
                                    rfl
                                   refine hK.out _ _ ?_
                                   clear hK K
                                   refine done_ (done_of HT_.out kr_) ?_
                                   try go_wp2
                                   have n0_ : Aside0 (((w461.setCell ⟨gb237, 1, none⟩ (.int .i64 (wrap64 (z238b3 + 1)))).setCell ⟨gb238, 1, none⟩ (.int .i64 (wrap64 (z239b3 + t261)))).heap[gb217]? = some (.cells #[.slice A0_0 l0_0.length c0_0, .int .i64 a0_1, .int .i64 a0_2] 24 (0, 0))) := ⟨xK BK217⟩
                                   have n1_ : Aside0 (((w461.setCell ⟨gb237, 1, none⟩ (.int .i64 (wrap64 (z238b3 + 1)))).setCell ⟨gb238, 1, none⟩ (.int .i64 (wrap64 (z239b3 + t261)))).heap[gb235]? = some (.cells #[.int .i64 z236a3, .int .i64 z236b3, .int .i64 z236c3, .int .i64 z236d3, .int .i64 z236e3, .int .i64 z236f3, .int .i64 z236g3, .int .i64 z236h3, .bool z236i3, .int .i64 z236j3] 31 (0, 0))) := ⟨xK BK235⟩
                                   have n2_ : Aside0 (((w461.setCell ⟨gb237, 1, none⟩ (.int .i64 (wrap64 (z238b3 + 1)))).setCell ⟨gb238, 1, none⟩ (.int .i64 (wrap64 (z239b3 + t261)))).heap[gb237]? = some (.cells #[.int .i64 z238a3, .int .i64 (wrap64 (z238b3 + 1))] 29 (0, 0))) := ⟨xQ BK237⟩
                                   have n3_ : Aside0 (((w461.setCell ⟨gb237, 1, none⟩ (.int .i64 (wrap64 (z238b3 + 1)))).setCell ⟨gb238, 1, none⟩ (.int .i64 (wrap64 (z239b3 + t261)))).heap[gb238]? = some (.cells #[.int .i64 z239a3, .int .i64 (wrap64 (z239b3 + t261))] 29 (0, 0))) := ⟨xQ BK238⟩
                                   have n4_ : Aside0 (((w461.setCell ⟨gb237, 1, none⟩ (.int .i64 (wrap64 (z238b3 + 1)))).setCell ⟨gb238, 1, none⟩ (.int .i64 (wrap64 (z239b3 + t261)))).heap[gb258]? = some (.cells #[.int .i64 t247, .int .i64 t248, .int .i64 t249, .int .i64 t250, .int .i64 t251, .int .i64 t252, .int .i64 t253, .int .i64 t254, .bool t255, .int .i64 t256] 31 (0, 0))) := ⟨xK BK258⟩
                                   have n5_ : Aside0 (Below w.heap.size w ((w461.setCell ⟨gb237, 1, none⟩ (.int .i64 (wrap64 (z238b3 + 1)))).setCell ⟨gb238, 1, none⟩ (.int .i64 (wrap64 (z239b3 + t261))))) := ⟨xW HB⟩
                                   (try clear BK217)
                                   (try clear BK235)
                                   (try clear BK237)
                                   (try clear BK238)
                                   (try clear BK258)
                                   (try clear HB)
                                   generalize ((w461.setCell ⟨gb237, 1, none⟩ (.int .i64 (wrap64 (z238b3 + 1)))).setCell ⟨gb238, 1, none⟩ (.int .i64 (wrap64 (z239b3 + t261)))) = w464 at n0_ n1_ n2_ n3_ n4_ n5_ ⊢; have BK217 := n0_; have BK235 := n1_; have BK237 := n2_; have BK238 := n3_; have BK258 := n4_; have HB := n5_; clear n0_ n1_ n2_ n3_ n4_ n5_; replace BK217 := Aside0.mk (blk_drew BK217.out); replace BK235 := Aside0.mk (blk_drew BK235.out); replace BK237 := Aside0.mk (blk_drew BK237.out); replace BK238 := Aside0.mk (blk_drew BK238.out); replace BK258 := Aside0.mk (blk_drew BK258.out); replace HB := Aside0.mk (below_drew1 HB.out)
                                   refine start_ (n := 10) (S := fun w' => ce w' gb217 0 (.slice A0_0 l0_0.length c0_0) ∧ ce w' gb217 1 (.int .i64 a0_1) ∧ ce w' gb217 2 (.int .i64 a0_2) ∧ ce w' gb237 0 (.int .i64 z238a3) ∧ w'.cell? ⟨gb237, 1, none⟩ = some (.int .i64 (wrap64 (z238b3 + 1)))) (ds := []) (mk 10 0) kr_ rfl rfl ⟨xc BK217 0, xc BK217 1, xc BK217 2, xc BK237 0, xc BK237 1⟩ (fun hHeld => ?_); refine with_tabW gamehalllaw3_ClockRuns.tab33 gamehalllaw3_ClockRuns.bits33 (fun HT_ HW_ => ?_)
                                   generalize w464.drew = w465 at BK217 BK235 BK237 BK238 BK258 HB hHeld ⊢; refine pu_ 1 231 HT_ ?_; refine pu_ 2 232 HT_ ?_; refine tk_ 0 230 HT_ HW_ hHeld ?_; refine tk_ 3 233 HT_ HW_ hHeld ?_
                                   refine one_ (i := 4) (N := some 234) #[true, true, true, true, true, false, false, false, false, false] rfl rfl (one_of HT_.out kr_) (by decide) (fun K hK => ?_)
                                   refine goes_ Try.func9 kr_ rfl #[.agg #[.slice A0_0 l0_0.length c0_0, .int .i64 a0_1, .int .i64 a0_2], .int .i64 (wrap64 (z238b3 + 1))] (by rfl) rfl rfl (by (try simp only [List.map_toArray, List.map_cons, List.map_nil]); first | done | rfl | (simp only [List.length_drop, List.length_take]; rfl)) ?_
                                   with_reducible refine (gamehallref3_Budget.calls kj324 _ _ l0_0 a0_1 a0_2 (wrap64 (z238b3 + 1)) t277 t278 t279 _ ?side1 ?side2 A454.out).mono ?_
                                   (case side1 => exact xC (Kd.C_below HR0_0.out HB.out))
                                   (case side2 => exact HC0_0.out)
                                   rintro e w466 ⟨rfl, hb⟩
                                   refine ⟨_, rfl, ?_⟩
                                   replace BK217 := Aside0.mk (xB BK217 hb); replace BK235 := Aside0.mk (xB BK235 hb); replace BK237 := Aside0.mk (xB BK237 hb); replace BK238 := Aside0.mk (xB BK238 hb); replace BK258 := Aside0.mk (xB BK258 hb); replace HB := Aside0.mk (xS HB hb)
                                   (try clear hb)
                                   (try clear hb2)
                                   (try clear hk)
                                   (try clear hi)
                                   refine hK.out _ _ ⟨(blk_cell BK217.out 0).trans rfl, (blk_cell BK217.out 1).trans rfl, (blk_cell BK217.out 2).trans rfl, (blk_cell BK237.out 0).trans rfl, (blk_cell BK237.out 1).trans rfl⟩ (fun hHeld => ?_)
                                   clear hK K
                                   refine norm_ (a' := ?_) ?_ ?_
                                   rotate_left
                                   ·show Act.put _ (some 234) _ = _
                                    simp only [Act.put, List.setIfInBounds_toArray, List.set_cons_zero, List.set_cons_succ, i64_w, i32_w]
                                    rfl
                                   refine pu_ 5 229 HT_ ?_; refine pu_ 6 235 HT_ ?_; refine pu_ 7 236 HT_ ?_; refine pu_ 8 237 HT_ ?_; refine pu_ 9 18 HT_ ?_
                                   refine done_ (done_of HT_.out kr_) ?_
                                   try go_wp2
                                   replace BK217 := Aside0.mk (blk_drew BK217.out); replace BK235 := Aside0.mk (blk_drew BK235.out); replace BK237 := Aside0.mk (blk_drew BK237.out); replace BK238 := Aside0.mk (blk_drew BK238.out); replace BK258 := Aside0.mk (blk_drew BK258.out); replace HB := Aside0.mk (below_drew1 HB.out)
                                   refine start_ (n := 28) (S := fun w' => ce w' gb258 0 (.int .i64 t247) ∧ ce w' gb258 1 (.int .i64 t248) ∧ ce w' gb258 2 (.int .i64 t249) ∧ ce w' gb258 3 (.int .i64 t250) ∧ ce w' gb258 4 (.int .i64 t251) ∧ ce w' gb258 5 (.int .i64 t252) ∧ ce w' gb258 6 (.int .i64 t253) ∧ ce w' gb258 7 (.int .i64 t254) ∧ ce w' gb258 8 (.bool t255) ∧ ce w' gb258 9 (.int .i64 t256) ∧ ce w' gb238 0 (.int .i64 z239a3) ∧ w'.cell? ⟨gb238, 1, none⟩ = some (.int .i64 (wrap64 (z239b3 + t261)))) (ds := []) (mk 28 0) kr_ rfl rfl ⟨xc BK258 0, xc BK258 1, xc BK258 2, xc BK258 3, xc BK258 4, xc BK258 5, xc BK258 6, xc BK258 7, xc BK258 8, xc BK258 9, xc BK238 0, xc BK238 1⟩ (fun hHeld => ?_); refine with_tabW gamehalllaw3_ClockRuns.tab34 gamehalllaw3_ClockRuns.bits34 (fun HT_ HW_ => ?_)
                                   generalize w466.drew = w467 at BK217 BK235 BK237 BK238 BK258 HB hHeld ⊢; refine pu_ 0 238 HT_ ?_; refine pu_ 1 239 HT_ ?_; refine pu_ 2 240 HT_ ?_; refine pu_ 4 242 HT_ ?_; refine pu_ 5 243 HT_ ?_; refine pu_ 6 244 HT_ ?_; refine tk_ 3 241 HT_ HW_ hHeld ?_; refine tk_ 7 245 HT_ HW_ hHeld ?_; refine pu_ 8 246 HT_ ?_; refine pu_ 9 247 HT_ ?_; refine pu_ 10 248 HT_ ?_; refine pu_ 11 249 HT_ ?_; refine pu_ 13 251 HT_ ?_; refine pu_ 14 252 HT_ ?_; refine tk_ 12 250 HT_ HW_ hHeld ?_; refine pu_ 15 253 HT_ ?_; refine pu_ 16 254 HT_ ?_; refine pu_ 17 255 HT_ ?_; refine pu_ 18 256 HT_ ?_; refine pu_ 20 258 HT_ ?_; refine tk_ 19 257 HT_ HW_ hHeld ?_; refine pu_ 21 259 HT_ ?_; refine pu_ 22 260 HT_ ?_; refine pu_ 23 261 HT_ ?_; refine pu_ 24 262 HT_ ?_; refine tk_ 25 263 HT_ HW_ hHeld ?_; refine pu_ 26 264 HT_ ?_; refine pu_ 27 265 HT_ ?_
                                   refine done_ (done_of HT_.out kr_) ?_
                                   have hcz472_0 := blkc10 BK258.out; have hcz476_0 := blkc10 BK235.out
                                   try go_wp2
                                   go_roundg kj324
                                   case measure => have := HJ13.out; have := HJ28.out; have := HK3.out; have := HJ44.out; have := HJ47.out; have := HJ117.out; have := HJ324.out; omega
                                   case rel => exact ⟨(wrap64 (x12_3 + (rd y219 x74_3))), (wrap64 (x74_3 + 1)), (t247), (t248), (t249), (t250), (t251), (t252), (t253), (t254), (t255), (t256), (z238a3), (wrap64 (z238b3 + 1)), (z239a3), (wrap64 (z239b3 + t261)), (xrf), (xrf), (by first | exact H' | (try rw [hji389]; exact H')), ⟨by have := HJ13.out; have := HJ28.out; have := HK3.out; have := HJ44.out; have := HJ47.out; have := HJ117.out; have := HJ324.out; omega⟩, ⟨xK BK217⟩, ⟨xQ BK235⟩, ⟨xK BK237⟩, ⟨xK BK238⟩, ⟨xW HB⟩⟩
                                  ·rw [if_neg c460] at H
                                   have c460b0 : (t256 == (-1)) = false := beq_eq_false_iff_ne.mpr c460
                                   have c460b1 : (t256 != (-1)) = true := bne_iff_ne.mpr c460; clear c460
                                   obtain rfl := Option.some.inj H
                                   try go_wp2
                                   replace BK217 := Aside0.mk (blk_drew BK217.out); replace BK235 := Aside0.mk (blk_drew BK235.out); replace BK237 := Aside0.mk (blk_drew BK237.out); replace BK238 := Aside0.mk (blk_drew BK238.out); replace BK258 := Aside0.mk (blk_drew BK258.out); replace HB := Aside0.mk (below_drew1 HB.out)
                                   refine start_ (n := 19) (S := fun w' => ce w' gb238 0 (.int .i64 z239a3) ∧ ce w' gb238 1 (.int .i64 z239b3)) (ds := [18]) (mk 19 0) kr_ rfl rfl ⟨xc BK238 0, xc BK238 1⟩ (fun hHeld => ?_); refine with_tabW gamehalllaw3_ClockRuns.tab32 gamehalllaw3_ClockRuns.bits32 (fun HT_ HW_ => ?_)
                                   generalize wc.drew = w477 at BK217 BK235 BK237 BK238 BK258 HB hHeld ⊢; refine pu_ 0 213 HT_ ?_; refine pu_ 1 214 HT_ ?_; refine pu_ 2 215 HT_ ?_; refine pu_ 3 216 HT_ ?_; refine pu_ 4 217 HT_ ?_; refine pu_ 5 218 HT_ ?_; refine pu_ 6 219 HT_ ?_; refine pu_ 9 222 HT_ ?_; refine pu_ 10 223 HT_ ?_; refine pu_ 12 225 HT_ ?_; refine pu_ 14 12 HT_ ?_; refine tk_ 11 224 HT_ HW_ hHeld ?_; refine pu_ 13 226 HT_ ?_
                                   refine one_ (i := 7) (N := some 220) #[true, true, true, true, true, true, true, true, false, true, true, true, true, true, true, false, false, false, false] rfl rfl (one_of HT_.out kr_) (by decide) (fun K hK => ?_)
                                   have hcv7_0 : w477.cell? ⟨gb237, 0, none⟩ = some (.int .i64 z238a3) := (blk_cell BK237.out 0).trans rfl
                                   have hcv7_1 : w477.cell? ⟨gb237, 1, none⟩ = some (.int .i64 z238b3) := (blk_cell BK237.out 1).trans rfl
                                   refine value_ (w1 := ?_) (v := ?_) (by rfl) rfl ?_ ?_
                                   rotate_left 2
                                   ·go_simp
                                    constructor
                                    ·rfl
                                    ·rfl
                                   refine hK.out _ _ ⟨hHeld.1, hHeld.2⟩ (fun hHeld => ?_)
                                   clear hK K
                                   refine norm_ (a' := ?_) ?_ ?_
                                   rotate_left
                                   ·show Act.put _ (some 220) _ = _
                                    simp only [Act.put, List.setIfInBounds_toArray, List.set_cons_zero, List.set_cons_succ, i64_w, i32_w]
                                    rfl
                                   refine pu_ 8 221 HT_ ?_; refine pu_ 15 227 HT_ ?_
                                   refine one_ (i := 16) (N := none) #[true, true, true, true, true, true, true, true, true, true, true, true, true, true, true, true, true, false, false] rfl rfl (one_of HT_.out kr_) (by decide) (fun K hK => ?_)
                                   have hs478 : w477.cell? ⟨gb237, 1, none⟩ = some (.int .i64 z238b3) := (blk_cell BK237.out 1).trans rfl
                                   have hfs478 := blk_frozen BK237.out 1; have hms478_0 := NB237_217.out; have hms478_1 := NB237_235.out; have hms478_3 := NB237_238.out; have hms478_4 := NB237_258.out
                                   refine skip_ (w1 := ?_) (by rfl) rfl ?_ ?_
                                   rotate_left
                                   ·go_simp
                                    rfl
                                   refine hK.out _ _ ⟨((cell_far (p := ⟨gb237, _, none⟩) NB238_237.out _).trans (hHeld.1)), ((cell_far (p := ⟨gb237, _, none⟩) NB238_237.out _).trans (hHeld.2))⟩ (fun hHeld => ?_)
                                   clear hK K; refine pu_ 17 228 HT_ ?_
                                   refine last_ (i := 18) (N := none) #[true, true, true, true, true, true, true, true, true, true, true, true, true, true, true, true, true, true, true] rfl rfl (one_of HT_.out kr_) (by decide) (fun K hK => ?_)
                                   have hs479 : w477.cell? ⟨gb238, 1, none⟩ = some (.int .i64 z239b3) := (blk_cell BK238.out 1).trans rfl
                                   have hfs479 := blk_frozen BK238.out 1; have hms479_0 := NB238_217.out; have hms479_1 := NB238_235.out; have hms479_2 := NB238_237.out; have hms479_4 := NB238_258.out
                                   refine skip_ (w1 := ?_) (by rfl) rfl ?_ ?_
                                   rotate_left
                                   ·go_simp
                                    rfl
                                   refine hK.out _ _ ?_
                                   clear hK K
                                   refine done_ (done_of HT_.out kr_) ?_
                                   try go_wp2
                                   have n0_ : Aside0 (((w477.setCell ⟨gb237, 1, none⟩ (.int .i64 (wrap64 (z238b3 + 1)))).setCell ⟨gb238, 1, none⟩ (.int .i64 (wrap64 (z239b3 + t261)))).heap[gb217]? = some (.cells #[.slice A0_0 l0_0.length c0_0, .int .i64 a0_1, .int .i64 a0_2] 24 (0, 0))) := ⟨xK BK217⟩
                                   have n1_ : Aside0 (((w477.setCell ⟨gb237, 1, none⟩ (.int .i64 (wrap64 (z238b3 + 1)))).setCell ⟨gb238, 1, none⟩ (.int .i64 (wrap64 (z239b3 + t261)))).heap[gb235]? = some (.cells #[.int .i64 z236a3, .int .i64 z236b3, .int .i64 z236c3, .int .i64 z236d3, .int .i64 z236e3, .int .i64 z236f3, .int .i64 z236g3, .int .i64 z236h3, .bool z236i3, .int .i64 z236j3] 31 (0, 0))) := ⟨xK BK235⟩
                                   have n2_ : Aside0 (((w477.setCell ⟨gb237, 1, none⟩ (.int .i64 (wrap64 (z238b3 + 1)))).setCell ⟨gb238, 1, none⟩ (.int .i64 (wrap64 (z239b3 + t261)))).heap[gb237]? = some (.cells #[.int .i64 z238a3, .int .i64 (wrap64 (z238b3 + 1))] 29 (0, 0))) := ⟨xQ BK237⟩
                                   have n3_ : Aside0 (((w477.setCell ⟨gb237, 1, none⟩ (.int .i64 (wrap64 (z238b3 + 1)))).setCell ⟨gb238, 1, none⟩ (.int .i64 (wrap64 (z239b3 + t261)))).heap[gb238]? = some (.cells #[.int .i64 z239a3, .int .i64 (wrap64 (z239b3 + t261))] 29 (0, 0))) := ⟨xQ BK238⟩
                                   have n4_ : Aside0 (((w477.setCell ⟨gb237, 1, none⟩ (.int .i64 (wrap64 (z238b3 + 1)))).setCell ⟨gb238, 1, none⟩ (.int .i64 (wrap64 (z239b3 + t261)))).heap[gb258]? = some (.cells #[.int .i64 t247, .int .i64 t248, .int .i64 t249, .int .i64 t250, .int .i64 t251, .int .i64 t252, .int .i64 t253, .int .i64 t254, .bool t255, .int .i64 t256] 31 (0, 0))) := ⟨xK BK258⟩
                                   have n5_ : Aside0 (Below w.heap.size w ((w477.setCell ⟨gb237, 1, none⟩ (.int .i64 (wrap64 (z238b3 + 1)))).setCell ⟨gb238, 1, none⟩ (.int .i64 (wrap64 (z239b3 + t261))))) := ⟨xW HB⟩
                                   (try clear BK217)
                                   (try clear BK235)
                                   (try clear BK237)
                                   (try clear BK238)
                                   (try clear BK258)
                                   (try clear HB)
                                   generalize ((w477.setCell ⟨gb237, 1, none⟩ (.int .i64 (wrap64 (z238b3 + 1)))).setCell ⟨gb238, 1, none⟩ (.int .i64 (wrap64 (z239b3 + t261)))) = w480 at n0_ n1_ n2_ n3_ n4_ n5_ ⊢; have BK217 := n0_; have BK235 := n1_; have BK237 := n2_; have BK238 := n3_; have BK258 := n4_; have HB := n5_; clear n0_ n1_ n2_ n3_ n4_ n5_; replace BK217 := Aside0.mk (blk_drew BK217.out); replace BK235 := Aside0.mk (blk_drew BK235.out); replace BK237 := Aside0.mk (blk_drew BK237.out); replace BK238 := Aside0.mk (blk_drew BK238.out); replace BK258 := Aside0.mk (blk_drew BK258.out); replace HB := Aside0.mk (below_drew1 HB.out)
                                   refine start_ (n := 10) (S := fun w' => ce w' gb217 0 (.slice A0_0 l0_0.length c0_0) ∧ ce w' gb217 1 (.int .i64 a0_1) ∧ ce w' gb217 2 (.int .i64 a0_2) ∧ ce w' gb237 0 (.int .i64 z238a3) ∧ w'.cell? ⟨gb237, 1, none⟩ = some (.int .i64 (wrap64 (z238b3 + 1)))) (ds := []) (mk 10 0) kr_ rfl rfl ⟨xc BK217 0, xc BK217 1, xc BK217 2, xc BK237 0, xc BK237 1⟩ (fun hHeld => ?_); refine with_tabW gamehalllaw3_ClockRuns.tab33 gamehalllaw3_ClockRuns.bits33 (fun HT_ HW_ => ?_)
                                   generalize w480.drew = w481 at BK217 BK235 BK237 BK238 BK258 HB hHeld ⊢; refine pu_ 1 231 HT_ ?_; refine pu_ 2 232 HT_ ?_; refine tk_ 0 230 HT_ HW_ hHeld ?_; refine tk_ 3 233 HT_ HW_ hHeld ?_
                                   refine one_ (i := 4) (N := some 234) #[true, true, true, true, true, false, false, false, false, false] rfl rfl (one_of HT_.out kr_) (by decide) (fun K hK => ?_)
                                   refine goes_ Try.func9 kr_ rfl #[.agg #[.slice A0_0 l0_0.length c0_0, .int .i64 a0_1, .int .i64 a0_2], .int .i64 (wrap64 (z238b3 + 1))] (by rfl) rfl rfl (by (try simp only [List.map_toArray, List.map_cons, List.map_nil]); first | done | rfl | (simp only [List.length_drop, List.length_take]; rfl)) ?_
                                   with_reducible refine (gamehallref3_Budget.calls kj324 _ _ l0_0 a0_1 a0_2 (wrap64 (z238b3 + 1)) t277 t278 t279 _ ?side1 ?side2 A454.out).mono ?_
                                   (case side1 => exact xC (Kd.C_below HR0_0.out HB.out))
                                   (case side2 => exact HC0_0.out)
                                   rintro e w482 ⟨rfl, hb⟩
                                   refine ⟨_, rfl, ?_⟩
                                   replace BK217 := Aside0.mk (xB BK217 hb); replace BK235 := Aside0.mk (xB BK235 hb); replace BK237 := Aside0.mk (xB BK237 hb); replace BK238 := Aside0.mk (xB BK238 hb); replace BK258 := Aside0.mk (xB BK258 hb); replace HB := Aside0.mk (xS HB hb)
                                   (try clear hb)
                                   (try clear hb2)
                                   (try clear hk)
                                   (try clear hi)
                                   refine hK.out _ _ ⟨(blk_cell BK217.out 0).trans rfl, (blk_cell BK217.out 1).trans rfl, (blk_cell BK217.out 2).trans rfl, (blk_cell BK237.out 0).trans rfl, (blk_cell BK237.out 1).trans rfl⟩ (fun hHeld => ?_)
                                   clear hK K
                                   refine norm_ (a' := ?_) ?_ ?_
                                   rotate_left
                                   ·show Act.put _ (some 234) _ = _
                                    simp only [Act.put, List.setIfInBounds_toArray, List.set_cons_zero, List.set_cons_succ, i64_w, i32_w]
                                    rfl
                                   refine pu_ 5 229 HT_ ?_; refine pu_ 6 235 HT_ ?_; refine pu_ 7 236 HT_ ?_; refine pu_ 8 237 HT_ ?_; refine pu_ 9 18 HT_ ?_
                                   refine done_ (done_of HT_.out kr_) ?_
                                   try go_wp2
                                   replace BK217 := Aside0.mk (blk_drew BK217.out); replace BK235 := Aside0.mk (blk_drew BK235.out); replace BK237 := Aside0.mk (blk_drew BK237.out); replace BK238 := Aside0.mk (blk_drew BK238.out); replace BK258 := Aside0.mk (blk_drew BK258.out); replace HB := Aside0.mk (below_drew1 HB.out)
                                   refine start_ (n := 28) (S := fun w' => ce w' gb258 0 (.int .i64 t247) ∧ ce w' gb258 1 (.int .i64 t248) ∧ ce w' gb258 2 (.int .i64 t249) ∧ ce w' gb258 3 (.int .i64 t250) ∧ ce w' gb258 4 (.int .i64 t251) ∧ ce w' gb258 5 (.int .i64 t252) ∧ ce w' gb258 6 (.int .i64 t253) ∧ ce w' gb258 7 (.int .i64 t254) ∧ ce w' gb258 8 (.bool t255) ∧ ce w' gb258 9 (.int .i64 t256) ∧ ce w' gb238 0 (.int .i64 z239a3) ∧ w'.cell? ⟨gb238, 1, none⟩ = some (.int .i64 (wrap64 (z239b3 + t261)))) (ds := []) (mk 28 0) kr_ rfl rfl ⟨xc BK258 0, xc BK258 1, xc BK258 2, xc BK258 3, xc BK258 4, xc BK258 5, xc BK258 6, xc BK258 7, xc BK258 8, xc BK258 9, xc BK238 0, xc BK238 1⟩ (fun hHeld => ?_); refine with_tabW gamehalllaw3_ClockRuns.tab34 gamehalllaw3_ClockRuns.bits34 (fun HT_ HW_ => ?_)
                                   generalize w482.drew = w483 at BK217 BK235 BK237 BK238 BK258 HB hHeld ⊢; refine pu_ 0 238 HT_ ?_; refine pu_ 1 239 HT_ ?_; refine pu_ 2 240 HT_ ?_; refine pu_ 4 242 HT_ ?_; refine pu_ 5 243 HT_ ?_; refine pu_ 6 244 HT_ ?_; refine tk_ 3 241 HT_ HW_ hHeld ?_; refine tk_ 7 245 HT_ HW_ hHeld ?_; refine pu_ 8 246 HT_ ?_; refine pu_ 9 247 HT_ ?_; refine pu_ 10 248 HT_ ?_; refine pu_ 11 249 HT_ ?_; refine pu_ 13 251 HT_ ?_; refine pu_ 14 252 HT_ ?_; refine tk_ 12 250 HT_ HW_ hHeld ?_; refine pu_ 15 253 HT_ ?_; refine pu_ 16 254 HT_ ?_; refine pu_ 17 255 HT_ ?_; refine pu_ 18 256 HT_ ?_; refine pu_ 20 258 HT_ ?_; refine tk_ 19 257 HT_ HW_ hHeld ?_; refine pu_ 21 259 HT_ ?_; refine pu_ 22 260 HT_ ?_; refine pu_ 23 261 HT_ ?_; refine pu_ 24 262 HT_ ?_; refine tk_ 25 263 HT_ HW_ hHeld ?_; refine pu_ 26 264 HT_ ?_; refine pu_ 27 265 HT_ ?_
                                   refine done_ (done_of HT_.out kr_) ?_
                                   try go_wp2
                                   go_ret
                                   exact ⟨by first | rfl | (simp [errW_none, errW_some] <;> rfl) | (simp only [← hji7, ← hji389]; first | rfl | (simp [errW_none, errW_some] <;> rfl)) | (simp [*, errW_none, errW_some] <;> rfl), xW HB⟩⟩
                                  exact inferInstanceAs _
                                 ·rw [if_neg c459] at H
                                  have c459b0 : (t254 == (wrap64 (x12_3 + (rd y219 x74_3)))) = false := beq_eq_false_iff_ne.mpr c459
                                  have c459b1 : (t254 != (wrap64 (x12_3 + (rd y219 x74_3)))) = true := bne_iff_ne.mpr c459; clear c459
                                  obtain rfl := Option.some.inj H
                                  try go_wp2
                                  replace BK217 := Aside0.mk (blk_drew BK217.out); replace BK235 := Aside0.mk (blk_drew BK235.out); replace BK237 := Aside0.mk (blk_drew BK237.out); replace BK238 := Aside0.mk (blk_drew BK238.out); replace BK258 := Aside0.mk (blk_drew BK258.out); replace HB := Aside0.mk (below_drew1 HB.out)
                                  refine start_ (n := 19) (S := fun w' => ce w' gb238 0 (.int .i64 z239a3) ∧ ce w' gb238 1 (.int .i64 z239b3)) (ds := [18]) (mk 19 0) kr_ rfl rfl ⟨xc BK238 0, xc BK238 1⟩ (fun hHeld => ?_); refine with_tabW gamehalllaw3_ClockRuns.tab32 gamehalllaw3_ClockRuns.bits32 (fun HT_ HW_ => ?_)
                                  generalize wc.drew = w484 at BK217 BK235 BK237 BK238 BK258 HB hHeld ⊢; refine pu_ 0 213 HT_ ?_; refine pu_ 1 214 HT_ ?_; refine pu_ 2 215 HT_ ?_; refine pu_ 3 216 HT_ ?_; refine pu_ 4 217 HT_ ?_; refine pu_ 5 218 HT_ ?_; refine pu_ 6 219 HT_ ?_; refine pu_ 9 222 HT_ ?_; refine pu_ 10 223 HT_ ?_; refine pu_ 12 225 HT_ ?_; refine pu_ 14 12 HT_ ?_; refine tk_ 11 224 HT_ HW_ hHeld ?_; refine pu_ 13 226 HT_ ?_
                                  refine one_ (i := 7) (N := some 220) #[true, true, true, true, true, true, true, true, false, true, true, true, true, true, true, false, false, false, false] rfl rfl (one_of HT_.out kr_) (by decide) (fun K hK => ?_)
                                  have hcv7_0 : w484.cell? ⟨gb237, 0, none⟩ = some (.int .i64 z238a3) := (blk_cell BK237.out 0).trans rfl
                                  have hcv7_1 : w484.cell? ⟨gb237, 1, none⟩ = some (.int .i64 z238b3) := (blk_cell BK237.out 1).trans rfl
                                  refine value_ (w1 := ?_) (v := ?_) (by rfl) rfl ?_ ?_
                                  rotate_left 2
                                  ·go_simp
                                   constructor
                                   ·rfl
                                   ·rfl
                                  refine hK.out _ _ ⟨hHeld.1, hHeld.2⟩ (fun hHeld => ?_)
                                  clear hK K
                                  refine norm_ (a' := ?_) ?_ ?_
                                  rotate_left
                                  ·show Act.put _ (some 220) _ = _
                                   simp only [Act.put, List.setIfInBounds_toArray, List.set_cons_zero, List.set_cons_succ, i64_w, i32_w]
                                   rfl
                                  refine pu_ 8 221 HT_ ?_; refine pu_ 15 227 HT_ ?_
                                  refine one_ (i := 16) (N := none) #[true, true, true, true, true, true, true, true, true, true, true, true, true, true, true, true, true, false, false] rfl rfl (one_of HT_.out kr_) (by decide) (fun K hK => ?_)
                                  have hs485 : w484.cell? ⟨gb237, 1, none⟩ = some (.int .i64 z238b3) := (blk_cell BK237.out 1).trans rfl
                                  have hfs485 := blk_frozen BK237.out 1; have hms485_0 := NB237_217.out; have hms485_1 := NB237_235.out; have hms485_3 := NB237_238.out; have hms485_4 := NB237_258.out
                                  refine skip_ (w1 := ?_) (by rfl) rfl ?_ ?_
                                  rotate_left
                                  ·go_simp
                                   rfl
                                  refine hK.out _ _ ⟨((cell_far (p := ⟨gb237, _, none⟩) NB238_237.out _).trans (hHeld.1)), ((cell_far (p := ⟨gb237, _, none⟩) NB238_237.out _).trans (hHeld.2))⟩ (fun hHeld => ?_)
                                  clear hK K; refine pu_ 17 228 HT_ ?_
                                  refine last_ (i := 18) (N := none) #[true, true, true, true, true, true, true, true, true, true, true, true, true, true, true, true, true, true, true] rfl rfl (one_of HT_.out kr_) (by decide) (fun K hK => ?_)
                                  have hs486 : w484.cell? ⟨gb238, 1, none⟩ = some (.int .i64 z239b3) := (blk_cell BK238.out 1).trans rfl
                                  have hfs486 := blk_frozen BK238.out 1; have hms486_0 := NB238_217.out; have hms486_1 := NB238_235.out; have hms486_2 := NB238_237.out; have hms486_4 := NB238_258.out
                                  refine skip_ (w1 := ?_) (by rfl) rfl ?_ ?_
                                  rotate_left
                                  ·go_simp
                                   rfl
                                  refine hK.out _ _ ?_
                                  clear hK K
                                  refine done_ (done_of HT_.out kr_) ?_
                                  try go_wp2
                                  have n0_ : Aside0 (((w484.setCell ⟨gb237, 1, none⟩ (.int .i64 (wrap64 (z238b3 + 1)))).setCell ⟨gb238, 1, none⟩ (.int .i64 (wrap64 (z239b3 + t261)))).heap[gb217]? = some (.cells #[.slice A0_0 l0_0.length c0_0, .int .i64 a0_1, .int .i64 a0_2] 24 (0, 0))) := ⟨xK BK217⟩
                                  have n1_ : Aside0 (((w484.setCell ⟨gb237, 1, none⟩ (.int .i64 (wrap64 (z238b3 + 1)))).setCell ⟨gb238, 1, none⟩ (.int .i64 (wrap64 (z239b3 + t261)))).heap[gb235]? = some (.cells #[.int .i64 z236a3, .int .i64 z236b3, .int .i64 z236c3, .int .i64 z236d3, .int .i64 z236e3, .int .i64 z236f3, .int .i64 z236g3, .int .i64 z236h3, .bool z236i3, .int .i64 z236j3] 31 (0, 0))) := ⟨xK BK235⟩
                                  have n2_ : Aside0 (((w484.setCell ⟨gb237, 1, none⟩ (.int .i64 (wrap64 (z238b3 + 1)))).setCell ⟨gb238, 1, none⟩ (.int .i64 (wrap64 (z239b3 + t261)))).heap[gb237]? = some (.cells #[.int .i64 z238a3, .int .i64 (wrap64 (z238b3 + 1))] 29 (0, 0))) := ⟨xQ BK237⟩
                                  have n3_ : Aside0 (((w484.setCell ⟨gb237, 1, none⟩ (.int .i64 (wrap64 (z238b3 + 1)))).setCell ⟨gb238, 1, none⟩ (.int .i64 (wrap64 (z239b3 + t261)))).heap[gb238]? = some (.cells #[.int .i64 z239a3, .int .i64 (wrap64 (z239b3 + t261))] 29 (0, 0))) := ⟨xQ BK238⟩
                                  have n4_ : Aside0 (((w484.setCell ⟨gb237, 1, none⟩ (.int .i64 (wrap64 (z238b3 + 1)))).setCell ⟨gb238, 1, none⟩ (.int .i64 (wrap64 (z239b3 + t261)))).heap[gb258]? = some (.cells #[.int .i64 t247, .int .i64 t248, .int .i64 t249, .int .i64 t250, .int .i64 t251, .int .i64 t252, .int .i64 t253, .int .i64 t254, .bool t255, .int .i64 t256] 31 (0, 0))) := ⟨xK BK258⟩
                                  have n5_ : Aside0 (Below w.heap.size w ((w484.setCell ⟨gb237, 1, none⟩ (.int .i64 (wrap64 (z238b3 + 1)))).setCell ⟨gb238, 1, none⟩ (.int .i64 (wrap64 (z239b3 + t261))))) := ⟨xW HB⟩
                                  (try clear BK217)
                                  (try clear BK235)
                                  (try clear BK237)
                                  (try clear BK238)
                                  (try clear BK258)
                                  (try clear HB)
                                  generalize ((w484.setCell ⟨gb237, 1, none⟩ (.int .i64 (wrap64 (z238b3 + 1)))).setCell ⟨gb238, 1, none⟩ (.int .i64 (wrap64 (z239b3 + t261)))) = w487 at n0_ n1_ n2_ n3_ n4_ n5_ ⊢; have BK217 := n0_; have BK235 := n1_; have BK237 := n2_; have BK238 := n3_; have BK258 := n4_; have HB := n5_; clear n0_ n1_ n2_ n3_ n4_ n5_; replace BK217 := Aside0.mk (blk_drew BK217.out); replace BK235 := Aside0.mk (blk_drew BK235.out); replace BK237 := Aside0.mk (blk_drew BK237.out); replace BK238 := Aside0.mk (blk_drew BK238.out); replace BK258 := Aside0.mk (blk_drew BK258.out); replace HB := Aside0.mk (below_drew1 HB.out)
                                  refine start_ (n := 10) (S := fun w' => ce w' gb217 0 (.slice A0_0 l0_0.length c0_0) ∧ ce w' gb217 1 (.int .i64 a0_1) ∧ ce w' gb217 2 (.int .i64 a0_2) ∧ ce w' gb237 0 (.int .i64 z238a3) ∧ w'.cell? ⟨gb237, 1, none⟩ = some (.int .i64 (wrap64 (z238b3 + 1)))) (ds := []) (mk 10 0) kr_ rfl rfl ⟨xc BK217 0, xc BK217 1, xc BK217 2, xc BK237 0, xc BK237 1⟩ (fun hHeld => ?_); refine with_tabW gamehalllaw3_ClockRuns.tab33 gamehalllaw3_ClockRuns.bits33 (fun HT_ HW_ => ?_)
                                  generalize w487.drew = w488 at BK217 BK235 BK237 BK238 BK258 HB hHeld ⊢; refine pu_ 1 231 HT_ ?_; refine pu_ 2 232 HT_ ?_; refine tk_ 0 230 HT_ HW_ hHeld ?_; refine tk_ 3 233 HT_ HW_ hHeld ?_
                                  refine one_ (i := 4) (N := some 234) #[true, true, true, true, true, false, false, false, false, false] rfl rfl (one_of HT_.out kr_) (by decide) (fun K hK => ?_)
                                  refine goes_ Try.func9 kr_ rfl #[.agg #[.slice A0_0 l0_0.length c0_0, .int .i64 a0_1, .int .i64 a0_2], .int .i64 (wrap64 (z238b3 + 1))] (by rfl) rfl rfl (by (try simp only [List.map_toArray, List.map_cons, List.map_nil]); first | done | rfl | (simp only [List.length_drop, List.length_take]; rfl)) ?_
                                  with_reducible refine (gamehallref3_Budget.calls kj324 _ _ l0_0 a0_1 a0_2 (wrap64 (z238b3 + 1)) t277 t278 t279 _ ?side1 ?side2 A454.out).mono ?_
                                  (case side1 => exact xC (Kd.C_below HR0_0.out HB.out))
                                  (case side2 => exact HC0_0.out)
                                  rintro e w489 ⟨rfl, hb⟩
                                  refine ⟨_, rfl, ?_⟩
                                  replace BK217 := Aside0.mk (xB BK217 hb); replace BK235 := Aside0.mk (xB BK235 hb); replace BK237 := Aside0.mk (xB BK237 hb); replace BK238 := Aside0.mk (xB BK238 hb); replace BK258 := Aside0.mk (xB BK258 hb); replace HB := Aside0.mk (xS HB hb)
                                  (try clear hb)
                                  (try clear hb2)
                                  (try clear hk)
                                  (try clear hi)
                                  refine hK.out _ _ ⟨(blk_cell BK217.out 0).trans rfl, (blk_cell BK217.out 1).trans rfl, (blk_cell BK217.out 2).trans rfl, (blk_cell BK237.out 0).trans rfl, (blk_cell BK237.out 1).trans rfl⟩ (fun hHeld => ?_)
                                  clear hK K
                                  refine norm_ (a' := ?_) ?_ ?_
                                  rotate_left
                                  ·show Act.put _ (some 234) _ = _
                                   simp only [Act.put, List.setIfInBounds_toArray, List.set_cons_zero, List.set_cons_succ, i64_w, i32_w]
                                   rfl
                                  refine pu_ 5 229 HT_ ?_; refine pu_ 6 235 HT_ ?_; refine pu_ 7 236 HT_ ?_; refine pu_ 8 237 HT_ ?_; refine pu_ 9 18 HT_ ?_
                                  refine done_ (done_of HT_.out kr_) ?_
                                  try go_wp2
                                  replace BK217 := Aside0.mk (blk_drew BK217.out); replace BK235 := Aside0.mk (blk_drew BK235.out); replace BK237 := Aside0.mk (blk_drew BK237.out); replace BK238 := Aside0.mk (blk_drew BK238.out); replace BK258 := Aside0.mk (blk_drew BK258.out); replace HB := Aside0.mk (below_drew1 HB.out)
                                  refine start_ (n := 28) (S := fun w' => ce w' gb258 0 (.int .i64 t247) ∧ ce w' gb258 1 (.int .i64 t248) ∧ ce w' gb258 2 (.int .i64 t249) ∧ ce w' gb258 3 (.int .i64 t250) ∧ ce w' gb258 4 (.int .i64 t251) ∧ ce w' gb258 5 (.int .i64 t252) ∧ ce w' gb258 6 (.int .i64 t253) ∧ ce w' gb258 7 (.int .i64 t254) ∧ ce w' gb258 8 (.bool t255) ∧ ce w' gb258 9 (.int .i64 t256) ∧ ce w' gb238 0 (.int .i64 z239a3) ∧ w'.cell? ⟨gb238, 1, none⟩ = some (.int .i64 (wrap64 (z239b3 + t261)))) (ds := []) (mk 28 0) kr_ rfl rfl ⟨xc BK258 0, xc BK258 1, xc BK258 2, xc BK258 3, xc BK258 4, xc BK258 5, xc BK258 6, xc BK258 7, xc BK258 8, xc BK258 9, xc BK238 0, xc BK238 1⟩ (fun hHeld => ?_); refine with_tabW gamehalllaw3_ClockRuns.tab34 gamehalllaw3_ClockRuns.bits34 (fun HT_ HW_ => ?_)
                                  generalize w489.drew = w490 at BK217 BK235 BK237 BK238 BK258 HB hHeld ⊢; refine pu_ 0 238 HT_ ?_; refine pu_ 1 239 HT_ ?_; refine pu_ 2 240 HT_ ?_; refine pu_ 4 242 HT_ ?_; refine pu_ 5 243 HT_ ?_; refine pu_ 6 244 HT_ ?_; refine tk_ 3 241 HT_ HW_ hHeld ?_; refine tk_ 7 245 HT_ HW_ hHeld ?_; refine pu_ 8 246 HT_ ?_; refine pu_ 9 247 HT_ ?_; refine pu_ 10 248 HT_ ?_; refine pu_ 11 249 HT_ ?_; refine pu_ 13 251 HT_ ?_; refine pu_ 14 252 HT_ ?_; refine tk_ 12 250 HT_ HW_ hHeld ?_; refine pu_ 15 253 HT_ ?_; refine pu_ 16 254 HT_ ?_; refine pu_ 17 255 HT_ ?_; refine pu_ 18 256 HT_ ?_; refine pu_ 20 258 HT_ ?_; refine tk_ 19 257 HT_ HW_ hHeld ?_; refine pu_ 21 259 HT_ ?_; refine pu_ 22 260 HT_ ?_; refine pu_ 23 261 HT_ ?_; refine pn_ 24 262 HT_ ?_; refine pn_ 25 263 HT_ ?_; refine pn_ 26 264 HT_ ?_; refine pu_ 27 265 HT_ ?_
                                  refine done_ (done_of HT_.out kr_) ?_
                                  try go_wp2
                                  go_ret
                                  exact ⟨by first | rfl | (simp [errW_none, errW_some] <;> rfl) | (simp only [← hji7, ← hji389]; first | rfl | (simp [errW_none, errW_some] <;> rfl)) | (simp [*, errW_none, errW_some] <;> rfl), xW HB⟩⟩
                                 exact inferInstanceAs _
                                ·rw [if_neg c458] at H
                                 have c458b0 : (t253 == (wrap64 (1 - (ji389)))) = false := beq_eq_false_iff_ne.mpr c458
                                 have c458b1 : (t253 != (wrap64 (1 - (ji389)))) = true := bne_iff_ne.mpr c458; clear c458
                                 obtain rfl := Option.some.inj H
                                 try go_wp2
                                 replace BK217 := Aside0.mk (blk_drew BK217.out); replace BK235 := Aside0.mk (blk_drew BK235.out); replace BK237 := Aside0.mk (blk_drew BK237.out); replace BK238 := Aside0.mk (blk_drew BK238.out); replace BK258 := Aside0.mk (blk_drew BK258.out); replace HB := Aside0.mk (below_drew1 HB.out)
                                 refine start_ (n := 19) (S := fun w' => ce w' gb238 0 (.int .i64 z239a3) ∧ ce w' gb238 1 (.int .i64 z239b3)) (ds := [18]) (mk 19 0) kr_ rfl rfl ⟨xc BK238 0, xc BK238 1⟩ (fun hHeld => ?_); refine with_tabW gamehalllaw3_ClockRuns.tab32 gamehalllaw3_ClockRuns.bits32 (fun HT_ HW_ => ?_)
                                 generalize wc.drew = w491 at BK217 BK235 BK237 BK238 BK258 HB hHeld ⊢; refine pu_ 0 213 HT_ ?_; refine pu_ 1 214 HT_ ?_; refine pu_ 2 215 HT_ ?_; refine pu_ 3 216 HT_ ?_; refine pu_ 4 217 HT_ ?_; refine pu_ 5 218 HT_ ?_; refine pu_ 6 219 HT_ ?_; refine pu_ 9 222 HT_ ?_; refine pu_ 10 223 HT_ ?_; refine pu_ 12 225 HT_ ?_; refine pu_ 14 12 HT_ ?_; refine tk_ 11 224 HT_ HW_ hHeld ?_; refine pu_ 13 226 HT_ ?_
                                 refine one_ (i := 7) (N := some 220) #[true, true, true, true, true, true, true, true, false, true, true, true, true, true, true, false, false, false, false] rfl rfl (one_of HT_.out kr_) (by decide) (fun K hK => ?_)
                                 have hcv7_0 : w491.cell? ⟨gb237, 0, none⟩ = some (.int .i64 z238a3) := (blk_cell BK237.out 0).trans rfl
                                 have hcv7_1 : w491.cell? ⟨gb237, 1, none⟩ = some (.int .i64 z238b3) := (blk_cell BK237.out 1).trans rfl
                                 refine value_ (w1 := ?_) (v := ?_) (by rfl) rfl ?_ ?_
                                 rotate_left 2
                                 ·go_simp
                                  constructor
                                  ·rfl
                                  ·rfl
                                 refine hK.out _ _ ⟨hHeld.1, hHeld.2⟩ (fun hHeld => ?_)
                                 clear hK K
                                 refine norm_ (a' := ?_) ?_ ?_
                                 rotate_left
                                 ·show Act.put _ (some 220) _ = _
                                  simp only [Act.put, List.setIfInBounds_toArray, List.set_cons_zero, List.set_cons_succ, i64_w, i32_w]
                                  rfl
                                 refine pu_ 8 221 HT_ ?_; refine pu_ 15 227 HT_ ?_
                                 refine one_ (i := 16) (N := none) #[true, true, true, true, true, true, true, true, true, true, true, true, true, true, true, true, true, false, false] rfl rfl (one_of HT_.out kr_) (by decide) (fun K hK => ?_)
                                 have hs492 : w491.cell? ⟨gb237, 1, none⟩ = some (.int .i64 z238b3) := (blk_cell BK237.out 1).trans rfl
                                 have hfs492 := blk_frozen BK237.out 1; have hms492_0 := NB237_217.out; have hms492_1 := NB237_235.out; have hms492_3 := NB237_238.out; have hms492_4 := NB237_258.out
                                 refine skip_ (w1 := ?_) (by rfl) rfl ?_ ?_
                                 rotate_left
                                 ·go_simp
                                  rfl
                                 refine hK.out _ _ ⟨((cell_far (p := ⟨gb237, _, none⟩) NB238_237.out _).trans (hHeld.1)), ((cell_far (p := ⟨gb237, _, none⟩) NB238_237.out _).trans (hHeld.2))⟩ (fun hHeld => ?_)
                                 clear hK K; refine pu_ 17 228 HT_ ?_
                                 refine last_ (i := 18) (N := none) #[true, true, true, true, true, true, true, true, true, true, true, true, true, true, true, true, true, true, true] rfl rfl (one_of HT_.out kr_) (by decide) (fun K hK => ?_)
                                 have hs493 : w491.cell? ⟨gb238, 1, none⟩ = some (.int .i64 z239b3) := (blk_cell BK238.out 1).trans rfl
                                 have hfs493 := blk_frozen BK238.out 1; have hms493_0 := NB238_217.out; have hms493_1 := NB238_235.out; have hms493_2 := NB238_237.out; have hms493_4 := NB238_258.out
                                 refine skip_ (w1 := ?_) (by rfl) rfl ?_ ?_
                                 rotate_left
                                 ·go_simp
                                  rfl
                                 refine hK.out _ _ ?_
                                 clear hK K
                                 refine done_ (done_of HT_.out kr_) ?_
                                 try go_wp2
                                 have n0_ : Aside0 (((w491.setCell ⟨gb237, 1, none⟩ (.int .i64 (wrap64 (z238b3 + 1)))).setCell ⟨gb238, 1, none⟩ (.int .i64 (wrap64 (z239b3 + t261)))).heap[gb217]? = some (.cells #[.slice A0_0 l0_0.length c0_0, .int .i64 a0_1, .int .i64 a0_2] 24 (0, 0))) := ⟨xK BK217⟩
                                 have n1_ : Aside0 (((w491.setCell ⟨gb237, 1, none⟩ (.int .i64 (wrap64 (z238b3 + 1)))).setCell ⟨gb238, 1, none⟩ (.int .i64 (wrap64 (z239b3 + t261)))).heap[gb235]? = some (.cells #[.int .i64 z236a3, .int .i64 z236b3, .int .i64 z236c3, .int .i64 z236d3, .int .i64 z236e3, .int .i64 z236f3, .int .i64 z236g3, .int .i64 z236h3, .bool z236i3, .int .i64 z236j3] 31 (0, 0))) := ⟨xK BK235⟩
                                 have n2_ : Aside0 (((w491.setCell ⟨gb237, 1, none⟩ (.int .i64 (wrap64 (z238b3 + 1)))).setCell ⟨gb238, 1, none⟩ (.int .i64 (wrap64 (z239b3 + t261)))).heap[gb237]? = some (.cells #[.int .i64 z238a3, .int .i64 (wrap64 (z238b3 + 1))] 29 (0, 0))) := ⟨xQ BK237⟩
                                 have n3_ : Aside0 (((w491.setCell ⟨gb237, 1, none⟩ (.int .i64 (wrap64 (z238b3 + 1)))).setCell ⟨gb238, 1, none⟩ (.int .i64 (wrap64 (z239b3 + t261)))).heap[gb238]? = some (.cells #[.int .i64 z239a3, .int .i64 (wrap64 (z239b3 + t261))] 29 (0, 0))) := ⟨xQ BK238⟩
                                 have n4_ : Aside0 (((w491.setCell ⟨gb237, 1, none⟩ (.int .i64 (wrap64 (z238b3 + 1)))).setCell ⟨gb238, 1, none⟩ (.int .i64 (wrap64 (z239b3 + t261)))).heap[gb258]? = some (.cells #[.int .i64 t247, .int .i64 t248, .int .i64 t249, .int .i64 t250, .int .i64 t251, .int .i64 t252, .int .i64 t253, .int .i64 t254, .bool t255, .int .i64 t256] 31 (0, 0))) := ⟨xK BK258⟩
                                 have n5_ : Aside0 (Below w.heap.size w ((w491.setCell ⟨gb237, 1, none⟩ (.int .i64 (wrap64 (z238b3 + 1)))).setCell ⟨gb238, 1, none⟩ (.int .i64 (wrap64 (z239b3 + t261))))) := ⟨xW HB⟩
                                 (try clear BK217)
                                 (try clear BK235)
                                 (try clear BK237)
                                 (try clear BK238)
                                 (try clear BK258)
                                 (try clear HB)
                                 generalize ((w491.setCell ⟨gb237, 1, none⟩ (.int .i64 (wrap64 (z238b3 + 1)))).setCell ⟨gb238, 1, none⟩ (.int .i64 (wrap64 (z239b3 + t261)))) = w494 at n0_ n1_ n2_ n3_ n4_ n5_ ⊢; have BK217 := n0_; have BK235 := n1_; have BK237 := n2_; have BK238 := n3_; have BK258 := n4_; have HB := n5_; clear n0_ n1_ n2_ n3_ n4_ n5_; replace BK217 := Aside0.mk (blk_drew BK217.out); replace BK235 := Aside0.mk (blk_drew BK235.out); replace BK237 := Aside0.mk (blk_drew BK237.out); replace BK238 := Aside0.mk (blk_drew BK238.out); replace BK258 := Aside0.mk (blk_drew BK258.out); replace HB := Aside0.mk (below_drew1 HB.out)
                                 refine start_ (n := 10) (S := fun w' => ce w' gb217 0 (.slice A0_0 l0_0.length c0_0) ∧ ce w' gb217 1 (.int .i64 a0_1) ∧ ce w' gb217 2 (.int .i64 a0_2) ∧ ce w' gb237 0 (.int .i64 z238a3) ∧ w'.cell? ⟨gb237, 1, none⟩ = some (.int .i64 (wrap64 (z238b3 + 1)))) (ds := []) (mk 10 0) kr_ rfl rfl ⟨xc BK217 0, xc BK217 1, xc BK217 2, xc BK237 0, xc BK237 1⟩ (fun hHeld => ?_); refine with_tabW gamehalllaw3_ClockRuns.tab33 gamehalllaw3_ClockRuns.bits33 (fun HT_ HW_ => ?_)
                                 generalize w494.drew = w495 at BK217 BK235 BK237 BK238 BK258 HB hHeld ⊢; refine pu_ 1 231 HT_ ?_; refine pu_ 2 232 HT_ ?_; refine tk_ 0 230 HT_ HW_ hHeld ?_; refine tk_ 3 233 HT_ HW_ hHeld ?_
                                 refine one_ (i := 4) (N := some 234) #[true, true, true, true, true, false, false, false, false, false] rfl rfl (one_of HT_.out kr_) (by decide) (fun K hK => ?_)
                                 refine goes_ Try.func9 kr_ rfl #[.agg #[.slice A0_0 l0_0.length c0_0, .int .i64 a0_1, .int .i64 a0_2], .int .i64 (wrap64 (z238b3 + 1))] (by rfl) rfl rfl (by (try simp only [List.map_toArray, List.map_cons, List.map_nil]); first | done | rfl | (simp only [List.length_drop, List.length_take]; rfl)) ?_
                                 with_reducible refine (gamehallref3_Budget.calls kj324 _ _ l0_0 a0_1 a0_2 (wrap64 (z238b3 + 1)) t277 t278 t279 _ ?side1 ?side2 A454.out).mono ?_
                                 (case side1 => exact xC (Kd.C_below HR0_0.out HB.out))
                                 (case side2 => exact HC0_0.out)
                                 rintro e w496 ⟨rfl, hb⟩
                                 refine ⟨_, rfl, ?_⟩
                                 replace BK217 := Aside0.mk (xB BK217 hb); replace BK235 := Aside0.mk (xB BK235 hb); replace BK237 := Aside0.mk (xB BK237 hb); replace BK238 := Aside0.mk (xB BK238 hb); replace BK258 := Aside0.mk (xB BK258 hb); replace HB := Aside0.mk (xS HB hb)
                                 (try clear hb)
                                 (try clear hb2)
                                 (try clear hk)
                                 (try clear hi)
                                 refine hK.out _ _ ⟨(blk_cell BK217.out 0).trans rfl, (blk_cell BK217.out 1).trans rfl, (blk_cell BK217.out 2).trans rfl, (blk_cell BK237.out 0).trans rfl, (blk_cell BK237.out 1).trans rfl⟩ (fun hHeld => ?_)
                                 clear hK K
                                 refine norm_ (a' := ?_) ?_ ?_
                                 rotate_left
                                 ·show Act.put _ (some 234) _ = _
                                  simp only [Act.put, List.setIfInBounds_toArray, List.set_cons_zero, List.set_cons_succ, i64_w, i32_w]
                                  rfl
                                 refine pu_ 5 229 HT_ ?_; refine pu_ 6 235 HT_ ?_; refine pu_ 7 236 HT_ ?_; refine pu_ 8 237 HT_ ?_; refine pu_ 9 18 HT_ ?_
                                 refine done_ (done_of HT_.out kr_) ?_
                                 try go_wp2
                                 replace BK217 := Aside0.mk (blk_drew BK217.out); replace BK235 := Aside0.mk (blk_drew BK235.out); replace BK237 := Aside0.mk (blk_drew BK237.out); replace BK238 := Aside0.mk (blk_drew BK238.out); replace BK258 := Aside0.mk (blk_drew BK258.out); replace HB := Aside0.mk (below_drew1 HB.out)
                                 refine start_ (n := 28) (S := fun w' => ce w' gb258 0 (.int .i64 t247) ∧ ce w' gb258 1 (.int .i64 t248) ∧ ce w' gb258 2 (.int .i64 t249) ∧ ce w' gb258 3 (.int .i64 t250) ∧ ce w' gb258 4 (.int .i64 t251) ∧ ce w' gb258 5 (.int .i64 t252) ∧ ce w' gb258 6 (.int .i64 t253) ∧ ce w' gb258 7 (.int .i64 t254) ∧ ce w' gb258 8 (.bool t255) ∧ ce w' gb258 9 (.int .i64 t256) ∧ ce w' gb238 0 (.int .i64 z239a3) ∧ w'.cell? ⟨gb238, 1, none⟩ = some (.int .i64 (wrap64 (z239b3 + t261)))) (ds := []) (mk 28 0) kr_ rfl rfl ⟨xc BK258 0, xc BK258 1, xc BK258 2, xc BK258 3, xc BK258 4, xc BK258 5, xc BK258 6, xc BK258 7, xc BK258 8, xc BK258 9, xc BK238 0, xc BK238 1⟩ (fun hHeld => ?_); refine with_tabW gamehalllaw3_ClockRuns.tab34 gamehalllaw3_ClockRuns.bits34 (fun HT_ HW_ => ?_)
                                 generalize w496.drew = w497 at BK217 BK235 BK237 BK238 BK258 HB hHeld ⊢; refine pu_ 0 238 HT_ ?_; refine pu_ 1 239 HT_ ?_; refine pu_ 2 240 HT_ ?_; refine pu_ 4 242 HT_ ?_; refine pu_ 5 243 HT_ ?_; refine pu_ 6 244 HT_ ?_; refine tk_ 3 241 HT_ HW_ hHeld ?_; refine tk_ 7 245 HT_ HW_ hHeld ?_; refine pu_ 8 246 HT_ ?_; refine pu_ 9 247 HT_ ?_; refine pu_ 10 248 HT_ ?_; refine pu_ 11 249 HT_ ?_; refine pu_ 13 251 HT_ ?_; refine pu_ 14 252 HT_ ?_; refine tk_ 12 250 HT_ HW_ hHeld ?_; refine pu_ 15 253 HT_ ?_; refine pu_ 16 254 HT_ ?_; refine pu_ 17 255 HT_ ?_; refine pn_ 18 256 HT_ ?_; refine pn_ 19 257 HT_ ?_; refine pn_ 20 258 HT_ ?_; refine pn_ 21 259 HT_ ?_; refine pu_ 22 260 HT_ ?_; refine pu_ 23 261 HT_ ?_; refine pn_ 24 262 HT_ ?_; refine pn_ 25 263 HT_ ?_; refine pn_ 26 264 HT_ ?_; refine pu_ 27 265 HT_ ?_
                                 refine done_ (done_of HT_.out kr_) ?_
                                 try go_wp2
                                 go_ret
                                 exact ⟨by first | rfl | (simp [errW_none, errW_some] <;> rfl) | (simp only [← hji7, ← hji389]; first | rfl | (simp [errW_none, errW_some] <;> rfl)) | (simp [*, errW_none, errW_some] <;> rfl), xW HB⟩⟩
                                exact inferInstanceAs _
                               ·rw [if_neg c457] at H
                                have c457b0 : (t248 == (wrap64 (t277 - (wrap64 (z239b3 + t261))))) = false := beq_eq_false_iff_ne.mpr c457
                                have c457b1 : (t248 != (wrap64 (t277 - (wrap64 (z239b3 + t261))))) = true := bne_iff_ne.mpr c457; clear c457
                                obtain rfl := Option.some.inj H
                                try go_wp2
                                replace BK217 := Aside0.mk (blk_drew BK217.out); replace BK235 := Aside0.mk (blk_drew BK235.out); replace BK237 := Aside0.mk (blk_drew BK237.out); replace BK238 := Aside0.mk (blk_drew BK238.out); replace BK258 := Aside0.mk (blk_drew BK258.out); replace HB := Aside0.mk (below_drew1 HB.out)
                                refine start_ (n := 19) (S := fun w' => ce w' gb238 0 (.int .i64 z239a3) ∧ ce w' gb238 1 (.int .i64 z239b3)) (ds := [18]) (mk 19 0) kr_ rfl rfl ⟨xc BK238 0, xc BK238 1⟩ (fun hHeld => ?_); refine with_tabW gamehalllaw3_ClockRuns.tab32 gamehalllaw3_ClockRuns.bits32 (fun HT_ HW_ => ?_)
                                generalize wc.drew = w498 at BK217 BK235 BK237 BK238 BK258 HB hHeld ⊢; refine pu_ 0 213 HT_ ?_; refine pu_ 1 214 HT_ ?_; refine pu_ 2 215 HT_ ?_; refine pu_ 3 216 HT_ ?_; refine pu_ 4 217 HT_ ?_; refine pu_ 5 218 HT_ ?_; refine pu_ 6 219 HT_ ?_; refine pu_ 9 222 HT_ ?_; refine pu_ 10 223 HT_ ?_; refine pu_ 12 225 HT_ ?_; refine pu_ 14 12 HT_ ?_; refine tk_ 11 224 HT_ HW_ hHeld ?_; refine pu_ 13 226 HT_ ?_
                                refine one_ (i := 7) (N := some 220) #[true, true, true, true, true, true, true, true, false, true, true, true, true, true, true, false, false, false, false] rfl rfl (one_of HT_.out kr_) (by decide) (fun K hK => ?_)
                                have hcv7_0 : w498.cell? ⟨gb237, 0, none⟩ = some (.int .i64 z238a3) := (blk_cell BK237.out 0).trans rfl
                                have hcv7_1 : w498.cell? ⟨gb237, 1, none⟩ = some (.int .i64 z238b3) := (blk_cell BK237.out 1).trans rfl
                                refine value_ (w1 := ?_) (v := ?_) (by rfl) rfl ?_ ?_
                                rotate_left 2
                                ·go_simp
                                 constructor
                                 ·rfl
                                 ·rfl
                                refine hK.out _ _ ⟨hHeld.1, hHeld.2⟩ (fun hHeld => ?_)
                                clear hK K
                                refine norm_ (a' := ?_) ?_ ?_
                                rotate_left
                                ·show Act.put _ (some 220) _ = _
                                 simp only [Act.put, List.setIfInBounds_toArray, List.set_cons_zero, List.set_cons_succ, i64_w, i32_w]
                                 rfl
                                refine pu_ 8 221 HT_ ?_; refine pu_ 15 227 HT_ ?_
                                refine one_ (i := 16) (N := none) #[true, true, true, true, true, true, true, true, true, true, true, true, true, true, true, true, true, false, false] rfl rfl (one_of HT_.out kr_) (by decide) (fun K hK => ?_)
                                have hs499 : w498.cell? ⟨gb237, 1, none⟩ = some (.int .i64 z238b3) := (blk_cell BK237.out 1).trans rfl
                                have hfs499 := blk_frozen BK237.out 1; have hms499_0 := NB237_217.out; have hms499_1 := NB237_235.out; have hms499_3 := NB237_238.out; have hms499_4 := NB237_258.out
                                refine skip_ (w1 := ?_) (by rfl) rfl ?_ ?_
                                rotate_left
                                ·go_simp
                                 rfl
                                refine hK.out _ _ ⟨((cell_far (p := ⟨gb237, _, none⟩) NB238_237.out _).trans (hHeld.1)), ((cell_far (p := ⟨gb237, _, none⟩) NB238_237.out _).trans (hHeld.2))⟩ (fun hHeld => ?_)
                                clear hK K; refine pu_ 17 228 HT_ ?_
                                refine last_ (i := 18) (N := none) #[true, true, true, true, true, true, true, true, true, true, true, true, true, true, true, true, true, true, true] rfl rfl (one_of HT_.out kr_) (by decide) (fun K hK => ?_)
                                have hs500 : w498.cell? ⟨gb238, 1, none⟩ = some (.int .i64 z239b3) := (blk_cell BK238.out 1).trans rfl
                                have hfs500 := blk_frozen BK238.out 1; have hms500_0 := NB238_217.out; have hms500_1 := NB238_235.out; have hms500_2 := NB238_237.out; have hms500_4 := NB238_258.out
                                refine skip_ (w1 := ?_) (by rfl) rfl ?_ ?_
                                rotate_left
                                ·go_simp
                                 rfl
                                refine hK.out _ _ ?_
                                clear hK K
                                refine done_ (done_of HT_.out kr_) ?_
                                try go_wp2
                                have n0_ : Aside0 (((w498.setCell ⟨gb237, 1, none⟩ (.int .i64 (wrap64 (z238b3 + 1)))).setCell ⟨gb238, 1, none⟩ (.int .i64 (wrap64 (z239b3 + t261)))).heap[gb217]? = some (.cells #[.slice A0_0 l0_0.length c0_0, .int .i64 a0_1, .int .i64 a0_2] 24 (0, 0))) := ⟨xK BK217⟩
                                have n1_ : Aside0 (((w498.setCell ⟨gb237, 1, none⟩ (.int .i64 (wrap64 (z238b3 + 1)))).setCell ⟨gb238, 1, none⟩ (.int .i64 (wrap64 (z239b3 + t261)))).heap[gb235]? = some (.cells #[.int .i64 z236a3, .int .i64 z236b3, .int .i64 z236c3, .int .i64 z236d3, .int .i64 z236e3, .int .i64 z236f3, .int .i64 z236g3, .int .i64 z236h3, .bool z236i3, .int .i64 z236j3] 31 (0, 0))) := ⟨xK BK235⟩
                                have n2_ : Aside0 (((w498.setCell ⟨gb237, 1, none⟩ (.int .i64 (wrap64 (z238b3 + 1)))).setCell ⟨gb238, 1, none⟩ (.int .i64 (wrap64 (z239b3 + t261)))).heap[gb237]? = some (.cells #[.int .i64 z238a3, .int .i64 (wrap64 (z238b3 + 1))] 29 (0, 0))) := ⟨xQ BK237⟩
                                have n3_ : Aside0 (((w498.setCell ⟨gb237, 1, none⟩ (.int .i64 (wrap64 (z238b3 + 1)))).setCell ⟨gb238, 1, none⟩ (.int .i64 (wrap64 (z239b3 + t261)))).heap[gb238]? = some (.cells #[.int .i64 z239a3, .int .i64 (wrap64 (z239b3 + t261))] 29 (0, 0))) := ⟨xQ BK238⟩
                                have n4_ : Aside0 (((w498.setCell ⟨gb237, 1, none⟩ (.int .i64 (wrap64 (z238b3 + 1)))).setCell ⟨gb238, 1, none⟩ (.int .i64 (wrap64 (z239b3 + t261)))).heap[gb258]? = some (.cells #[.int .i64 t247, .int .i64 t248, .int .i64 t249, .int .i64 t250, .int .i64 t251, .int .i64 t252, .int .i64 t253, .int .i64 t254, .bool t255, .int .i64 t256] 31 (0, 0))) := ⟨xK BK258⟩
                                have n5_ : Aside0 (Below w.heap.size w ((w498.setCell ⟨gb237, 1, none⟩ (.int .i64 (wrap64 (z238b3 + 1)))).setCell ⟨gb238, 1, none⟩ (.int .i64 (wrap64 (z239b3 + t261))))) := ⟨xW HB⟩
                                (try clear BK217)
                                (try clear BK235)
                                (try clear BK237)
                                (try clear BK238)
                                (try clear BK258)
                                (try clear HB)
                                generalize ((w498.setCell ⟨gb237, 1, none⟩ (.int .i64 (wrap64 (z238b3 + 1)))).setCell ⟨gb238, 1, none⟩ (.int .i64 (wrap64 (z239b3 + t261)))) = w501 at n0_ n1_ n2_ n3_ n4_ n5_ ⊢; have BK217 := n0_; have BK235 := n1_; have BK237 := n2_; have BK238 := n3_; have BK258 := n4_; have HB := n5_; clear n0_ n1_ n2_ n3_ n4_ n5_; replace BK217 := Aside0.mk (blk_drew BK217.out); replace BK235 := Aside0.mk (blk_drew BK235.out); replace BK237 := Aside0.mk (blk_drew BK237.out); replace BK238 := Aside0.mk (blk_drew BK238.out); replace BK258 := Aside0.mk (blk_drew BK258.out); replace HB := Aside0.mk (below_drew1 HB.out)
                                refine start_ (n := 10) (S := fun w' => ce w' gb217 0 (.slice A0_0 l0_0.length c0_0) ∧ ce w' gb217 1 (.int .i64 a0_1) ∧ ce w' gb217 2 (.int .i64 a0_2) ∧ ce w' gb237 0 (.int .i64 z238a3) ∧ w'.cell? ⟨gb237, 1, none⟩ = some (.int .i64 (wrap64 (z238b3 + 1)))) (ds := []) (mk 10 0) kr_ rfl rfl ⟨xc BK217 0, xc BK217 1, xc BK217 2, xc BK237 0, xc BK237 1⟩ (fun hHeld => ?_); refine with_tabW gamehalllaw3_ClockRuns.tab33 gamehalllaw3_ClockRuns.bits33 (fun HT_ HW_ => ?_)
                                generalize w501.drew = w502 at BK217 BK235 BK237 BK238 BK258 HB hHeld ⊢; refine pu_ 1 231 HT_ ?_; refine pu_ 2 232 HT_ ?_; refine tk_ 0 230 HT_ HW_ hHeld ?_; refine tk_ 3 233 HT_ HW_ hHeld ?_
                                refine one_ (i := 4) (N := some 234) #[true, true, true, true, true, false, false, false, false, false] rfl rfl (one_of HT_.out kr_) (by decide) (fun K hK => ?_)
                                refine goes_ Try.func9 kr_ rfl #[.agg #[.slice A0_0 l0_0.length c0_0, .int .i64 a0_1, .int .i64 a0_2], .int .i64 (wrap64 (z238b3 + 1))] (by rfl) rfl rfl (by (try simp only [List.map_toArray, List.map_cons, List.map_nil]); first | done | rfl | (simp only [List.length_drop, List.length_take]; rfl)) ?_
                                with_reducible refine (gamehallref3_Budget.calls kj324 _ _ l0_0 a0_1 a0_2 (wrap64 (z238b3 + 1)) t277 t278 t279 _ ?side1 ?side2 A454.out).mono ?_
                                (case side1 => exact xC (Kd.C_below HR0_0.out HB.out))
                                (case side2 => exact HC0_0.out)
                                rintro e w503 ⟨rfl, hb⟩
                                refine ⟨_, rfl, ?_⟩
                                replace BK217 := Aside0.mk (xB BK217 hb); replace BK235 := Aside0.mk (xB BK235 hb); replace BK237 := Aside0.mk (xB BK237 hb); replace BK238 := Aside0.mk (xB BK238 hb); replace BK258 := Aside0.mk (xB BK258 hb); replace HB := Aside0.mk (xS HB hb)
                                (try clear hb)
                                (try clear hb2)
                                (try clear hk)
                                (try clear hi)
                                refine hK.out _ _ ⟨(blk_cell BK217.out 0).trans rfl, (blk_cell BK217.out 1).trans rfl, (blk_cell BK217.out 2).trans rfl, (blk_cell BK237.out 0).trans rfl, (blk_cell BK237.out 1).trans rfl⟩ (fun hHeld => ?_)
                                clear hK K
                                refine norm_ (a' := ?_) ?_ ?_
                                rotate_left
                                ·show Act.put _ (some 234) _ = _
                                 simp only [Act.put, List.setIfInBounds_toArray, List.set_cons_zero, List.set_cons_succ, i64_w, i32_w]
                                 rfl
                                refine pu_ 5 229 HT_ ?_; refine pu_ 6 235 HT_ ?_; refine pu_ 7 236 HT_ ?_; refine pu_ 8 237 HT_ ?_; refine pu_ 9 18 HT_ ?_
                                refine done_ (done_of HT_.out kr_) ?_
                                try go_wp2
                                replace BK217 := Aside0.mk (blk_drew BK217.out); replace BK235 := Aside0.mk (blk_drew BK235.out); replace BK237 := Aside0.mk (blk_drew BK237.out); replace BK238 := Aside0.mk (blk_drew BK238.out); replace BK258 := Aside0.mk (blk_drew BK258.out); replace HB := Aside0.mk (below_drew1 HB.out)
                                refine start_ (n := 28) (S := fun w' => ce w' gb258 0 (.int .i64 t247) ∧ ce w' gb258 1 (.int .i64 t248) ∧ ce w' gb258 2 (.int .i64 t249) ∧ ce w' gb258 3 (.int .i64 t250) ∧ ce w' gb258 4 (.int .i64 t251) ∧ ce w' gb258 5 (.int .i64 t252) ∧ ce w' gb258 6 (.int .i64 t253) ∧ ce w' gb258 7 (.int .i64 t254) ∧ ce w' gb258 8 (.bool t255) ∧ ce w' gb258 9 (.int .i64 t256) ∧ ce w' gb238 0 (.int .i64 z239a3) ∧ w'.cell? ⟨gb238, 1, none⟩ = some (.int .i64 (wrap64 (z239b3 + t261)))) (ds := []) (mk 28 0) kr_ rfl rfl ⟨xc BK258 0, xc BK258 1, xc BK258 2, xc BK258 3, xc BK258 4, xc BK258 5, xc BK258 6, xc BK258 7, xc BK258 8, xc BK258 9, xc BK238 0, xc BK238 1⟩ (fun hHeld => ?_); refine with_tabW gamehalllaw3_ClockRuns.tab34 gamehalllaw3_ClockRuns.bits34 (fun HT_ HW_ => ?_)
                                generalize w503.drew = w504 at BK217 BK235 BK237 BK238 BK258 HB hHeld ⊢; refine pu_ 0 238 HT_ ?_; refine pu_ 1 239 HT_ ?_; refine pu_ 2 240 HT_ ?_; refine pu_ 4 242 HT_ ?_; refine pu_ 5 243 HT_ ?_; refine pu_ 6 244 HT_ ?_; refine tk_ 3 241 HT_ HW_ hHeld ?_; refine tk_ 7 245 HT_ HW_ hHeld ?_; refine pu_ 8 246 HT_ ?_; refine pu_ 9 247 HT_ ?_; refine pu_ 10 248 HT_ ?_; refine pn_ 11 249 HT_ ?_; refine pn_ 12 250 HT_ ?_; refine pn_ 13 251 HT_ ?_; refine pn_ 14 252 HT_ ?_; refine pn_ 15 253 HT_ ?_; refine pu_ 16 254 HT_ ?_; refine pu_ 17 255 HT_ ?_; refine pn_ 18 256 HT_ ?_; refine pn_ 19 257 HT_ ?_; refine pn_ 20 258 HT_ ?_; refine pn_ 21 259 HT_ ?_; refine pu_ 22 260 HT_ ?_; refine pu_ 23 261 HT_ ?_; refine pn_ 24 262 HT_ ?_; refine pn_ 25 263 HT_ ?_; refine pn_ 26 264 HT_ ?_; refine pu_ 27 265 HT_ ?_
                                refine done_ (done_of HT_.out kr_) ?_
                                try go_wp2
                                go_ret
                                exact ⟨by first | rfl | (simp [errW_none, errW_some] <;> rfl) | (simp only [← hji7, ← hji389]; first | rfl | (simp [errW_none, errW_some] <;> rfl)) | (simp [*, errW_none, errW_some] <;> rfl), xW HB⟩⟩
                               exact inferInstanceAs _⟩
                              exact inferInstanceAs _
                             ·rw [if_neg c391] at H
                              exact absurd H (by simp)⟩
                             exact inferInstanceAs _
                            ·rw [if_neg c390] at H
                             exact absurd H (by simp)⟩
                          exact inferInstanceAs _⟩
                       exact inferInstanceAs _⟩
                      exact inferInstanceAs _⟩
                    exact inferInstanceAs _⟩
                 exact inferInstanceAs _⟩
                exact inferInstanceAs _
               ·rw [if_neg c44] at H
                exact absurd H (by simp)⟩
               exact inferInstanceAs _
              ·rw [if_neg c43] at H
               exact absurd H (by simp)⟩
              exact inferInstanceAs _
             ·rw [if_neg c42] at H
              have c42b0 : decide (x74_3 < (y219.length : Int)) = false := decide_eq_false c42
              clear c42; replace H := Option.bind_eq_some_iff.mp H
              obtain ⟨t239, A5050, H⟩ := H
              replace H : (some t239) = some r := H
              have A505 := Aside0.mk A5050; clear A5050
              obtain rfl := Option.some.inj H
              have hcz509_0 := blkc3 BK217.out; have hcz512_0 := blkc10 BK235.out
              go_wp2_with (first | ((with_reducible refine gate_callee (f := 14) rfl ?_); refine goesL_ (some 271) rfl rfl Try.func14 kr_ rfl #[.agg #[.slice A0_0 l0_0.length c0_0, .int .i64 a0_1, .int .i64 a0_2], .agg #[.int .i64 z236a3, .int .i64 z236b3, .int .i64 z236c3, .int .i64 z236d3, .int .i64 z236e3, .int .i64 z236f3, .int .i64 z236g3, .int .i64 z236h3, .bool z236i3, .int .i64 z236j3], .int .i64 a3] rfl (by (try simp only [List.map_toArray, List.map_cons, List.map_nil]); first | done | rfl | (simp only [List.length_drop, List.length_take]; rfl)) ?_; (with_reducible refine (gamehalllaw3_fell.calls k3 _ _ l0_0 a0_1 a0_2 z236a3 z236b3 z236c3 z236d3 z236e3 z236f3 z236g3 z236h3 z236i3 z236j3 a3 t239 _ ?side1 ?side2 A505.out).mono ?_); (case side1 => exact xC (Kd.C_below HR0_0.out HB.out)); (case side2 => exact HC0_0.out); rintro e w513 ⟨rfl, hb⟩; refine ⟨_, rfl, ?_⟩; replace BK217 := Aside0.mk (xB BK217 hb); replace BK235 := Aside0.mk (xB BK235 hb); replace BK237 := Aside0.mk (xB BK237 hb); replace BK238 := Aside0.mk (xB BK238 hb); replace HB := Aside0.mk (xS HB hb); (try clear hb); (try clear hb2); (try clear hk); (try clear hi)))
              go_ret
              exact ⟨by first | rfl | (simp [errW_none, errW_some] <;> rfl) | (simp only [← hji7]; first | rfl | (simp [errW_none, errW_some] <;> rfl)) | (simp [*, errW_none, errW_some] <;> rfl), xW HB⟩⟩
           exact inferInstanceAs _
          ·rw [if_neg c32] at H
           have c32b0 : (t234 == 0) = false := beq_eq_false_iff_ne.mpr c32
           have c32b1 : (t234 != 0) = true := bne_iff_ne.mpr c32; clear c32
           obtain rfl := Option.some.inj H
           go_wp2
           go_ret
           exact ⟨by first | rfl | (simp [errW_none, errW_some] <;> rfl) | (simp only [← hji7]; first | rfl | (simp [errW_none, errW_some] <;> rfl)) | (simp [*, errW_none, errW_some] <;> rfl), xW HB⟩⟩
          exact inferInstanceAs _
         ·rw [if_neg c31] at H
          have c31b0 : (x9_28 == 0) = false := beq_eq_false_iff_ne.mpr c31
          have c31b1 : (x9_28 != 0) = true := bne_iff_ne.mpr c31; clear c31
          by_cases c514 : t234 = x9_28
          ·rw [if_pos c514] at H
           have c514b0 : (t234 == x9_28) = true := beq_iff_eq.mpr c514
           have c514b1 : (t234 != x9_28) = false := bne_eq_false_iff_eq.mpr c514
           clear c514
           obtain rfl := Option.some.inj H
           have hcz516_0 := blkc10 BK235.out
           go_wp2
           go_ret
           exact ⟨by first | rfl | (simp [errW_none, errW_some] <;> rfl) | (simp only [← hji7]; first | rfl | (simp [errW_none, errW_some] <;> rfl)) | (simp [*, errW_none, errW_some] <;> rfl), xW HB⟩
          ·rw [if_neg c514] at H
           have c514b0 : (t234 == x9_28) = false := beq_eq_false_iff_ne.mpr c514
           have c514b1 : (t234 != x9_28) = true := bne_iff_ne.mpr c514; clear c514
           obtain rfl := Option.some.inj H
           go_wp2
           go_ret
           exact ⟨by first | rfl | (simp [errW_none, errW_some] <;> rfl) | (simp only [← hji7]; first | rfl | (simp [errW_none, errW_some] <;> rfl)) | (simp [*, errW_none, errW_some] <;> rfl), xW HB⟩⟩
        exact inferInstanceAs _⟩
      exact inferInstanceAs _⟩
     exact inferInstanceAs _
    ·rw [if_neg c13] at H
     have c13b0 : (t236 == t223) = false := beq_eq_false_iff_ne.mpr c13
     have c13b1 : (t236 != t223) = true := bne_iff_ne.mpr c13; clear c13
     obtain rfl := Option.some.inj H
     go_enter Try.func3, Try.ntmps3
     go_wp2_with (first | ((with_reducible refine gate_dst (N := 4) rfl ?_); refine box_event ?hg (N := 4) ?hd (cs := #[.slice A0_0 l0_0.length c0_0, .int .i64 a0_1, .int .i64 a0_2]) (t := 24) ?hr ?_; (case hd => rfl); (case hg => rfl); (case hr => first | (go_simp; done) | (go_simp; rfl)); intro gb217 hg w517 hbox hb; have BK217 := Aside0.mk (hbox); have GW217 := Aside0.mk (xZ HB hg); have GE217 := Aside0.mk (xZ HB hg); replace HB := Aside0.mk (xS HB hb); clear hb hbox hg) | ((with_reducible refine gate_callee (f := 5) rfl ?_); refine goesL_ (some 28) rfl rfl Try.func5 kr_ rfl #[] rfl (by (try simp only [List.map_toArray, List.map_cons, List.map_nil]); first | done | rfl | (simp only [List.length_drop, List.length_take]; rfl)) ?_; (with_reducible refine (gamehalllaw3_ticks.calls k  true _ A5.out).mono ?_); rintro e w518 ⟨rfl, hb⟩; refine ⟨_, rfl, ?_⟩; replace BK217 := Aside0.mk (xB BK217 hb); replace HB := Aside0.mk (xS HB hb); (try clear hb); (try clear hb2); (try clear hk); (try clear hi); have q519 : ((ji7) : Int) ≤ ((l2.length : Int) : Int) := of_decide_eq_true (by first | (with_reducible assumption) | assumption); obtain ⟨i0519, hi0519, _, hsz519, _⟩ := info_parts info3; have hroom519 : l2.length ≤ c2 := HC2.out; have hC519 : Kd.C (Kd.int .i64) _ A2 l2.length l2 := HR2.out; have hcut519 := cut_to (P := Try.prog) 25 3 .i64 Try.underlying25 hi0519 A2 l2.length c2 (ji7) (of_decide_eq_true (by first | (with_reducible assumption) | assumption)) q519 hroom519; have hr519 := Kd.C_take (m := ((ji7) : Int).toNat) hC519 (by omega); have hy519 : y219.length = ((ji7) : Int).toNat := (by rw [Ny219.out, List.length_take]; omega); rw [← Ny219.out] at hr519; rw [← hy519] at hcut519; have HR222 := Aside0.mk hr519; have HC222 := Aside0.mk (show y219.length ≤ c2 from by omega); clear hr519 hC519 hroom519 hi0519 hsz519; have KY519 := Aside0.mk hy519; clear hy519; replace q519 := eq_true q519; have hcz520_0 := blkc3 BK217.out) | ((with_reducible refine gate_callee (f := 6) rfl ?_); refine goesL_ (some 36) rfl rfl Try.func6 kr_ rfl #[.agg #[.slice A0_0 l0_0.length c0_0, .int .i64 a0_1, .int .i64 a0_2]] rfl (by (try simp only [List.map_toArray, List.map_cons, List.map_nil]); first | done | rfl | (simp only [List.length_drop, List.length_take]; rfl)) ?_; (with_reducible refine (gamehallref3_Ruled.calls k _ _ l0_0 a0_1 a0_2 t223 _ ?side1 ?side2 A10.out).mono ?_); (case side1 => exact xC (Kd.C_below HR0_0.out HB.out)); (case side2 => exact HC0_0.out); rintro e w521 ⟨rfl, hb⟩; refine ⟨_, rfl, ?_⟩; replace BK217 := Aside0.mk (xB BK217 hb); replace HB := Aside0.mk (xS HB hb); (try clear hb); (try clear hb2); (try clear hk); (try clear hi); have hcz522_0 := blkc3 BK217.out) | ((with_reducible refine gate_callee (f := 7) rfl ?_); refine goesL_ (some 40) rfl rfl Try.func7 kr_ rfl #[.agg #[.slice A0_0 l0_0.length c0_0, .int .i64 a0_1, .int .i64 a0_2], .int .i64 a1] rfl (by (try simp only [List.map_toArray, List.map_cons, List.map_nil]); first | done | rfl | (simp only [List.length_drop, List.length_take]; rfl)) ?_; (with_reducible refine (clock_Start.calls k _ _ l0_0 a0_1 a0_2 a1 t224 t225 t226 t227 t228 t229 t230 t231 t232 t233 t234 _ ?side1 ?side2 A11.out).mono ?_); (case side1 => exact xC (Kd.C_below HR0_0.out HB.out)); (case side2 => exact HC0_0.out); rintro e w523 ⟨rfl, hb⟩; refine ⟨_, rfl, ?_⟩; replace BK217 := Aside0.mk (xB BK217 hb); replace HB := Aside0.mk (xS HB hb); (try clear hb); (try clear hb2); (try clear hk); (try clear hi)) | ((with_reducible refine gate_dst (N := 10) rfl ?_); refine box_event ?hg (N := 10) ?hd (cs := #[.int .i64 0, .int .i64 0, .int .i64 0, .int .i64 0, .int .i64 0, .int .i64 0, .int .i64 0, .int .i64 0, .bool false, .int .i64 0]) (t := 31) ?hr ?_; (case hd => rfl); (case hg => rfl); (case hr => first | (go_simp; done) | (go_simp; rfl)); intro gb235 hg w524 hbox hb; have BK235 := Aside0.mk (hbox); have GW235 := Aside0.mk (xZ HB hg); have GE235 := Aside0.mk (xZ HB hg); have NB217_235 := Aside0.mk (xN BK217 hg); have NB235_217 := Aside0.mk (xM BK217 hg); replace BK217 := Aside0.mk (xB BK217 hb); replace HB := Aside0.mk (xS HB hb); clear hb hbox hg; have hnb525 := xne7 NB235_217; have hnc525 := xne7 NB217_235; have hcz526_0 := blkc10 BK235.out; have hcz527_0 := blkc3 BK217.out) | ((with_reducible refine gate_callee (f := 8) rfl ?_); refine goesL_ (some 44) rfl rfl Try.func8 kr_ rfl #[.agg #[.slice A0_0 l0_0.length c0_0, .int .i64 a0_1, .int .i64 a0_2]] rfl (by (try simp only [List.map_toArray, List.map_cons, List.map_nil]); first | done | rfl | (simp only [List.length_drop, List.length_take]; rfl)) ?_; (with_reducible refine (clock_Check.calls k _ _ l0_0 a0_1 a0_2 t236 _ ?side1 ?side2 A12.out).mono ?_); (case side1 => exact Kd.C_below HR0_0.out (xW HB)); (case side2 => exact HC0_0.out); rintro e w528 ⟨rfl, hb⟩; refine ⟨_, rfl, ?_⟩; replace BK217 := Aside0.mk (xB BK217 hb); replace BK235 := Aside0.mk (xP (l' := [.int .i64 t224, .int .i64 t225, .int .i64 t226, .int .i64 t227, .int .i64 t228, .int .i64 t229, .int .i64 t230, .int .i64 t231, .bool t232, .int .i64 t233]) BK235 hb); replace HB := Aside0.mk (xS HB hb); (try clear hb); (try clear hb2); (try clear hk); (try clear hi)))
     go_ret
     exact ⟨by first | rfl | (simp [errW_none, errW_some] <;> rfl) | (simp only [← hji7]; first | rfl | (simp [errW_none, errW_some] <;> rfl)) | (simp [*, errW_none, errW_some] <;> rfl), xW HB⟩⟩
    exact inferInstanceAs _
   ·rw [if_neg c9] at H
    exact absurd H (by simp)⟩
   exact inferInstanceAs _
  ·rw [if_neg c8] at H
   exact absurd H (by simp)
 ·replace c6 := Bool.eq_false_iff.mpr c6
  subst c6
  rw [if_neg (show ¬ (false = true) by decide)] at H
  obtain rfl := Option.some.inj H
  go_enter Try.func3, Try.ntmps3
  go_wp2_with (first | ((with_reducible refine gate_dst (N := 4) rfl ?_); refine box_event ?hg (N := 4) ?hd (cs := #[.slice A0_0 l0_0.length c0_0, .int .i64 a0_1, .int .i64 a0_2]) (t := 24) ?hr ?_; (case hd => rfl); (case hg => rfl); (case hr => first | (go_simp; done) | (go_simp; rfl)); intro gb217 hg w529 hbox hb; have BK217 := Aside0.mk (hbox); have GW217 := Aside0.mk (xZ HB hg); have GE217 := Aside0.mk (xZ HB hg); replace HB := Aside0.mk (xS HB hb); clear hb hbox hg) | ((with_reducible refine gate_callee (f := 5) rfl ?_); refine goesL_ (some 28) rfl rfl Try.func5 kr_ rfl #[] rfl (by (try simp only [List.map_toArray, List.map_cons, List.map_nil]); first | done | rfl | (simp only [List.length_drop, List.length_take]; rfl)) ?_; (with_reducible refine (gamehalllaw3_ticks.calls k  false _ A5.out).mono ?_); rintro e w530 ⟨rfl, hb⟩; refine ⟨_, rfl, ?_⟩; replace BK217 := Aside0.mk (xB BK217 hb); replace HB := Aside0.mk (xS HB hb); (try clear hb); (try clear hb2); (try clear hk); (try clear hi)))
  go_ret
  exact ⟨xer, xW HB⟩
def wf54 (x : S54) : Prop := ((Lit.int .i64 x.f0).wf = true) ∧ (((Lit.int .i64 x.f1).wf = true))
theorem tells54 {W : World} : Tells Try.prog W 54 k54 wf54 := tells_iso (fun a => ⟨a.1, a.2⟩) (fun _ => rfl) (fun _ h => h) (tells_struct (l := [(3, 0), (3, 1)]) Try.underlying54 kr_ (tellsFs_cons (tells_int Try.underlying3) kr_ (tellsFs_one (tells_int Try.underlying3) kr_)) kr_)
def wf24 (x : S24) : Prop := (x.f0.length * 16 ≤ 140737488351232 ∧ ∀ y_ ∈ x.f0, wf54 y_) ∧ (((Lit.int .i64 x.f1).wf = true) ∧ (((Lit.int .i64 x.f2).wf = true)))
theorem tells24 {W : World} : Tells Try.prog W 24 k24 wf24 := tells_iso (fun a => ⟨a.1, a.2.1, a.2.2⟩) (fun _ => rfl) (fun _ h => h) (tells_struct (l := [(22, 0), (3, 1), (3, 2)]) Try.underlying24 kr_ (tellsFs_cons (tells_slice (W := W) Try.underlying22 tells54 kr_ kr_) kr_ (tellsFs_cons (tells_int Try.underlying3) kr_ (tellsFs_one (tells_int Try.underlying3) kr_))) kr_)

/-- THE ONE PURE STATEMENT of gamehalllaw3_ClockRuns: yours. -/
def gamehalllaw3_ClockRuns.Pure : Prop := ∀ (x0 : S24) (a1 : Int) (l2 : List Int) (a3 : Int), (wf24 x0) → ((Lit.int .i64 a1).wf = true) → (l2.length * 8 ≤ 140737488351232 ∧ ∀ y_ ∈ l2, (Lit.int .i64 y_).wf = true) → ((Lit.int .i64 a3).wf = true) → ∃ k, gamehalllaw3_ClockRuns.f k x0.f0 x0.f1 x0.f2 a1 l2 a3 = some true
theorem gamehalllaw3_ClockRuns.walk (P : gamehalllaw3_ClockRuns.Pure) (x0 : S24) (v0 : Array Value) (a1 : Int) (l2 : List Int) (A2 : Option Addr) (c2 : Nat) (a3 : Int) (w : World) (hK0 : k24.K w x0 v0.toList) (w0 : wf24 x0) (w1 : (Lit.int .i64 a1).wf = true) (hr2 : Kd.C (Kd.int .i64) w A2 l2.length l2) (hc2 : l2.length ≤ c2) (w2 : l2.length * 8 ≤ 140737488351232 ∧ ∀ y_ ∈ l2, (Lit.int .i64 y_).wf = true) (w3 : (Lit.int .i64 a3).wf = true) :
  Calls Try.prog 3 #[.agg v0, .int .i64 a1, .slice A2 l2.length c2, .int .i64 a3] w fun e w' => e = .returned (.bool true) ∧ Below w.heap.size w w' := by
 obtain ⟨A0_0, c0_0, hcs0, hl0_0, hg0_0⟩ := k24_open hK0
 obtain rfl : v0 = #[.slice A0_0 x0.f0.length c0_0, .int .i64 x0.f1, .int .i64 x0.f2] := Array.ext' hcs0
 obtain ⟨k, h⟩ := P x0 a1 l2 a3 w0 w1 w2 w3
 refine (gamehalllaw3_ClockRuns.calls k A0_0 c0_0 x0.f0 x0.f1 x0.f2 a1 A2 c2 l2 a3 true w hg0_0 hl0_0 hr2 hc2 h).mono ?_
 rintro e w' ⟨rfl, hd⟩
 exact ⟨rfl, hd⟩

end Go.Proofs.Ytikijopbgjncbaa.PClockRuns
