-- Printed by a program of this claim's writer (wip/ext): an extension of the kit's print.
import Derived.Test.YtemfkhafkhkffaaPPatternCutsx0
import Derived.Test.YtemfkhafkhkffaaPPatternCutsx4
import Derived.Test.YtemfkhafkhkffaaPPatternCutsx6
import Derived.Test.YtemfkhafkhkffaaPPatternCutsx7
namespace Go.Proofs.Ytemfkhafkhkffaa.PPatternCuts
open Go.RowKit Go.Proofs.YtemfkhafkhkffaaW.PrintWords Go.Proofs.YtemfkhafkhkffaaW.PrintLast Go.Proofs.YtemfkhafkhkffaaW.PrintMore
attribute [local go_sem] max2_int min2_int max_two min_two max_three min_three max_four min_four   -- for this text's walks alone
set_option linter.unusedVariables false
set_option linter.unusedSimpArgs false
theorem xne8 {a b : Nat} (h : Aside0 (a ≠ b)) : (a = b) = False := eq_false h.out

/-! ### gamehalllaw3_PatternCuts: function 4 -/
mutual
def gamehalllaw3_PatternCuts.j1 : Nat → Int → Int → Int → Int → ByteArray → Int → Int → List (S101) → List Int → Bool → Bool → List (S103) → Int → Int → Int → List Int → List Int → List Int → Int → Int → Int → Int → List Int → Int → Option (Bool)
  | 0, _, _, _, _, _, _, _, _, _, _, _, _, _, _, _, _, _, _, _, _, _, _, _, _ => none
  | k + 1, x3, x4, x5, x14, z264a, z264b, z264c, z264d, z264e, z264f, z264g, z264h, z264i, z264j, z264k, z265a, z265b, z265c, z265d, z265e, z276a, z276b, z276c, z276d => (place_Check.f k z264a z264b z264c z264d z264e z264f z264g z264h z264i z264j z264k z265a z265b z265c z265d z265e).bind fun t287 => (if t287 = 0 then (if x3 < 0 then (gamehalllaw3_PatternCuts.j2 k x3 x4 x5 x14 true z264a z264b z264c z264d z264e z264f z264g z264h z264i z264j z264k z265a z265b z265c z265d z265e z276a z276b z276c z276d) else (if x3 ≥ (z265a.length : Int) then (gamehalllaw3_PatternCuts.j2 k x3 x4 x5 x14 true z264a z264b z264c z264d z264e z264f z264g z264h z264i z264j z264k z265a z265b z265c z265d z265e z276a z276b z276c z276d) else (if x4 < 1 then (gamehalllaw3_PatternCuts.j2 k x3 x4 x5 x14 true z264a z264b z264c z264d z264e z264f z264g z264h z264i z264j z264k z265a z265b z265c z265d z265e z276a z276b z276c z276d) else (if x5 < 1 then (gamehalllaw3_PatternCuts.j2 k x3 x4 x5 x14 true z264a z264b z264c z264d z264e z264f z264g z264h z264i z264j z264k z265a z265b z265c z265d z265e z276a z276b z276c z276d) else (if z264b = 0 then (none) else (if x4 > (wrap64 (z264b - (Int.tmod x3 z264b))) then (gamehalllaw3_PatternCuts.j2 k x3 x4 x5 x14 true z264a z264b z264c z264d z264e z264f z264g z264h z264i z264j z264k z265a z265b z265c z265d z265e z276a z276b z276c z276d) else (gamehalllaw3_PatternCuts.j2 k x3 x4 x5 x14 (decide (x5 > (wrap64 (z264c - (wrap64 (Int.tdiv x3 z264b)))))) z264a z264b z264c z264d z264e z264f z264g z264h z264i z264j z264k z265a z265b z265c z265d z265e z276a z276b z276c z276d))))))) else (if x14 = t287 then (some ((z276c.length : Int) == 0)) else (some false)))
def gamehalllaw3_PatternCuts.j2 : Nat → Int → Int → Int → Int → Bool → ByteArray → Int → Int → List (S101) → List Int → Bool → Bool → List (S103) → Int → Int → Int → List Int → List Int → List Int → Int → Int → Int → Int → List Int → Int → Option (Bool)
  | 0, _, _, _, _, _, _, _, _, _, _, _, _, _, _, _, _, _, _, _, _, _, _, _, _, _ => none
  | k + 1, x3, x4, x5, x14, x178, z264a, z264b, z264c, z264d, z264e, z264f, z264g, z264h, z264i, z264j, z264k, z265a, z265b, z265c, z265d, z265e, z276a, z276b, z276c, z276d => if x178 = true then (if x14 = 4 then (some ((z276c.length : Int) == 0)) else (some false)) else (if x14 = 0 then (if z276a = x4 then (if z276b = x5 then (if z276d = z265d then (gamehalllaw3_PatternCuts.j3 k x3 x4 x5 ((z276c.length : Int) != (wrap64 (x4 * x5))) z264a z264b z264c z264d z264e z264f z264g z264h z264i z264j z264k z265a z265b z265c z265d z265e z276a z276b z276c z276d) else (gamehalllaw3_PatternCuts.j3 k x3 x4 x5 true z264a z264b z264c z264d z264e z264f z264g z264h z264i z264j z264k z265a z265b z265c z265d z265e z276a z276b z276c z276d)) else (gamehalllaw3_PatternCuts.j3 k x3 x4 x5 true z264a z264b z264c z264d z264e z264f z264g z264h z264i z264j z264k z265a z265b z265c z265d z265e z276a z276b z276c z276d)) else (gamehalllaw3_PatternCuts.j3 k x3 x4 x5 true z264a z264b z264c z264d z264e z264f z264g z264h z264i z264j z264k z265a z265b z265c z265d z265e z276a z276b z276c z276d)) else (gamehalllaw3_PatternCuts.j3 k x3 x4 x5 true z264a z264b z264c z264d z264e z264f z264g z264h z264i z264j z264k z265a z265b z265c z265d z265e z276a z276b z276c z276d))
def gamehalllaw3_PatternCuts.j3 : Nat → Int → Int → Int → Bool → ByteArray → Int → Int → List (S101) → List Int → Bool → Bool → List (S103) → Int → Int → Int → List Int → List Int → List Int → Int → Int → Int → Int → List Int → Int → Option (Bool)
  | 0, _, _, _, _, _, _, _, _, _, _, _, _, _, _, _, _, _, _, _, _, _, _, _, _ => none
  | k + 1, x3, x4, x5, x216, z264a, z264b, z264c, z264d, z264e, z264f, z264g, z264h, z264i, z264j, z264k, z265a, z265b, z265c, z265d, z265e, z276a, z276b, z276c, z276d => if x216 = true then (some false) else (gamehalllaw3_PatternCuts.l1 k x3 x4 x5 x4 0 z264a z264b z264c z264d z264e z264f z264g z264h z264i z264j z264k z265a z265b z265c z265d z265e z276a z276b z276c z276d)
def gamehalllaw3_PatternCuts.l1 : Nat → Int → Int → Int → Int → Int → ByteArray → Int → Int → List (S101) → List Int → Bool → Bool → List (S103) → Int → Int → Int → List Int → List Int → List Int → Int → Int → Int → Int → List Int → Int → Option (Bool)
  | 0, _, _, _, _, _, _, _, _, _, _, _, _, _, _, _, _, _, _, _, _, _, _, _, _, _ => none
  | k + 1, x3, x4, x5, x217, x218, z264a, z264b, z264c, z264d, z264e, z264f, z264g, z264h, z264i, z264j, z264k, z265a, z265b, z265c, z265d, z265e, z276a, z276b, z276c, z276d => if x218 < x217 then (gamehalllaw3_PatternCuts.l2 k x3 x4 x5 x218 x217 x218 x5 0 z264a z264b z264c z264d z264e z264f z264g z264h z264i z264j z264k z265a z265b z265c z265d z265e z276a z276b z276c z276d) else (some true)
def gamehalllaw3_PatternCuts.l2 : Nat → Int → Int → Int → Int → Int → Int → Int → Int → ByteArray → Int → Int → List (S101) → List Int → Bool → Bool → List (S103) → Int → Int → Int → List Int → List Int → List Int → Int → Int → Int → Int → List Int → Int → Option (Bool)
  | 0, _, _, _, _, _, _, _, _, _, _, _, _, _, _, _, _, _, _, _, _, _, _, _, _, _, _, _, _ => none
  | k + 1, x3, x4, x5, x22, x217, x218, x221, x222, z264a, z264b, z264c, z264d, z264e, z264f, z264g, z264h, z264i, z264j, z264k, z265a, z265b, z265c, z265d, z265e, z276a, z276b, z276c, z276d => if x222 < x221 then (if 0 ≤ (wrap64 ((wrap64 (x222 * x4)) + x22)) then (if (wrap64 ((wrap64 (x222 * x4)) + x22)) < (z276c.length : Int) then (if 0 ≤ (wrap64 ((wrap64 (x3 + (wrap64 (x222 * z264b)))) + x22)) then (if (wrap64 ((wrap64 (x3 + (wrap64 (x222 * z264b)))) + x22)) < (z265a.length : Int) then (if (rd z276c (wrap64 ((wrap64 (x222 * x4)) + x22))) = (rd z265a (wrap64 ((wrap64 (x3 + (wrap64 (x222 * z264b)))) + x22))) then (gamehalllaw3_PatternCuts.l2 k x3 x4 x5 x22 x217 x218 x221 (wrap64 (x222 + 1)) z264a z264b z264c z264d z264e z264f z264g z264h z264i z264j z264k z265a z265b z265c z265d z265e z276a z276b z276c z276d) else (some false)) else (none)) else (none)) else (none)) else (none)) else (gamehalllaw3_PatternCuts.l1 k x3 x4 x5 x217 (wrap64 (x218 + 1)) z264a z264b z264c z264d z264e z264f z264g z264h z264i z264j z264k z265a z265b z265c z265d z265e z276a z276b z276c z276d)
def gamehalllaw3_PatternCuts.l0 : Nat → Int → Int → Int → Int → Int → Int → Int → ByteArray → Int → Int → List (S101) → List Int → Bool → Bool → List (S103) → Int → Int → Int → List Int → List Int → List Int → Int → Int → Int → Int → List Int → Int → Int → Int → List Int → Int → Int → Int → List Int → Int → Option (Bool)
  | 0, _, _, _, _, _, _, _, _, _, _, _, _, _, _, _, _, _, _, _, _, _, _, _, _, _, _, _, _, _, _, _, _, _, _, _ => none
  | k + 1, x3, x4, x5, x14, x16, x59, x60, z264a, z264b, z264c, z264d, z264e, z264f, z264g, z264h, z264i, z264j, z264k, z265a, z265b, z265c, z265d, z265e, z266a, z266b, z266c, z266d, z276a, z276b, z276c, z276d, z284a, z284b, z284c, z284d => if x60 < x59 then (if z266a = 0 then (none) else (if x16 = 0 then (if (z284c.length : Int) = (z266c.length : Int) then (if 0 ≤ (wrap64 ((wrap64 ((wrap64 ((wrap64 ((wrap64 (Int.tdiv x60 z266a)) * z266a)) + z266a)) - 1)) - (Int.tmod x60 z266a))) then (if (wrap64 ((wrap64 ((wrap64 ((wrap64 ((wrap64 (Int.tdiv x60 z266a)) * z266a)) + z266a)) - 1)) - (Int.tmod x60 z266a))) < (z284c.length : Int) then (if 0 ≤ x60 then (if x60 < (z266c.length : Int) then (if (rd z284c (wrap64 ((wrap64 ((wrap64 ((wrap64 ((wrap64 (Int.tdiv x60 z266a)) * z266a)) + z266a)) - 1)) - (Int.tmod x60 z266a)))) = (rd z266c x60) then (if z284d = z266d then (if z284a = z266a then (if z284b = z266b then (gamehalllaw3_PatternCuts.l0 k x3 x4 x5 x14 x16 x59 (wrap64 (x60 + 1)) z264a z264b z264c z264d z264e z264f z264g z264h z264i z264j z264k z265a z265b z265c z265d z265e z266a z266b z266c z266d z276a z276b z276c z276d z284a z284b z284c z284d) else (some false)) else (some false)) else (some false)) else (some false)) else (none)) else (none)) else (none)) else (none)) else (some false)) else (some false))) else (gamehalllaw3_PatternCuts.j1 k x3 x4 x5 x14 z264a z264b z264c z264d z264e z264f z264g z264h z264i z264j z264k z265a z265b z265c z265d z265e z276a z276b z276c z276d)
end
def gamehalllaw3_PatternCuts.f (k : Nat) (a0_0 : ByteArray) (a0_1 : Int) (a0_2 : Int) (l0_3 : List (S101)) (l0_4 : List Int) (a0_5 : Bool) (a0_6 : Bool) (l0_7 : List (S103)) (a0_8 : Int) (a0_9 : Int) (a0_10 : Int) (l1_0 : List Int) (l1_1 : List Int) (l1_2 : List Int) (a1_3 : Int) (a1_4 : Int) (a2_0 : Int) (a2_1 : Int) (l2_2 : List Int) (a2_3 : Int) (a3 : Int) (a4 : Int) (a5 : Int) : Option (Bool) := (gamehalllaw3_patterns.f k).bind fun t266 => (if t266 = true then ((gamehalllaw3_great.f a0_0 a0_1 a0_2 l0_3 l0_4 a0_5 a0_6 l0_7 a0_8 a0_9 a0_10).bind fun t267 => (if t267 = true then (some true) else ((pattern_Cut.f k a0_0 a0_1 a0_2 l0_3 l0_4 a0_5 a0_6 l0_7 a0_8 a0_9 a0_10 l1_0 l1_1 l1_2 a1_3 a1_4 a3 a4 a5).bind fun bt268 => ((pattern_Mirror.f k a0_0 a0_1 a0_2 l0_3 l0_4 a0_5 a0_6 l0_7 a0_8 a0_9 a0_10 a2_0 a2_1 l2_2 a2_3).bind fun bt276 => ((gamehalllaw3_patternFault.f k a0_0 a0_1 a0_2 l0_3 l0_4 a0_5 a0_6 l0_7 a0_8 a0_9 a0_10 a2_0 a2_1 l2_2 a2_3).bind fun t284 => (if t284 = 0 then (gamehalllaw3_PatternCuts.l0 k a3 a4 a5 bt268.2.2.2.2 bt276.2.2.2.2 (l2_2.length : Int) 0 a0_0 a0_1 a0_2 l0_3 l0_4 a0_5 a0_6 l0_7 a0_8 a0_9 a0_10 l1_0 l1_1 l1_2 a1_3 a1_4 a2_0 a2_1 l2_2 a2_3 bt268.1 bt268.2.1 bt268.2.2.1 bt268.2.2.2.1 bt276.1 bt276.2.1 bt276.2.2.1 bt276.2.2.2.1) else (if bt276.2.2.2.2 = t284 then (if (bt276.2.2.1.length : Int) > 0 then (some false) else (gamehalllaw3_PatternCuts.j1 k a3 a4 a5 bt268.2.2.2.2 a0_0 a0_1 a0_2 l0_3 l0_4 a0_5 a0_6 l0_7 a0_8 a0_9 a0_10 l1_0 l1_1 l1_2 a1_3 a1_4 bt268.1 bt268.2.1 bt268.2.2.1 bt268.2.2.2.1)) else (some false)))))))) else (some false))
theorem gamehalllaw3_PatternCuts.mono_l : ∀ k, (∀ y0 y1 y2 y3 y4 y5 y6 y7 y8 y9 y10 y11 y12 y13 y14 y15 y16 y17 y18 y19 y20 y21 y22 y23, LeO (gamehalllaw3_PatternCuts.j1 k y0 y1 y2 y3 y4 y5 y6 y7 y8 y9 y10 y11 y12 y13 y14 y15 y16 y17 y18 y19 y20 y21 y22 y23) (gamehalllaw3_PatternCuts.j1 (k + 1) y0 y1 y2 y3 y4 y5 y6 y7 y8 y9 y10 y11 y12 y13 y14 y15 y16 y17 y18 y19 y20 y21 y22 y23)) ∧ (∀ y0 y1 y2 y3 y4 y5 y6 y7 y8 y9 y10 y11 y12 y13 y14 y15 y16 y17 y18 y19 y20 y21 y22 y23 y24, LeO (gamehalllaw3_PatternCuts.j2 k y0 y1 y2 y3 y4 y5 y6 y7 y8 y9 y10 y11 y12 y13 y14 y15 y16 y17 y18 y19 y20 y21 y22 y23 y24) (gamehalllaw3_PatternCuts.j2 (k + 1) y0 y1 y2 y3 y4 y5 y6 y7 y8 y9 y10 y11 y12 y13 y14 y15 y16 y17 y18 y19 y20 y21 y22 y23 y24)) ∧ (∀ y0 y1 y2 y3 y4 y5 y6 y7 y8 y9 y10 y11 y12 y13 y14 y15 y16 y17 y18 y19 y20 y21 y22 y23, LeO (gamehalllaw3_PatternCuts.j3 k y0 y1 y2 y3 y4 y5 y6 y7 y8 y9 y10 y11 y12 y13 y14 y15 y16 y17 y18 y19 y20 y21 y22 y23) (gamehalllaw3_PatternCuts.j3 (k + 1) y0 y1 y2 y3 y4 y5 y6 y7 y8 y9 y10 y11 y12 y13 y14 y15 y16 y17 y18 y19 y20 y21 y22 y23)) ∧ (∀ y0 y1 y2 y3 y4 y5 y6 y7 y8 y9 y10 y11 y12 y13 y14 y15 y16 y17 y18 y19 y20 y21 y22 y23 y24, LeO (gamehalllaw3_PatternCuts.l1 k y0 y1 y2 y3 y4 y5 y6 y7 y8 y9 y10 y11 y12 y13 y14 y15 y16 y17 y18 y19 y20 y21 y22 y23 y24) (gamehalllaw3_PatternCuts.l1 (k + 1) y0 y1 y2 y3 y4 y5 y6 y7 y8 y9 y10 y11 y12 y13 y14 y15 y16 y17 y18 y19 y20 y21 y22 y23 y24)) ∧ (∀ y0 y1 y2 y3 y4 y5 y6 y7 y8 y9 y10 y11 y12 y13 y14 y15 y16 y17 y18 y19 y20 y21 y22 y23 y24 y25 y26 y27, LeO (gamehalllaw3_PatternCuts.l2 k y0 y1 y2 y3 y4 y5 y6 y7 y8 y9 y10 y11 y12 y13 y14 y15 y16 y17 y18 y19 y20 y21 y22 y23 y24 y25 y26 y27) (gamehalllaw3_PatternCuts.l2 (k + 1) y0 y1 y2 y3 y4 y5 y6 y7 y8 y9 y10 y11 y12 y13 y14 y15 y16 y17 y18 y19 y20 y21 y22 y23 y24 y25 y26 y27)) ∧ (∀ y0 y1 y2 y3 y4 y5 y6 y7 y8 y9 y10 y11 y12 y13 y14 y15 y16 y17 y18 y19 y20 y21 y22 y23 y24 y25 y26 y27 y28 y29 y30 y31 y32 y33 y34, LeO (gamehalllaw3_PatternCuts.l0 k y0 y1 y2 y3 y4 y5 y6 y7 y8 y9 y10 y11 y12 y13 y14 y15 y16 y17 y18 y19 y20 y21 y22 y23 y24 y25 y26 y27 y28 y29 y30 y31 y32 y33 y34) (gamehalllaw3_PatternCuts.l0 (k + 1) y0 y1 y2 y3 y4 y5 y6 y7 y8 y9 y10 y11 y12 y13 y14 y15 y16 y17 y18 y19 y20 y21 y22 y23 y24 y25 y26 y27 y28 y29 y30 y31 y32 y33 y34))
  | 0 => ⟨fun _ _ _ _ _ _ _ _ _ _ _ _ _ _ _ _ _ _ _ _ _ _ _ _ r h => by simp [gamehalllaw3_PatternCuts.j1] at h, fun _ _ _ _ _ _ _ _ _ _ _ _ _ _ _ _ _ _ _ _ _ _ _ _ _ r h => by simp [gamehalllaw3_PatternCuts.j2] at h, fun _ _ _ _ _ _ _ _ _ _ _ _ _ _ _ _ _ _ _ _ _ _ _ _ r h => by simp [gamehalllaw3_PatternCuts.j3] at h, fun _ _ _ _ _ _ _ _ _ _ _ _ _ _ _ _ _ _ _ _ _ _ _ _ _ r h => by simp [gamehalllaw3_PatternCuts.l1] at h, fun _ _ _ _ _ _ _ _ _ _ _ _ _ _ _ _ _ _ _ _ _ _ _ _ _ _ _ _ r h => by simp [gamehalllaw3_PatternCuts.l2] at h, fun _ _ _ _ _ _ _ _ _ _ _ _ _ _ _ _ _ _ _ _ _ _ _ _ _ _ _ _ _ _ _ _ _ _ _ r h => by simp [gamehalllaw3_PatternCuts.l0] at h⟩
  | k + 1 => by
    obtain ⟨ih0, ih1, ih2, ih3, ih4, ih5⟩ := gamehalllaw3_PatternCuts.mono_l k
    refine ⟨?_, ?_, ?_, ?_, ?_, ?_⟩
    · intros
      unfold gamehalllaw3_PatternCuts.j1
      repeat' first
      | (with_reducible apply ih0)
      | (with_reducible apply ih1)
      | (with_reducible apply ih2)
      | (with_reducible apply ih3)
      | (with_reducible apply ih4)
      | (with_reducible apply ih5)
      | (with_reducible apply gamehalllaw3_patternFault.mono)
      | (with_reducible apply gamehalllaw3_patterns.mono)
      | (with_reducible apply pattern_Cut.mono)
      | (with_reducible apply pattern_Mirror.mono)
      | (with_reducible apply place_Check.mono)
      | (with_reducible exact LeO.refl _)
      | (with_reducible exact LeO.none _)
      | (with_reducible refine LeO.ite ?_ ?_)
      | (with_reducible refine LeO.bind ?_ (fun _ => ?_))
      | apply ih0
      | apply ih1
      | apply ih2
      | apply ih3
      | apply ih4
      | apply ih5
      | apply gamehalllaw3_patternFault.mono
      | apply gamehalllaw3_patterns.mono
      | apply pattern_Cut.mono
      | apply pattern_Mirror.mono
      | apply place_Check.mono
      | exact LeO.none _
      | refine LeO.ite ?_ ?_
      | refine LeO.bind ?_ (fun _ => ?_)
    · intros
      unfold gamehalllaw3_PatternCuts.j2
      repeat' first
      | (with_reducible apply ih0)
      | (with_reducible apply ih1)
      | (with_reducible apply ih2)
      | (with_reducible apply ih3)
      | (with_reducible apply ih4)
      | (with_reducible apply ih5)
      | (with_reducible apply gamehalllaw3_patternFault.mono)
      | (with_reducible apply gamehalllaw3_patterns.mono)
      | (with_reducible apply pattern_Cut.mono)
      | (with_reducible apply pattern_Mirror.mono)
      | (with_reducible apply place_Check.mono)
      | (with_reducible exact LeO.refl _)
      | (with_reducible exact LeO.none _)
      | (with_reducible refine LeO.ite ?_ ?_)
      | (with_reducible refine LeO.bind ?_ (fun _ => ?_))
      | apply ih0
      | apply ih1
      | apply ih2
      | apply ih3
      | apply ih4
      | apply ih5
      | apply gamehalllaw3_patternFault.mono
      | apply gamehalllaw3_patterns.mono
      | apply pattern_Cut.mono
      | apply pattern_Mirror.mono
      | apply place_Check.mono
      | exact LeO.none _
      | refine LeO.ite ?_ ?_
      | refine LeO.bind ?_ (fun _ => ?_)
    · intros
      unfold gamehalllaw3_PatternCuts.j3
      repeat' first
      | (with_reducible apply ih0)
      | (with_reducible apply ih1)
      | (with_reducible apply ih2)
      | (with_reducible apply ih3)
      | (with_reducible apply ih4)
      | (with_reducible apply ih5)
      | (with_reducible apply gamehalllaw3_patternFault.mono)
      | (with_reducible apply gamehalllaw3_patterns.mono)
      | (with_reducible apply pattern_Cut.mono)
      | (with_reducible apply pattern_Mirror.mono)
      | (with_reducible apply place_Check.mono)
      | (with_reducible exact LeO.refl _)
      | (with_reducible exact LeO.none _)
      | (with_reducible refine LeO.ite ?_ ?_)
      | (with_reducible refine LeO.bind ?_ (fun _ => ?_))
      | apply ih0
      | apply ih1
      | apply ih2
      | apply ih3
      | apply ih4
      | apply ih5
      | apply gamehalllaw3_patternFault.mono
      | apply gamehalllaw3_patterns.mono
      | apply pattern_Cut.mono
      | apply pattern_Mirror.mono
      | apply place_Check.mono
      | exact LeO.none _
      | refine LeO.ite ?_ ?_
      | refine LeO.bind ?_ (fun _ => ?_)
    · intros
      unfold gamehalllaw3_PatternCuts.l1
      repeat' first
      | (with_reducible apply ih0)
      | (with_reducible apply ih1)
      | (with_reducible apply ih2)
      | (with_reducible apply ih3)
      | (with_reducible apply ih4)
      | (with_reducible apply ih5)
      | (with_reducible apply gamehalllaw3_patternFault.mono)
      | (with_reducible apply gamehalllaw3_patterns.mono)
      | (with_reducible apply pattern_Cut.mono)
      | (with_reducible apply pattern_Mirror.mono)
      | (with_reducible apply place_Check.mono)
      | (with_reducible exact LeO.refl _)
      | (with_reducible exact LeO.none _)
      | (with_reducible refine LeO.ite ?_ ?_)
      | (with_reducible refine LeO.bind ?_ (fun _ => ?_))
      | apply ih0
      | apply ih1
      | apply ih2
      | apply ih3
      | apply ih4
      | apply ih5
      | apply gamehalllaw3_patternFault.mono
      | apply gamehalllaw3_patterns.mono
      | apply pattern_Cut.mono
      | apply pattern_Mirror.mono
      | apply place_Check.mono
      | exact LeO.none _
      | refine LeO.ite ?_ ?_
      | refine LeO.bind ?_ (fun _ => ?_)
    · intros
      unfold gamehalllaw3_PatternCuts.l2
      repeat' first
      | (with_reducible apply ih0)
      | (with_reducible apply ih1)
      | (with_reducible apply ih2)
      | (with_reducible apply ih3)
      | (with_reducible apply ih4)
      | (with_reducible apply ih5)
      | (with_reducible apply gamehalllaw3_patternFault.mono)
      | (with_reducible apply gamehalllaw3_patterns.mono)
      | (with_reducible apply pattern_Cut.mono)
      | (with_reducible apply pattern_Mirror.mono)
      | (with_reducible apply place_Check.mono)
      | (with_reducible exact LeO.refl _)
      | (with_reducible exact LeO.none _)
      | (with_reducible refine LeO.ite ?_ ?_)
      | (with_reducible refine LeO.bind ?_ (fun _ => ?_))
      | apply ih0
      | apply ih1
      | apply ih2
      | apply ih3
      | apply ih4
      | apply ih5
      | apply gamehalllaw3_patternFault.mono
      | apply gamehalllaw3_patterns.mono
      | apply pattern_Cut.mono
      | apply pattern_Mirror.mono
      | apply place_Check.mono
      | exact LeO.none _
      | refine LeO.ite ?_ ?_
      | refine LeO.bind ?_ (fun _ => ?_)
    · intros
      unfold gamehalllaw3_PatternCuts.l0
      repeat' first
      | (with_reducible apply ih0)
      | (with_reducible apply ih1)
      | (with_reducible apply ih2)
      | (with_reducible apply ih3)
      | (with_reducible apply ih4)
      | (with_reducible apply ih5)
      | (with_reducible apply gamehalllaw3_patternFault.mono)
      | (with_reducible apply gamehalllaw3_patterns.mono)
      | (with_reducible apply pattern_Cut.mono)
      | (with_reducible apply pattern_Mirror.mono)
      | (with_reducible apply place_Check.mono)
      | (with_reducible exact LeO.refl _)
      | (with_reducible exact LeO.none _)
      | (with_reducible refine LeO.ite ?_ ?_)
      | (with_reducible refine LeO.bind ?_ (fun _ => ?_))
      | apply ih0
      | apply ih1
      | apply ih2
      | apply ih3
      | apply ih4
      | apply ih5
      | apply gamehalllaw3_patternFault.mono
      | apply gamehalllaw3_patterns.mono
      | apply pattern_Cut.mono
      | apply pattern_Mirror.mono
      | apply place_Check.mono
      | exact LeO.none _
      | refine LeO.ite ?_ ?_
      | refine LeO.bind ?_ (fun _ => ?_)
theorem gamehalllaw3_PatternCuts.mono : ∀ a0 a1 a2 a3 a4 a5 a6 a7 a8 a9 a10 a11 a12 a13 a14 a15 a16 a17 a18 a19 a20 a21 a22 k, LeO (gamehalllaw3_PatternCuts.f k a0 a1 a2 a3 a4 a5 a6 a7 a8 a9 a10 a11 a12 a13 a14 a15 a16 a17 a18 a19 a20 a21 a22) (gamehalllaw3_PatternCuts.f (k + 1) a0 a1 a2 a3 a4 a5 a6 a7 a8 a9 a10 a11 a12 a13 a14 a15 a16 a17 a18 a19 a20 a21 a22) := by
  intro a0 a1 a2 a3 a4 a5 a6 a7 a8 a9 a10 a11 a12 a13 a14 a15 a16 a17 a18 a19 a20 a21 a22 k
  obtain ⟨ih0, ih1, ih2, ih3, ih4, ih5⟩ := gamehalllaw3_PatternCuts.mono_l k
  unfold gamehalllaw3_PatternCuts.f
  repeat' first
      | (with_reducible apply ih0)
      | (with_reducible apply ih1)
      | (with_reducible apply ih2)
      | (with_reducible apply ih3)
      | (with_reducible apply ih4)
      | (with_reducible apply ih5)
      | (with_reducible apply gamehalllaw3_patternFault.mono)
      | (with_reducible apply gamehalllaw3_patterns.mono)
      | (with_reducible apply pattern_Cut.mono)
      | (with_reducible apply pattern_Mirror.mono)
      | (with_reducible apply place_Check.mono)
      | (with_reducible exact LeO.refl _)
      | (with_reducible exact LeO.none _)
      | (with_reducible refine LeO.ite ?_ ?_)
      | (with_reducible refine LeO.bind ?_ (fun _ => ?_))
      | apply ih0
      | apply ih1
      | apply ih2
      | apply ih3
      | apply ih4
      | apply ih5
      | apply gamehalllaw3_patternFault.mono
      | apply gamehalllaw3_patterns.mono
      | apply pattern_Cut.mono
      | apply pattern_Mirror.mono
      | apply place_Check.mono
      | exact LeO.none _
      | refine LeO.ite ?_ ?_
      | refine LeO.bind ?_ (fun _ => ?_)
set_option maxHeartbeats 80000000 in
set_option maxRecDepth 100000 in
theorem gamehalllaw3_PatternCuts.calls (k : Nat) (a0_0 : ByteArray) (a0_1 : Int) (a0_2 : Int) (A0_3 : Option Addr) (c0_3 : Nat) (l0_3 : List (S101)) (A0_4 : Option Addr) (c0_4 : Nat) (l0_4 : List Int) (a0_5 : Bool) (a0_6 : Bool) (A0_7 : Option Addr) (c0_7 : Nat) (l0_7 : List (S103)) (a0_8 : Int) (a0_9 : Int) (a0_10 : Int) (A1_0 : Option Addr) (c1_0 : Nat) (l1_0 : List Int) (A1_1 : Option Addr) (c1_1 : Nat) (l1_1 : List Int) (A1_2 : Option Addr) (c1_2 : Nat) (l1_2 : List Int) (a1_3 : Int) (a1_4 : Int) (a2_0 : Int) (a2_1 : Int) (A2_2 : Option Addr) (c2_2 : Nat) (l2_2 : List Int) (a2_3 : Int) (a3 : Int) (a4 : Int) (a5 : Int) (r : Bool) (w : World) (hr0_3 : Kd.C k101 w A0_3 l0_3.length l0_3) (hc0_3 : l0_3.length ≤ c0_3) (hr0_4 : Kd.C (Kd.int .i64) w A0_4 l0_4.length l0_4) (hc0_4 : l0_4.length ≤ c0_4) (hr0_7 : Kd.C k103 w A0_7 l0_7.length l0_7) (hc0_7 : l0_7.length ≤ c0_7) (hr1_0 : Kd.C (Kd.int .i64) w A1_0 l1_0.length l1_0) (hc1_0 : l1_0.length ≤ c1_0) (hr1_1 : Kd.C (Kd.int .i64) w A1_1 l1_1.length l1_1) (hc1_1 : l1_1.length ≤ c1_1) (hr1_2 : Kd.C (Kd.int .i64) w A1_2 l1_2.length l1_2) (hc1_2 : l1_2.length ≤ c1_2) (hr2_2 : Kd.C (Kd.int .i64) w A2_2 l2_2.length l2_2) (hc2_2 : l2_2.length ≤ c2_2) (h : gamehalllaw3_PatternCuts.f k a0_0 a0_1 a0_2 l0_3 l0_4 a0_5 a0_6 l0_7 a0_8 a0_9 a0_10 l1_0 l1_1 l1_2 a1_3 a1_4 a2_0 a2_1 l2_2 a2_3 a3 a4 a5 = some r) :
    Calls Try.prog 4 #[.agg #[.string a0_0, .int .i64 a0_1, .int .i64 a0_2, .slice A0_3 l0_3.length c0_3, .slice A0_4 l0_4.length c0_4, .bool a0_5, .bool a0_6, .slice A0_7 l0_7.length c0_7, .int .i64 a0_8, .int .i64 a0_9, .int .i64 a0_10], .agg #[.slice A1_0 l1_0.length c1_0, .slice A1_1 l1_1.length c1_1, .slice A1_2 l1_2.length c1_2, .int .i64 a1_3, .int .i64 a1_4], .agg #[.int .i64 a2_0, .int .i64 a2_1, .slice A2_2 l2_2.length c2_2, .int .i64 a2_3], .int .i64 a3, .int .i64 a4, .int .i64 a5] w fun e w' => e = .returned (.bool r) ∧ Below w.heap.size w w' := by
 have hu44 := Try.underlying44; have hu47 := Try.underlying47; have hu49 := Try.underlying49; have HR0_3 := Aside0.mk hr0_3; have HC0_3 := Aside0.mk hc0_3; clear hr0_3 hc0_3; have HR0_4 := Aside0.mk hr0_4; have HC0_4 := Aside0.mk hc0_4; clear hr0_4 hc0_4; have HR0_7 := Aside0.mk hr0_7; have HC0_7 := Aside0.mk hc0_7; clear hr0_7 hc0_7; have HR1_0 := Aside0.mk hr1_0; have HC1_0 := Aside0.mk hc1_0; clear hr1_0 hc1_0; have HR1_1 := Aside0.mk hr1_1; have HC1_1 := Aside0.mk hc1_1; clear hr1_1 hc1_1; have HR1_2 := Aside0.mk hr1_2; have HC1_2 := Aside0.mk hc1_2; clear hr1_2 hc1_2; have HR2_2 := Aside0.mk hr2_2; have HC2_2 := Aside0.mk hc2_2; clear hr2_2 hc2_2; have HB := Aside0.mk (Below.refl w.heap.size w); have hss_ := @isSome_setCell
 have H : ((gamehalllaw3_patterns.f k).bind fun t266 => (if t266 = true then ((gamehalllaw3_great.f a0_0 a0_1 a0_2 l0_3 l0_4 a0_5 a0_6 l0_7 a0_8 a0_9 a0_10).bind fun t267 => (if t267 = true then (some true) else ((pattern_Cut.f k a0_0 a0_1 a0_2 l0_3 l0_4 a0_5 a0_6 l0_7 a0_8 a0_9 a0_10 l1_0 l1_1 l1_2 a1_3 a1_4 a3 a4 a5).bind fun bt268 => ((pattern_Mirror.f k a0_0 a0_1 a0_2 l0_3 l0_4 a0_5 a0_6 l0_7 a0_8 a0_9 a0_10 a2_0 a2_1 l2_2 a2_3).bind fun bt276 => ((gamehalllaw3_patternFault.f k a0_0 a0_1 a0_2 l0_3 l0_4 a0_5 a0_6 l0_7 a0_8 a0_9 a0_10 a2_0 a2_1 l2_2 a2_3).bind fun t284 => (if t284 = 0 then (gamehalllaw3_PatternCuts.l0 k a3 a4 a5 bt268.2.2.2.2 bt276.2.2.2.2 (l2_2.length : Int) 0 a0_0 a0_1 a0_2 l0_3 l0_4 a0_5 a0_6 l0_7 a0_8 a0_9 a0_10 l1_0 l1_1 l1_2 a1_3 a1_4 a2_0 a2_1 l2_2 a2_3 bt268.1 bt268.2.1 bt268.2.2.1 bt268.2.2.2.1 bt276.1 bt276.2.1 bt276.2.2.1 bt276.2.2.2.1) else (if bt276.2.2.2.2 = t284 then (if (bt276.2.2.1.length : Int) > 0 then (some false) else (gamehalllaw3_PatternCuts.j1 k a3 a4 a5 bt268.2.2.2.2 a0_0 a0_1 a0_2 l0_3 l0_4 a0_5 a0_6 l0_7 a0_8 a0_9 a0_10 l1_0 l1_1 l1_2 a1_3 a1_4 bt268.1 bt268.2.1 bt268.2.2.1 bt268.2.2.2.1)) else (some false)))))))) else (some false))) = some r := h
 clear h; replace H := Option.bind_eq_some_iff.mp H
 obtain ⟨t266, A70, H⟩ := H
 try dsimp only at H
 have A7 := Aside0.mk A70; clear A70
 by_cases c8 : t266 = true
 ·subst c8
  rw [if_pos rfl] at H
  replace H := Option.bind_eq_some_iff.mp H
  obtain ⟨t267, A90, H⟩ := H
  try dsimp only at H
  have A9 := Aside0.mk A90; clear A90
  by_cases c10 : t267 = true
  ·subst c10
   rw [if_pos rfl] at H
   obtain rfl := Option.some.inj H
   go_enter Try.func4, Try.ntmps4
   go_wp2_with (first | ((with_reducible refine gate_dst (N := 6) rfl ?_); (try (refine gate_guard (by rfl) ?_; dsimp only)); refine box_event ?hg (N := 6) ?hd (cs := #[.string a0_0, .int .i64 a0_1, .int .i64 a0_2, .slice A0_3 l0_3.length c0_3, .slice A0_4 l0_4.length c0_4, .bool a0_5, .bool a0_6, .slice A0_7 l0_7.length c0_7, .int .i64 a0_8, .int .i64 a0_9, .int .i64 a0_10]) (t := 44) ?hr ?_; (case hd => rfl); (case hg => rfl); (case hr => first | (go_simp; done) | (go_simp; rfl)); intro gb263 hg w11 hbox hb; have BK263 := Aside0.mk (hbox); have GW263 := Aside0.mk (xZ HB hg); have GE263 := Aside0.mk (xZ HB hg); replace HB := Aside0.mk (xS HB hb); clear hb hbox hg) | ((with_reducible refine gate_dst (N := 7) rfl ?_); (try (refine gate_guard (by rfl) ?_; dsimp only)); refine box_event ?hg (N := 7) ?hd (cs := #[.slice A1_0 l1_0.length c1_0, .slice A1_1 l1_1.length c1_1, .slice A1_2 l1_2.length c1_2, .int .i64 a1_3, .int .i64 a1_4]) (t := 47) ?hr ?_; (case hd => rfl); (case hg => rfl); (case hr => first | (go_simp; done) | (go_simp; rfl)); intro gb264 hg w12 hbox hb; have BK264 := Aside0.mk (hbox); have GW264 := Aside0.mk (xZ HB hg); have GE264 := Aside0.mk (xZ HB hg); have NB263_264 := Aside0.mk (xN BK263 hg); have NB264_263 := Aside0.mk (xM BK263 hg); replace BK263 := Aside0.mk (xB BK263 hb); replace HB := Aside0.mk (xS HB hb); clear hb hbox hg) | ((with_reducible refine gate_dst (N := 8) rfl ?_); (try (refine gate_guard (by rfl) ?_; dsimp only)); refine box_event ?hg (N := 8) ?hd (cs := #[.int .i64 a2_0, .int .i64 a2_1, .slice A2_2 l2_2.length c2_2, .int .i64 a2_3]) (t := 49) ?hr ?_; (case hd => rfl); (case hg => rfl); (case hr => first | (go_simp; done) | (go_simp; rfl)); intro gb265 hg w13 hbox hb; have BK265 := Aside0.mk (hbox); have GW265 := Aside0.mk (xZ HB hg); have GE265 := Aside0.mk (xZ HB hg); have NB263_265 := Aside0.mk (xN BK263 hg); have NB265_263 := Aside0.mk (xM BK263 hg); have NB264_265 := Aside0.mk (xN BK264 hg); have NB265_264 := Aside0.mk (xM BK264 hg); replace BK263 := Aside0.mk (xB BK263 hb); replace BK264 := Aside0.mk (xB BK264 hb); replace HB := Aside0.mk (xS HB hb); clear hb hbox hg) | (go_at_call 12; (with_reducible refine (gamehalllaw3_patterns.calls k  true _ A7.out).mono ?_); rintro e w14 ⟨rfl, hb⟩; replace BK263 := Aside0.mk (xB BK263 hb); replace BK264 := Aside0.mk (xB BK264 hb); replace BK265 := Aside0.mk (xB BK265 hb); replace HB := Aside0.mk (xS HB hb); (try clear hb); (try clear hb2); (try clear hk); (try clear hi); have hnb15 := xne8 NB263_264; have hnc15 := xne8 NB264_263; have hnb16 := xne8 NB263_265; have hnc16 := xne8 NB265_263; have hcz17_0 := blkc11 BK263.out) | (go_at_call 13; (with_reducible refine (gamehalllaw3_great.calls a0_0 a0_1 a0_2 _ _ l0_3 _ _ l0_4 a0_5 a0_6 _ _ l0_7 a0_8 a0_9 a0_10 true _ ?side1 ?side2 ?side3 ?side4 ?side5 ?side6 A9.out).mono ?_); (case side1 => exact xC (Kd.C_below HR0_3.out HB.out)); (case side2 => exact HC0_3.out); (case side3 => exact xC (Kd.C_below HR0_4.out HB.out)); (case side4 => exact HC0_4.out); (case side5 => exact xC (Kd.C_below HR0_7.out HB.out)); (case side6 => exact HC0_7.out); rintro e w18 ⟨rfl, hb⟩; replace BK263 := Aside0.mk (xB BK263 hb); replace BK264 := Aside0.mk (xB BK264 hb); replace BK265 := Aside0.mk (xB BK265 hb); replace HB := Aside0.mk (xS HB hb); (try clear hb); (try clear hb2); (try clear hk); (try clear hi)))
   repeat (go_quiet (first | ((with_reducible refine gate_dst (N := 6) rfl ?_); (try (refine gate_guard (by rfl) ?_; dsimp only)); refine box_event ?hg (N := 6) ?hd (cs := #[.string a0_0, .int .i64 a0_1, .int .i64 a0_2, .slice A0_3 l0_3.length c0_3, .slice A0_4 l0_4.length c0_4, .bool a0_5, .bool a0_6, .slice A0_7 l0_7.length c0_7, .int .i64 a0_8, .int .i64 a0_9, .int .i64 a0_10]) (t := 44) ?hr ?_; (case hd => rfl); (case hg => rfl); (case hr => first | (go_simp; done) | (go_simp; rfl)); intro gb263 hg w11 hbox hb; have BK263 := Aside0.mk (hbox); have GW263 := Aside0.mk (xZ HB hg); have GE263 := Aside0.mk (xZ HB hg); replace HB := Aside0.mk (xS HB hb); clear hb hbox hg) | ((with_reducible refine gate_dst (N := 7) rfl ?_); (try (refine gate_guard (by rfl) ?_; dsimp only)); refine box_event ?hg (N := 7) ?hd (cs := #[.slice A1_0 l1_0.length c1_0, .slice A1_1 l1_1.length c1_1, .slice A1_2 l1_2.length c1_2, .int .i64 a1_3, .int .i64 a1_4]) (t := 47) ?hr ?_; (case hd => rfl); (case hg => rfl); (case hr => first | (go_simp; done) | (go_simp; rfl)); intro gb264 hg w12 hbox hb; have BK264 := Aside0.mk (hbox); have GW264 := Aside0.mk (xZ HB hg); have GE264 := Aside0.mk (xZ HB hg); have NB263_264 := Aside0.mk (xN BK263 hg); have NB264_263 := Aside0.mk (xM BK263 hg); replace BK263 := Aside0.mk (xB BK263 hb); replace HB := Aside0.mk (xS HB hb); clear hb hbox hg) | ((with_reducible refine gate_dst (N := 8) rfl ?_); (try (refine gate_guard (by rfl) ?_; dsimp only)); refine box_event ?hg (N := 8) ?hd (cs := #[.int .i64 a2_0, .int .i64 a2_1, .slice A2_2 l2_2.length c2_2, .int .i64 a2_3]) (t := 49) ?hr ?_; (case hd => rfl); (case hg => rfl); (case hr => first | (go_simp; done) | (go_simp; rfl)); intro gb265 hg w13 hbox hb; have BK265 := Aside0.mk (hbox); have GW265 := Aside0.mk (xZ HB hg); have GE265 := Aside0.mk (xZ HB hg); have NB263_265 := Aside0.mk (xN BK263 hg); have NB265_263 := Aside0.mk (xM BK263 hg); have NB264_265 := Aside0.mk (xN BK264 hg); have NB265_264 := Aside0.mk (xM BK264 hg); replace BK263 := Aside0.mk (xB BK263 hb); replace BK264 := Aside0.mk (xB BK264 hb); replace HB := Aside0.mk (xS HB hb); clear hb hbox hg) | (go_at_call 12; (with_reducible refine (gamehalllaw3_patterns.calls k  true _ A7.out).mono ?_); rintro e w14 ⟨rfl, hb⟩; replace BK263 := Aside0.mk (xB BK263 hb); replace BK264 := Aside0.mk (xB BK264 hb); replace BK265 := Aside0.mk (xB BK265 hb); replace HB := Aside0.mk (xS HB hb); (try clear hb); (try clear hb2); (try clear hk); (try clear hi); have hcz17_0 := blkc11 BK263.out) | (go_at_call 13; (with_reducible refine (gamehalllaw3_great.calls a0_0 a0_1 a0_2 _ _ l0_3 _ _ l0_4 a0_5 a0_6 _ _ l0_7 a0_8 a0_9 a0_10 true _ ?side1 ?side2 ?side3 ?side4 ?side5 ?side6 A9.out).mono ?_); (case side1 => exact xC (Kd.C_below HR0_3.out HB.out)); (case side2 => exact HC0_3.out); (case side3 => exact xC (Kd.C_below HR0_4.out HB.out)); (case side4 => exact HC0_4.out); (case side5 => exact xC (Kd.C_below HR0_7.out HB.out)); (case side6 => exact HC0_7.out); rintro e w18 ⟨rfl, hb⟩; replace BK263 := Aside0.mk (xB BK263 hb); replace BK264 := Aside0.mk (xB BK264 hb); replace BK265 := Aside0.mk (xB BK265 hb); replace HB := Aside0.mk (xS HB hb); (try clear hb); (try clear hb2); (try clear hk); (try clear hi))); try go_wp2_with (first | ((with_reducible refine gate_dst (N := 6) rfl ?_); (try (refine gate_guard (by rfl) ?_; dsimp only)); refine box_event ?hg (N := 6) ?hd (cs := #[.string a0_0, .int .i64 a0_1, .int .i64 a0_2, .slice A0_3 l0_3.length c0_3, .slice A0_4 l0_4.length c0_4, .bool a0_5, .bool a0_6, .slice A0_7 l0_7.length c0_7, .int .i64 a0_8, .int .i64 a0_9, .int .i64 a0_10]) (t := 44) ?hr ?_; (case hd => rfl); (case hg => rfl); (case hr => first | (go_simp; done) | (go_simp; rfl)); intro gb263 hg w11 hbox hb; have BK263 := Aside0.mk (hbox); have GW263 := Aside0.mk (xZ HB hg); have GE263 := Aside0.mk (xZ HB hg); replace HB := Aside0.mk (xS HB hb); clear hb hbox hg) | ((with_reducible refine gate_dst (N := 7) rfl ?_); (try (refine gate_guard (by rfl) ?_; dsimp only)); refine box_event ?hg (N := 7) ?hd (cs := #[.slice A1_0 l1_0.length c1_0, .slice A1_1 l1_1.length c1_1, .slice A1_2 l1_2.length c1_2, .int .i64 a1_3, .int .i64 a1_4]) (t := 47) ?hr ?_; (case hd => rfl); (case hg => rfl); (case hr => first | (go_simp; done) | (go_simp; rfl)); intro gb264 hg w12 hbox hb; have BK264 := Aside0.mk (hbox); have GW264 := Aside0.mk (xZ HB hg); have GE264 := Aside0.mk (xZ HB hg); have NB263_264 := Aside0.mk (xN BK263 hg); have NB264_263 := Aside0.mk (xM BK263 hg); replace BK263 := Aside0.mk (xB BK263 hb); replace HB := Aside0.mk (xS HB hb); clear hb hbox hg) | ((with_reducible refine gate_dst (N := 8) rfl ?_); (try (refine gate_guard (by rfl) ?_; dsimp only)); refine box_event ?hg (N := 8) ?hd (cs := #[.int .i64 a2_0, .int .i64 a2_1, .slice A2_2 l2_2.length c2_2, .int .i64 a2_3]) (t := 49) ?hr ?_; (case hd => rfl); (case hg => rfl); (case hr => first | (go_simp; done) | (go_simp; rfl)); intro gb265 hg w13 hbox hb; have BK265 := Aside0.mk (hbox); have GW265 := Aside0.mk (xZ HB hg); have GE265 := Aside0.mk (xZ HB hg); have NB263_265 := Aside0.mk (xN BK263 hg); have NB265_263 := Aside0.mk (xM BK263 hg); have NB264_265 := Aside0.mk (xN BK264 hg); have NB265_264 := Aside0.mk (xM BK264 hg); replace BK263 := Aside0.mk (xB BK263 hb); replace BK264 := Aside0.mk (xB BK264 hb); replace HB := Aside0.mk (xS HB hb); clear hb hbox hg) | (go_at_call 12; (with_reducible refine (gamehalllaw3_patterns.calls k  true _ A7.out).mono ?_); rintro e w14 ⟨rfl, hb⟩; replace BK263 := Aside0.mk (xB BK263 hb); replace BK264 := Aside0.mk (xB BK264 hb); replace BK265 := Aside0.mk (xB BK265 hb); replace HB := Aside0.mk (xS HB hb); (try clear hb); (try clear hb2); (try clear hk); (try clear hi); have hcz17_0 := blkc11 BK263.out) | (go_at_call 13; (with_reducible refine (gamehalllaw3_great.calls a0_0 a0_1 a0_2 _ _ l0_3 _ _ l0_4 a0_5 a0_6 _ _ l0_7 a0_8 a0_9 a0_10 true _ ?side1 ?side2 ?side3 ?side4 ?side5 ?side6 A9.out).mono ?_); (case side1 => exact xC (Kd.C_below HR0_3.out HB.out)); (case side2 => exact HC0_3.out); (case side3 => exact xC (Kd.C_below HR0_4.out HB.out)); (case side4 => exact HC0_4.out); (case side5 => exact xC (Kd.C_below HR0_7.out HB.out)); (case side6 => exact HC0_7.out); rintro e w18 ⟨rfl, hb⟩; replace BK263 := Aside0.mk (xB BK263 hb); replace BK264 := Aside0.mk (xB BK264 hb); replace BK265 := Aside0.mk (xB BK265 hb); replace HB := Aside0.mk (xS HB hb); (try clear hb); (try clear hb2); (try clear hk); (try clear hi))))
   go_ret
   exact ⟨xer, xW HB⟩
  ·replace c10 := Bool.eq_false_iff.mpr c10
   subst c10
   rw [if_neg (show ¬ (false = true) by decide)] at H
   replace H := Option.bind_eq_some_iff.mp H
   obtain ⟨⟨t268, t269, t270, t273, t274⟩, A190, H⟩ := H
   try dsimp only at H
   have A19 := Aside0.mk A190; clear A190; replace H := Option.bind_eq_some_iff.mp H
   obtain ⟨⟨t276, t277, t278, t281, t282⟩, A200, H⟩ := H
   try dsimp only at H
   have A20 := Aside0.mk A200; clear A200; replace H := Option.bind_eq_some_iff.mp H
   obtain ⟨t284, A210, H⟩ := H
   try dsimp only at H
   have A21 := Aside0.mk A210; clear A210; have HC22 := Aside0.mk H; clear H
   go_enter Try.func4, Try.ntmps4
   go_upto_if 47 with (first | ((with_reducible refine gate_dst (N := 6) rfl ?_); (try (refine gate_guard (by rfl) ?_; dsimp only)); refine box_event ?hg (N := 6) ?hd (cs := #[.string a0_0, .int .i64 a0_1, .int .i64 a0_2, .slice A0_3 l0_3.length c0_3, .slice A0_4 l0_4.length c0_4, .bool a0_5, .bool a0_6, .slice A0_7 l0_7.length c0_7, .int .i64 a0_8, .int .i64 a0_9, .int .i64 a0_10]) (t := 44) ?hr ?_; (case hd => rfl); (case hg => rfl); (case hr => first | (go_simp; done) | (go_simp; rfl)); intro gb263 hg w23 hbox hb; have BK263 := Aside0.mk (hbox); have GW263 := Aside0.mk (xZ HB hg); have GE263 := Aside0.mk (xZ HB hg); replace HB := Aside0.mk (xS HB hb); clear hb hbox hg) | ((with_reducible refine gate_dst (N := 7) rfl ?_); (try (refine gate_guard (by rfl) ?_; dsimp only)); refine box_event ?hg (N := 7) ?hd (cs := #[.slice A1_0 l1_0.length c1_0, .slice A1_1 l1_1.length c1_1, .slice A1_2 l1_2.length c1_2, .int .i64 a1_3, .int .i64 a1_4]) (t := 47) ?hr ?_; (case hd => rfl); (case hg => rfl); (case hr => first | (go_simp; done) | (go_simp; rfl)); intro gb264 hg w24 hbox hb; have BK264 := Aside0.mk (hbox); have GW264 := Aside0.mk (xZ HB hg); have GE264 := Aside0.mk (xZ HB hg); have NB263_264 := Aside0.mk (xN BK263 hg); have NB264_263 := Aside0.mk (xM BK263 hg); replace BK263 := Aside0.mk (xB BK263 hb); replace HB := Aside0.mk (xS HB hb); clear hb hbox hg) | ((with_reducible refine gate_dst (N := 8) rfl ?_); (try (refine gate_guard (by rfl) ?_; dsimp only)); refine box_event ?hg (N := 8) ?hd (cs := #[.int .i64 a2_0, .int .i64 a2_1, .slice A2_2 l2_2.length c2_2, .int .i64 a2_3]) (t := 49) ?hr ?_; (case hd => rfl); (case hg => rfl); (case hr => first | (go_simp; done) | (go_simp; rfl)); intro gb265 hg w25 hbox hb; have BK265 := Aside0.mk (hbox); have GW265 := Aside0.mk (xZ HB hg); have GE265 := Aside0.mk (xZ HB hg); have NB263_265 := Aside0.mk (xN BK263 hg); have NB265_263 := Aside0.mk (xM BK263 hg); have NB264_265 := Aside0.mk (xN BK264 hg); have NB265_264 := Aside0.mk (xM BK264 hg); replace BK263 := Aside0.mk (xB BK263 hb); replace BK264 := Aside0.mk (xB BK264 hb); replace HB := Aside0.mk (xS HB hb); clear hb hbox hg) | (go_at_call 12; (with_reducible refine (gamehalllaw3_patterns.calls k  true _ A7.out).mono ?_); rintro e w26 ⟨rfl, hb⟩; replace BK263 := Aside0.mk (xB BK263 hb); replace BK264 := Aside0.mk (xB BK264 hb); replace BK265 := Aside0.mk (xB BK265 hb); replace HB := Aside0.mk (xS HB hb); (try clear hb); (try clear hb2); (try clear hk); (try clear hi); have hnb27 := xne8 NB263_264; have hnc27 := xne8 NB264_263; have hnb28 := xne8 NB263_265; have hnc28 := xne8 NB265_263; have hcz29_0 := blkc11 BK263.out) | (go_at_call 13; (with_reducible refine (gamehalllaw3_great.calls a0_0 a0_1 a0_2 _ _ l0_3 _ _ l0_4 a0_5 a0_6 _ _ l0_7 a0_8 a0_9 a0_10 false _ ?side1 ?side2 ?side3 ?side4 ?side5 ?side6 A9.out).mono ?_); (case side1 => exact xC (Kd.C_below HR0_3.out HB.out)); (case side2 => exact HC0_3.out); (case side3 => exact xC (Kd.C_below HR0_4.out HB.out)); (case side4 => exact HC0_4.out); (case side5 => exact xC (Kd.C_below HR0_7.out HB.out)); (case side6 => exact HC0_7.out); rintro e w30 ⟨rfl, hb⟩; replace BK263 := Aside0.mk (xB BK263 hb); replace BK264 := Aside0.mk (xB BK264 hb); replace BK265 := Aside0.mk (xB BK265 hb); replace HB := Aside0.mk (xS HB hb); (try clear hb); (try clear hb2); (try clear hk); (try clear hi); have hcz31_0 := blkc11 BK263.out; have hnb32 := xne8 NB264_265; have hnc32 := xne8 NB265_264; have hcz33_0 := blkc5 BK264.out) | (go_at_call 14; (with_reducible refine (pattern_Cut.calls k a0_0 a0_1 a0_2 _ _ l0_3 _ _ l0_4 a0_5 a0_6 _ _ l0_7 a0_8 a0_9 a0_10 _ _ l1_0 _ _ l1_1 _ _ l1_2 a1_3 a1_4 a3 a4 a5 t268 t269 t270 t273 t274 _ ?side1 ?side2 ?side3 ?side4 ?side5 ?side6 ?side7 ?side8 ?side9 ?side10 ?side11 ?side12 A19.out).mono ?_); (case side1 => exact xC (Kd.C_below HR0_3.out HB.out)); (case side2 => exact HC0_3.out); (case side3 => exact xC (Kd.C_below HR0_4.out HB.out)); (case side4 => exact HC0_4.out); (case side5 => exact xC (Kd.C_below HR0_7.out HB.out)); (case side6 => exact HC0_7.out); (case side7 => exact xC (Kd.C_below HR1_0.out HB.out)); (case side8 => exact HC1_0.out); (case side9 => exact xC (Kd.C_below HR1_1.out HB.out)); (case side10 => exact HC1_1.out); (case side11 => exact xC (Kd.C_below HR1_2.out HB.out)); (case side12 => exact HC1_2.out); rintro e w34 ⟨v271, rfl, ho0, hb⟩; have HO272 := Aside0.mk (Kd.R_lower ho0 (below_size (xW HB))); replace BK263 := Aside0.mk (xB BK263 hb); replace BK264 := Aside0.mk (xB BK264 hb); replace BK265 := Aside0.mk (xB BK265 hb); replace HB := Aside0.mk (xS HB hb); (try clear hb); (try clear hb2); (try clear hk); (try clear hi); (try clear ho0)) | ((with_reducible refine gate_dst (N := 13) rfl ?_); (try (refine gate_guard (by rfl) ?_; dsimp only)); refine box_event ?hg (N := 13) ?hd (cs := #[.int .i64 0, .int .i64 0, .slice none 0 0, .int .i64 0]) (t := 49) ?hr ?_; (case hd => rfl); (case hg => rfl); (case hr => first | (go_simp; done) | (go_simp; rfl)); intro gb275 hg w35 hbox hb; have BK275 := Aside0.mk (hbox); have GW275 := Aside0.mk (xZ HB hg); have GE275 := Aside0.mk (xZ HB hg); have NB263_275 := Aside0.mk (xN BK263 hg); have NB275_263 := Aside0.mk (xM BK263 hg); have NB264_275 := Aside0.mk (xN BK264 hg); have NB275_264 := Aside0.mk (xM BK264 hg); have NB265_275 := Aside0.mk (xN BK265 hg); have NB275_265 := Aside0.mk (xM BK265 hg); replace HO272 := Aside0.mk (Kd.R_below (by (with_reducible repeat (first | apply Kd.R_alloc | apply Kd.R_drewN | apply Kd.R_drew)); exact HO272.out) hb); replace BK263 := Aside0.mk (xB BK263 hb); replace BK264 := Aside0.mk (xB BK264 hb); replace BK265 := Aside0.mk (xB BK265 hb); replace HB := Aside0.mk (xS HB hb); clear hb hbox hg; have hnb36 := xne8 NB275_263; have hnc36 := xne8 NB263_275; have hnb37 := xne8 NB275_264; have hnc37 := xne8 NB264_275; have hnb38 := xne8 NB275_265; have hnc38 := xne8 NB265_275; have hcz39_0 := blkc4 BK275.out; obtain ⟨Ao40, co40, eo40⟩ := Kd.R_slice HO272.out; subst eo40; have hcz41_0 := blkc11 BK263.out; have hcz42_0 := blkc4 BK265.out) | (go_at_call 15; (with_reducible refine (pattern_Mirror.calls k a0_0 a0_1 a0_2 _ _ l0_3 _ _ l0_4 a0_5 a0_6 _ _ l0_7 a0_8 a0_9 a0_10 a2_0 a2_1 _ _ l2_2 a2_3 t276 t277 t278 t281 t282 _ ?side1 ?side2 ?side3 ?side4 ?side5 ?side6 ?side7 ?side8 A20.out).mono ?_); (case side1 => exact Kd.C_below HR0_3.out (xW HB)); (case side2 => exact HC0_3.out); (case side3 => exact Kd.C_below HR0_4.out (xW HB)); (case side4 => exact HC0_4.out); (case side5 => exact Kd.C_below HR0_7.out (xW HB)); (case side6 => exact HC0_7.out); (case side7 => exact Kd.C_below HR2_2.out (xW HB)); (case side8 => exact HC2_2.out); rintro e w43 ⟨v279, rfl, ho0, hb⟩; have HO280 := Aside0.mk (Kd.R_lower (Kd.R_new' ho0 (Kd.R_lt (by (with_reducible repeat (first | apply Kd.R_alloc | apply Kd.R_drewN | apply Kd.R_drew)); exact (Kd.R_mono (Kd.R_far (p := ⟨gb275, 3, none⟩) (Kd.R_far (p := ⟨gb275, 2, none⟩) (Kd.R_far (p := ⟨gb275, 1, none⟩) (Kd.R_far (p := ⟨gb275, 0, none⟩) (Kd.R_types HO272.out BK275.out (by decide)) (fun _ hk => hk.2) (.int .i64 t268)) (fun _ hk => hk.2) (.int .i64 t269)) (fun _ hk => hk.2) (.slice Ao40 t270.length co40)) (fun _ hk => hk.2) (.int .i64 t273)) (fun _ h_ => h_.1))))) (below_size (xW HB))); replace HO272 := Aside0.mk (Kd.R_elder' (by (with_reducible repeat (first | apply Kd.R_alloc | apply Kd.R_drewN | apply Kd.R_drew)); exact (Kd.R_mono (Kd.R_far (p := ⟨gb275, 3, none⟩) (Kd.R_far (p := ⟨gb275, 2, none⟩) (Kd.R_far (p := ⟨gb275, 1, none⟩) (Kd.R_far (p := ⟨gb275, 0, none⟩) (Kd.R_types HO272.out BK275.out (by decide)) (fun _ hk => hk.2) (.int .i64 t268)) (fun _ hk => hk.2) (.int .i64 t269)) (fun _ hk => hk.2) (.slice Ao40 t270.length co40)) (fun _ hk => hk.2) (.int .i64 t273)) (fun _ h_ => h_.1))) (Kd.R_base ho0) hb); replace BK263 := Aside0.mk (xB BK263 hb); replace BK264 := Aside0.mk (xB BK264 hb); replace BK265 := Aside0.mk (xB BK265 hb); replace BK275 := Aside0.mk (xP (l' := [.int .i64 t268, .int .i64 t269, .slice Ao40 t270.length co40, .int .i64 t273]) BK275 hb); replace HB := Aside0.mk (xS HB hb); (try clear hb); (try clear hb2); (try clear hk); (try clear hi); (try clear ho0)) | ((with_reducible refine gate_dst (N := 15) rfl ?_); (try (refine gate_guard (by rfl) ?_; dsimp only)); refine box_event ?hg (N := 15) ?hd (cs := #[.int .i64 0, .int .i64 0, .slice none 0 0, .int .i64 0]) (t := 49) ?hr ?_; (case hd => rfl); (case hg => rfl); (case hr => first | (go_simp; done) | (go_simp; rfl)); intro gb283 hg w44 hbox hb; have BK283 := Aside0.mk (hbox); have GW283 := Aside0.mk (xZ HB hg); have GE283 := Aside0.mk (xZ HB hg); have NB263_283 := Aside0.mk (xN BK263 hg); have NB283_263 := Aside0.mk (xM BK263 hg); have NB264_283 := Aside0.mk (xN BK264 hg); have NB283_264 := Aside0.mk (xM BK264 hg); have NB265_283 := Aside0.mk (xN BK265 hg); have NB283_265 := Aside0.mk (xM BK265 hg); have NB275_283 := Aside0.mk (xN BK275 hg); have NB283_275 := Aside0.mk (xM BK275 hg); replace HO272 := Aside0.mk (Kd.R_below (by (with_reducible repeat (first | apply Kd.R_alloc | apply Kd.R_drewN | apply Kd.R_drew)); exact HO272.out) hb); replace HO280 := Aside0.mk (Kd.R_below (by (with_reducible repeat (first | apply Kd.R_alloc | apply Kd.R_drewN | apply Kd.R_drew)); exact HO280.out) hb); replace BK263 := Aside0.mk (xB BK263 hb); replace BK264 := Aside0.mk (xB BK264 hb); replace BK265 := Aside0.mk (xB BK265 hb); replace BK275 := Aside0.mk (xB BK275 hb); replace HB := Aside0.mk (xS HB hb); clear hb hbox hg; have hnb45 := xne8 NB283_263; have hnc45 := xne8 NB263_283; have hnb46 := xne8 NB283_264; have hnc46 := xne8 NB264_283; have hnb47 := xne8 NB283_265; have hnc47 := xne8 NB265_283; have hnb48 := xne8 NB283_275; have hnc48 := xne8 NB275_283; have hcz49_0 := blkc4 BK283.out; obtain ⟨Ao50, co50, eo50⟩ := Kd.R_slice HO280.out; subst eo50; have hcz51_0 := blkc11 BK263.out; have hcz52_0 := blkc4 BK265.out) | (go_at_call 16; (with_reducible refine (gamehalllaw3_patternFault.calls k a0_0 a0_1 a0_2 _ _ l0_3 _ _ l0_4 a0_5 a0_6 _ _ l0_7 a0_8 a0_9 a0_10 a2_0 a2_1 _ _ l2_2 a2_3 t284 _ ?side1 ?side2 ?side3 ?side4 ?side5 ?side6 ?side7 ?side8 A21.out).mono ?_); (case side1 => exact Kd.C_below HR0_3.out (xW HB)); (case side2 => exact HC0_3.out); (case side3 => exact Kd.C_below HR0_4.out (xW HB)); (case side4 => exact HC0_4.out); (case side5 => exact Kd.C_below HR0_7.out (xW HB)); (case side6 => exact HC0_7.out); (case side7 => exact Kd.C_below HR2_2.out (xW HB)); (case side8 => exact HC2_2.out); rintro e w53 ⟨rfl, hb⟩; replace HO272 := Aside0.mk (Kd.R_below (by (with_reducible repeat (first | apply Kd.R_alloc | apply Kd.R_drewN | apply Kd.R_drew)); exact (Kd.R_mono (Kd.R_far (p := ⟨gb283, 3, none⟩) (Kd.R_far (p := ⟨gb283, 2, none⟩) (Kd.R_far (p := ⟨gb283, 1, none⟩) (Kd.R_far (p := ⟨gb283, 0, none⟩) (Kd.R_types HO272.out BK283.out (by decide)) (fun _ hk => hk.2) (.int .i64 t276)) (fun _ hk => hk.2) (.int .i64 t277)) (fun _ hk => hk.2) (.slice Ao50 t278.length co50)) (fun _ hk => hk.2) (.int .i64 t281)) (fun _ h_ => h_.1))) hb); replace HO280 := Aside0.mk (Kd.R_below (by (with_reducible repeat (first | apply Kd.R_alloc | apply Kd.R_drewN | apply Kd.R_drew)); exact (Kd.R_mono (Kd.R_far (p := ⟨gb283, 3, none⟩) (Kd.R_far (p := ⟨gb283, 2, none⟩) (Kd.R_far (p := ⟨gb283, 1, none⟩) (Kd.R_far (p := ⟨gb283, 0, none⟩) (Kd.R_types HO280.out BK283.out (by decide)) (fun _ hk => hk.2) (.int .i64 t276)) (fun _ hk => hk.2) (.int .i64 t277)) (fun _ hk => hk.2) (.slice Ao50 t278.length co50)) (fun _ hk => hk.2) (.int .i64 t281)) (fun _ h_ => h_.1))) hb); replace BK263 := Aside0.mk (xB BK263 hb); replace BK264 := Aside0.mk (xB BK264 hb); replace BK265 := Aside0.mk (xB BK265 hb); replace BK275 := Aside0.mk (xB BK275 hb); replace BK283 := Aside0.mk (xP (l' := [.int .i64 t276, .int .i64 t277, .slice Ao50 t278.length co50, .int .i64 t281]) BK283 hb); replace HB := Aside0.mk (xS HB hb); (try clear hb); (try clear hb2); (try clear hk); (try clear hi)))
   repeat (go_quiet (first | ((with_reducible refine gate_dst (N := 6) rfl ?_); (try (refine gate_guard (by rfl) ?_; dsimp only)); refine box_event ?hg (N := 6) ?hd (cs := #[.string a0_0, .int .i64 a0_1, .int .i64 a0_2, .slice A0_3 l0_3.length c0_3, .slice A0_4 l0_4.length c0_4, .bool a0_5, .bool a0_6, .slice A0_7 l0_7.length c0_7, .int .i64 a0_8, .int .i64 a0_9, .int .i64 a0_10]) (t := 44) ?hr ?_; (case hd => rfl); (case hg => rfl); (case hr => first | (go_simp; done) | (go_simp; rfl)); intro gb263 hg w23 hbox hb; have BK263 := Aside0.mk (hbox); have GW263 := Aside0.mk (xZ HB hg); have GE263 := Aside0.mk (xZ HB hg); replace HB := Aside0.mk (xS HB hb); clear hb hbox hg) | ((with_reducible refine gate_dst (N := 7) rfl ?_); (try (refine gate_guard (by rfl) ?_; dsimp only)); refine box_event ?hg (N := 7) ?hd (cs := #[.slice A1_0 l1_0.length c1_0, .slice A1_1 l1_1.length c1_1, .slice A1_2 l1_2.length c1_2, .int .i64 a1_3, .int .i64 a1_4]) (t := 47) ?hr ?_; (case hd => rfl); (case hg => rfl); (case hr => first | (go_simp; done) | (go_simp; rfl)); intro gb264 hg w24 hbox hb; have BK264 := Aside0.mk (hbox); have GW264 := Aside0.mk (xZ HB hg); have GE264 := Aside0.mk (xZ HB hg); have NB263_264 := Aside0.mk (xN BK263 hg); have NB264_263 := Aside0.mk (xM BK263 hg); replace BK263 := Aside0.mk (xB BK263 hb); replace HB := Aside0.mk (xS HB hb); clear hb hbox hg) | ((with_reducible refine gate_dst (N := 8) rfl ?_); (try (refine gate_guard (by rfl) ?_; dsimp only)); refine box_event ?hg (N := 8) ?hd (cs := #[.int .i64 a2_0, .int .i64 a2_1, .slice A2_2 l2_2.length c2_2, .int .i64 a2_3]) (t := 49) ?hr ?_; (case hd => rfl); (case hg => rfl); (case hr => first | (go_simp; done) | (go_simp; rfl)); intro gb265 hg w25 hbox hb; have BK265 := Aside0.mk (hbox); have GW265 := Aside0.mk (xZ HB hg); have GE265 := Aside0.mk (xZ HB hg); have NB263_265 := Aside0.mk (xN BK263 hg); have NB265_263 := Aside0.mk (xM BK263 hg); have NB264_265 := Aside0.mk (xN BK264 hg); have NB265_264 := Aside0.mk (xM BK264 hg); replace BK263 := Aside0.mk (xB BK263 hb); replace BK264 := Aside0.mk (xB BK264 hb); replace HB := Aside0.mk (xS HB hb); clear hb hbox hg) | (go_at_call 12; (with_reducible refine (gamehalllaw3_patterns.calls k  true _ A7.out).mono ?_); rintro e w26 ⟨rfl, hb⟩; replace BK263 := Aside0.mk (xB BK263 hb); replace BK264 := Aside0.mk (xB BK264 hb); replace BK265 := Aside0.mk (xB BK265 hb); replace HB := Aside0.mk (xS HB hb); (try clear hb); (try clear hb2); (try clear hk); (try clear hi); have hcz29_0 := blkc11 BK263.out) | (go_at_call 13; (with_reducible refine (gamehalllaw3_great.calls a0_0 a0_1 a0_2 _ _ l0_3 _ _ l0_4 a0_5 a0_6 _ _ l0_7 a0_8 a0_9 a0_10 false _ ?side1 ?side2 ?side3 ?side4 ?side5 ?side6 A9.out).mono ?_); (case side1 => exact xC (Kd.C_below HR0_3.out HB.out)); (case side2 => exact HC0_3.out); (case side3 => exact xC (Kd.C_below HR0_4.out HB.out)); (case side4 => exact HC0_4.out); (case side5 => exact xC (Kd.C_below HR0_7.out HB.out)); (case side6 => exact HC0_7.out); rintro e w30 ⟨rfl, hb⟩; replace BK263 := Aside0.mk (xB BK263 hb); replace BK264 := Aside0.mk (xB BK264 hb); replace BK265 := Aside0.mk (xB BK265 hb); replace HB := Aside0.mk (xS HB hb); (try clear hb); (try clear hb2); (try clear hk); (try clear hi); have hcz31_0 := blkc11 BK263.out; have hcz33_0 := blkc5 BK264.out) | (go_at_call 14; (with_reducible refine (pattern_Cut.calls k a0_0 a0_1 a0_2 _ _ l0_3 _ _ l0_4 a0_5 a0_6 _ _ l0_7 a0_8 a0_9 a0_10 _ _ l1_0 _ _ l1_1 _ _ l1_2 a1_3 a1_4 a3 a4 a5 t268 t269 t270 t273 t274 _ ?side1 ?side2 ?side3 ?side4 ?side5 ?side6 ?side7 ?side8 ?side9 ?side10 ?side11 ?side12 A19.out).mono ?_); (case side1 => exact xC (Kd.C_below HR0_3.out HB.out)); (case side2 => exact HC0_3.out); (case side3 => exact xC (Kd.C_below HR0_4.out HB.out)); (case side4 => exact HC0_4.out); (case side5 => exact xC (Kd.C_below HR0_7.out HB.out)); (case side6 => exact HC0_7.out); (case side7 => exact xC (Kd.C_below HR1_0.out HB.out)); (case side8 => exact HC1_0.out); (case side9 => exact xC (Kd.C_below HR1_1.out HB.out)); (case side10 => exact HC1_1.out); (case side11 => exact xC (Kd.C_below HR1_2.out HB.out)); (case side12 => exact HC1_2.out); rintro e w34 ⟨v271, rfl, ho0, hb⟩; have HO272 := Aside0.mk (Kd.R_lower ho0 (below_size (xW HB))); replace BK263 := Aside0.mk (xB BK263 hb); replace BK264 := Aside0.mk (xB BK264 hb); replace BK265 := Aside0.mk (xB BK265 hb); replace HB := Aside0.mk (xS HB hb); (try clear hb); (try clear hb2); (try clear hk); (try clear hi); (try clear ho0)) | ((with_reducible refine gate_dst (N := 13) rfl ?_); (try (refine gate_guard (by rfl) ?_; dsimp only)); refine box_event ?hg (N := 13) ?hd (cs := #[.int .i64 0, .int .i64 0, .slice none 0 0, .int .i64 0]) (t := 49) ?hr ?_; (case hd => rfl); (case hg => rfl); (case hr => first | (go_simp; done) | (go_simp; rfl)); intro gb275 hg w35 hbox hb; have BK275 := Aside0.mk (hbox); have GW275 := Aside0.mk (xZ HB hg); have GE275 := Aside0.mk (xZ HB hg); have NB263_275 := Aside0.mk (xN BK263 hg); have NB275_263 := Aside0.mk (xM BK263 hg); have NB264_275 := Aside0.mk (xN BK264 hg); have NB275_264 := Aside0.mk (xM BK264 hg); have NB265_275 := Aside0.mk (xN BK265 hg); have NB275_265 := Aside0.mk (xM BK265 hg); replace HO272 := Aside0.mk (Kd.R_below (by (with_reducible repeat (first | apply Kd.R_alloc | apply Kd.R_drewN | apply Kd.R_drew)); exact HO272.out) hb); replace BK263 := Aside0.mk (xB BK263 hb); replace BK264 := Aside0.mk (xB BK264 hb); replace BK265 := Aside0.mk (xB BK265 hb); replace HB := Aside0.mk (xS HB hb); clear hb hbox hg; have hcz39_0 := blkc4 BK275.out; obtain ⟨Ao40, co40, eo40⟩ := Kd.R_slice HO272.out; subst eo40; have hcz41_0 := blkc11 BK263.out; have hcz42_0 := blkc4 BK265.out) | (go_at_call 15; (with_reducible refine (pattern_Mirror.calls k a0_0 a0_1 a0_2 _ _ l0_3 _ _ l0_4 a0_5 a0_6 _ _ l0_7 a0_8 a0_9 a0_10 a2_0 a2_1 _ _ l2_2 a2_3 t276 t277 t278 t281 t282 _ ?side1 ?side2 ?side3 ?side4 ?side5 ?side6 ?side7 ?side8 A20.out).mono ?_); (case side1 => exact Kd.C_below HR0_3.out (xW HB)); (case side2 => exact HC0_3.out); (case side3 => exact Kd.C_below HR0_4.out (xW HB)); (case side4 => exact HC0_4.out); (case side5 => exact Kd.C_below HR0_7.out (xW HB)); (case side6 => exact HC0_7.out); (case side7 => exact Kd.C_below HR2_2.out (xW HB)); (case side8 => exact HC2_2.out); rintro e w43 ⟨v279, rfl, ho0, hb⟩; have HO280 := Aside0.mk (Kd.R_lower (Kd.R_new' ho0 (Kd.R_lt (by (with_reducible repeat (first | apply Kd.R_alloc | apply Kd.R_drewN | apply Kd.R_drew)); exact (Kd.R_mono (Kd.R_far (p := ⟨gb275, 3, none⟩) (Kd.R_far (p := ⟨gb275, 2, none⟩) (Kd.R_far (p := ⟨gb275, 1, none⟩) (Kd.R_far (p := ⟨gb275, 0, none⟩) (Kd.R_types HO272.out BK275.out (by decide)) (fun _ hk => hk.2) (.int .i64 t268)) (fun _ hk => hk.2) (.int .i64 t269)) (fun _ hk => hk.2) (.slice Ao40 t270.length co40)) (fun _ hk => hk.2) (.int .i64 t273)) (fun _ h_ => h_.1))))) (below_size (xW HB))); replace HO272 := Aside0.mk (Kd.R_elder' (by (with_reducible repeat (first | apply Kd.R_alloc | apply Kd.R_drewN | apply Kd.R_drew)); exact (Kd.R_mono (Kd.R_far (p := ⟨gb275, 3, none⟩) (Kd.R_far (p := ⟨gb275, 2, none⟩) (Kd.R_far (p := ⟨gb275, 1, none⟩) (Kd.R_far (p := ⟨gb275, 0, none⟩) (Kd.R_types HO272.out BK275.out (by decide)) (fun _ hk => hk.2) (.int .i64 t268)) (fun _ hk => hk.2) (.int .i64 t269)) (fun _ hk => hk.2) (.slice Ao40 t270.length co40)) (fun _ hk => hk.2) (.int .i64 t273)) (fun _ h_ => h_.1))) (Kd.R_base ho0) hb); replace BK263 := Aside0.mk (xB BK263 hb); replace BK264 := Aside0.mk (xB BK264 hb); replace BK265 := Aside0.mk (xB BK265 hb); replace BK275 := Aside0.mk (xP (l' := [.int .i64 t268, .int .i64 t269, .slice Ao40 t270.length co40, .int .i64 t273]) BK275 hb); replace HB := Aside0.mk (xS HB hb); (try clear hb); (try clear hb2); (try clear hk); (try clear hi); (try clear ho0)) | ((with_reducible refine gate_dst (N := 15) rfl ?_); (try (refine gate_guard (by rfl) ?_; dsimp only)); refine box_event ?hg (N := 15) ?hd (cs := #[.int .i64 0, .int .i64 0, .slice none 0 0, .int .i64 0]) (t := 49) ?hr ?_; (case hd => rfl); (case hg => rfl); (case hr => first | (go_simp; done) | (go_simp; rfl)); intro gb283 hg w44 hbox hb; have BK283 := Aside0.mk (hbox); have GW283 := Aside0.mk (xZ HB hg); have GE283 := Aside0.mk (xZ HB hg); have NB263_283 := Aside0.mk (xN BK263 hg); have NB283_263 := Aside0.mk (xM BK263 hg); have NB264_283 := Aside0.mk (xN BK264 hg); have NB283_264 := Aside0.mk (xM BK264 hg); have NB265_283 := Aside0.mk (xN BK265 hg); have NB283_265 := Aside0.mk (xM BK265 hg); have NB275_283 := Aside0.mk (xN BK275 hg); have NB283_275 := Aside0.mk (xM BK275 hg); replace HO272 := Aside0.mk (Kd.R_below (by (with_reducible repeat (first | apply Kd.R_alloc | apply Kd.R_drewN | apply Kd.R_drew)); exact HO272.out) hb); replace HO280 := Aside0.mk (Kd.R_below (by (with_reducible repeat (first | apply Kd.R_alloc | apply Kd.R_drewN | apply Kd.R_drew)); exact HO280.out) hb); replace BK263 := Aside0.mk (xB BK263 hb); replace BK264 := Aside0.mk (xB BK264 hb); replace BK265 := Aside0.mk (xB BK265 hb); replace BK275 := Aside0.mk (xB BK275 hb); replace HB := Aside0.mk (xS HB hb); clear hb hbox hg; have hcz49_0 := blkc4 BK283.out; obtain ⟨Ao50, co50, eo50⟩ := Kd.R_slice HO280.out; subst eo50; have hcz51_0 := blkc11 BK263.out; have hcz52_0 := blkc4 BK265.out) | (go_at_call 16; (with_reducible refine (gamehalllaw3_patternFault.calls k a0_0 a0_1 a0_2 _ _ l0_3 _ _ l0_4 a0_5 a0_6 _ _ l0_7 a0_8 a0_9 a0_10 a2_0 a2_1 _ _ l2_2 a2_3 t284 _ ?side1 ?side2 ?side3 ?side4 ?side5 ?side6 ?side7 ?side8 A21.out).mono ?_); (case side1 => exact Kd.C_below HR0_3.out (xW HB)); (case side2 => exact HC0_3.out); (case side3 => exact Kd.C_below HR0_4.out (xW HB)); (case side4 => exact HC0_4.out); (case side5 => exact Kd.C_below HR0_7.out (xW HB)); (case side6 => exact HC0_7.out); (case side7 => exact Kd.C_below HR2_2.out (xW HB)); (case side8 => exact HC2_2.out); rintro e w53 ⟨rfl, hb⟩; replace HO272 := Aside0.mk (Kd.R_below (by (with_reducible repeat (first | apply Kd.R_alloc | apply Kd.R_drewN | apply Kd.R_drew)); exact (Kd.R_mono (Kd.R_far (p := ⟨gb283, 3, none⟩) (Kd.R_far (p := ⟨gb283, 2, none⟩) (Kd.R_far (p := ⟨gb283, 1, none⟩) (Kd.R_far (p := ⟨gb283, 0, none⟩) (Kd.R_types HO272.out BK283.out (by decide)) (fun _ hk => hk.2) (.int .i64 t276)) (fun _ hk => hk.2) (.int .i64 t277)) (fun _ hk => hk.2) (.slice Ao50 t278.length co50)) (fun _ hk => hk.2) (.int .i64 t281)) (fun _ h_ => h_.1))) hb); replace HO280 := Aside0.mk (Kd.R_below (by (with_reducible repeat (first | apply Kd.R_alloc | apply Kd.R_drewN | apply Kd.R_drew)); exact (Kd.R_mono (Kd.R_far (p := ⟨gb283, 3, none⟩) (Kd.R_far (p := ⟨gb283, 2, none⟩) (Kd.R_far (p := ⟨gb283, 1, none⟩) (Kd.R_far (p := ⟨gb283, 0, none⟩) (Kd.R_types HO280.out BK283.out (by decide)) (fun _ hk => hk.2) (.int .i64 t276)) (fun _ hk => hk.2) (.int .i64 t277)) (fun _ hk => hk.2) (.slice Ao50 t278.length co50)) (fun _ hk => hk.2) (.int .i64 t281)) (fun _ h_ => h_.1))) hb); replace BK263 := Aside0.mk (xB BK263 hb); replace BK264 := Aside0.mk (xB BK264 hb); replace BK265 := Aside0.mk (xB BK265 hb); replace BK275 := Aside0.mk (xB BK275 hb); replace BK283 := Aside0.mk (xP (l' := [.int .i64 t276, .int .i64 t277, .slice Ao50 t278.length co50, .int .i64 t281]) BK283 hb); replace HB := Aside0.mk (xS HB hb); (try clear hb); (try clear hb2); (try clear hk); (try clear hi))); go_upto_if 47 with (first | ((with_reducible refine gate_dst (N := 6) rfl ?_); (try (refine gate_guard (by rfl) ?_; dsimp only)); refine box_event ?hg (N := 6) ?hd (cs := #[.string a0_0, .int .i64 a0_1, .int .i64 a0_2, .slice A0_3 l0_3.length c0_3, .slice A0_4 l0_4.length c0_4, .bool a0_5, .bool a0_6, .slice A0_7 l0_7.length c0_7, .int .i64 a0_8, .int .i64 a0_9, .int .i64 a0_10]) (t := 44) ?hr ?_; (case hd => rfl); (case hg => rfl); (case hr => first | (go_simp; done) | (go_simp; rfl)); intro gb263 hg w23 hbox hb; have BK263 := Aside0.mk (hbox); have GW263 := Aside0.mk (xZ HB hg); have GE263 := Aside0.mk (xZ HB hg); replace HB := Aside0.mk (xS HB hb); clear hb hbox hg) | ((with_reducible refine gate_dst (N := 7) rfl ?_); (try (refine gate_guard (by rfl) ?_; dsimp only)); refine box_event ?hg (N := 7) ?hd (cs := #[.slice A1_0 l1_0.length c1_0, .slice A1_1 l1_1.length c1_1, .slice A1_2 l1_2.length c1_2, .int .i64 a1_3, .int .i64 a1_4]) (t := 47) ?hr ?_; (case hd => rfl); (case hg => rfl); (case hr => first | (go_simp; done) | (go_simp; rfl)); intro gb264 hg w24 hbox hb; have BK264 := Aside0.mk (hbox); have GW264 := Aside0.mk (xZ HB hg); have GE264 := Aside0.mk (xZ HB hg); have NB263_264 := Aside0.mk (xN BK263 hg); have NB264_263 := Aside0.mk (xM BK263 hg); replace BK263 := Aside0.mk (xB BK263 hb); replace HB := Aside0.mk (xS HB hb); clear hb hbox hg) | ((with_reducible refine gate_dst (N := 8) rfl ?_); (try (refine gate_guard (by rfl) ?_; dsimp only)); refine box_event ?hg (N := 8) ?hd (cs := #[.int .i64 a2_0, .int .i64 a2_1, .slice A2_2 l2_2.length c2_2, .int .i64 a2_3]) (t := 49) ?hr ?_; (case hd => rfl); (case hg => rfl); (case hr => first | (go_simp; done) | (go_simp; rfl)); intro gb265 hg w25 hbox hb; have BK265 := Aside0.mk (hbox); have GW265 := Aside0.mk (xZ HB hg); have GE265 := Aside0.mk (xZ HB hg); have NB263_265 := Aside0.mk (xN BK263 hg); have NB265_263 := Aside0.mk (xM BK263 hg); have NB264_265 := Aside0.mk (xN BK264 hg); have NB265_264 := Aside0.mk (xM BK264 hg); replace BK263 := Aside0.mk (xB BK263 hb); replace BK264 := Aside0.mk (xB BK264 hb); replace HB := Aside0.mk (xS HB hb); clear hb hbox hg) | (go_at_call 12; (with_reducible refine (gamehalllaw3_patterns.calls k  true _ A7.out).mono ?_); rintro e w26 ⟨rfl, hb⟩; replace BK263 := Aside0.mk (xB BK263 hb); replace BK264 := Aside0.mk (xB BK264 hb); replace BK265 := Aside0.mk (xB BK265 hb); replace HB := Aside0.mk (xS HB hb); (try clear hb); (try clear hb2); (try clear hk); (try clear hi); have hcz29_0 := blkc11 BK263.out) | (go_at_call 13; (with_reducible refine (gamehalllaw3_great.calls a0_0 a0_1 a0_2 _ _ l0_3 _ _ l0_4 a0_5 a0_6 _ _ l0_7 a0_8 a0_9 a0_10 false _ ?side1 ?side2 ?side3 ?side4 ?side5 ?side6 A9.out).mono ?_); (case side1 => exact xC (Kd.C_below HR0_3.out HB.out)); (case side2 => exact HC0_3.out); (case side3 => exact xC (Kd.C_below HR0_4.out HB.out)); (case side4 => exact HC0_4.out); (case side5 => exact xC (Kd.C_below HR0_7.out HB.out)); (case side6 => exact HC0_7.out); rintro e w30 ⟨rfl, hb⟩; replace BK263 := Aside0.mk (xB BK263 hb); replace BK264 := Aside0.mk (xB BK264 hb); replace BK265 := Aside0.mk (xB BK265 hb); replace HB := Aside0.mk (xS HB hb); (try clear hb); (try clear hb2); (try clear hk); (try clear hi); have hcz31_0 := blkc11 BK263.out; have hcz33_0 := blkc5 BK264.out) | (go_at_call 14; (with_reducible refine (pattern_Cut.calls k a0_0 a0_1 a0_2 _ _ l0_3 _ _ l0_4 a0_5 a0_6 _ _ l0_7 a0_8 a0_9 a0_10 _ _ l1_0 _ _ l1_1 _ _ l1_2 a1_3 a1_4 a3 a4 a5 t268 t269 t270 t273 t274 _ ?side1 ?side2 ?side3 ?side4 ?side5 ?side6 ?side7 ?side8 ?side9 ?side10 ?side11 ?side12 A19.out).mono ?_); (case side1 => exact xC (Kd.C_below HR0_3.out HB.out)); (case side2 => exact HC0_3.out); (case side3 => exact xC (Kd.C_below HR0_4.out HB.out)); (case side4 => exact HC0_4.out); (case side5 => exact xC (Kd.C_below HR0_7.out HB.out)); (case side6 => exact HC0_7.out); (case side7 => exact xC (Kd.C_below HR1_0.out HB.out)); (case side8 => exact HC1_0.out); (case side9 => exact xC (Kd.C_below HR1_1.out HB.out)); (case side10 => exact HC1_1.out); (case side11 => exact xC (Kd.C_below HR1_2.out HB.out)); (case side12 => exact HC1_2.out); rintro e w34 ⟨v271, rfl, ho0, hb⟩; have HO272 := Aside0.mk (Kd.R_lower ho0 (below_size (xW HB))); replace BK263 := Aside0.mk (xB BK263 hb); replace BK264 := Aside0.mk (xB BK264 hb); replace BK265 := Aside0.mk (xB BK265 hb); replace HB := Aside0.mk (xS HB hb); (try clear hb); (try clear hb2); (try clear hk); (try clear hi); (try clear ho0)) | ((with_reducible refine gate_dst (N := 13) rfl ?_); (try (refine gate_guard (by rfl) ?_; dsimp only)); refine box_event ?hg (N := 13) ?hd (cs := #[.int .i64 0, .int .i64 0, .slice none 0 0, .int .i64 0]) (t := 49) ?hr ?_; (case hd => rfl); (case hg => rfl); (case hr => first | (go_simp; done) | (go_simp; rfl)); intro gb275 hg w35 hbox hb; have BK275 := Aside0.mk (hbox); have GW275 := Aside0.mk (xZ HB hg); have GE275 := Aside0.mk (xZ HB hg); have NB263_275 := Aside0.mk (xN BK263 hg); have NB275_263 := Aside0.mk (xM BK263 hg); have NB264_275 := Aside0.mk (xN BK264 hg); have NB275_264 := Aside0.mk (xM BK264 hg); have NB265_275 := Aside0.mk (xN BK265 hg); have NB275_265 := Aside0.mk (xM BK265 hg); replace HO272 := Aside0.mk (Kd.R_below (by (with_reducible repeat (first | apply Kd.R_alloc | apply Kd.R_drewN | apply Kd.R_drew)); exact HO272.out) hb); replace BK263 := Aside0.mk (xB BK263 hb); replace BK264 := Aside0.mk (xB BK264 hb); replace BK265 := Aside0.mk (xB BK265 hb); replace HB := Aside0.mk (xS HB hb); clear hb hbox hg; have hcz39_0 := blkc4 BK275.out; obtain ⟨Ao40, co40, eo40⟩ := Kd.R_slice HO272.out; subst eo40; have hcz41_0 := blkc11 BK263.out; have hcz42_0 := blkc4 BK265.out) | (go_at_call 15; (with_reducible refine (pattern_Mirror.calls k a0_0 a0_1 a0_2 _ _ l0_3 _ _ l0_4 a0_5 a0_6 _ _ l0_7 a0_8 a0_9 a0_10 a2_0 a2_1 _ _ l2_2 a2_3 t276 t277 t278 t281 t282 _ ?side1 ?side2 ?side3 ?side4 ?side5 ?side6 ?side7 ?side8 A20.out).mono ?_); (case side1 => exact Kd.C_below HR0_3.out (xW HB)); (case side2 => exact HC0_3.out); (case side3 => exact Kd.C_below HR0_4.out (xW HB)); (case side4 => exact HC0_4.out); (case side5 => exact Kd.C_below HR0_7.out (xW HB)); (case side6 => exact HC0_7.out); (case side7 => exact Kd.C_below HR2_2.out (xW HB)); (case side8 => exact HC2_2.out); rintro e w43 ⟨v279, rfl, ho0, hb⟩; have HO280 := Aside0.mk (Kd.R_lower (Kd.R_new' ho0 (Kd.R_lt (by (with_reducible repeat (first | apply Kd.R_alloc | apply Kd.R_drewN | apply Kd.R_drew)); exact (Kd.R_mono (Kd.R_far (p := ⟨gb275, 3, none⟩) (Kd.R_far (p := ⟨gb275, 2, none⟩) (Kd.R_far (p := ⟨gb275, 1, none⟩) (Kd.R_far (p := ⟨gb275, 0, none⟩) (Kd.R_types HO272.out BK275.out (by decide)) (fun _ hk => hk.2) (.int .i64 t268)) (fun _ hk => hk.2) (.int .i64 t269)) (fun _ hk => hk.2) (.slice Ao40 t270.length co40)) (fun _ hk => hk.2) (.int .i64 t273)) (fun _ h_ => h_.1))))) (below_size (xW HB))); replace HO272 := Aside0.mk (Kd.R_elder' (by (with_reducible repeat (first | apply Kd.R_alloc | apply Kd.R_drewN | apply Kd.R_drew)); exact (Kd.R_mono (Kd.R_far (p := ⟨gb275, 3, none⟩) (Kd.R_far (p := ⟨gb275, 2, none⟩) (Kd.R_far (p := ⟨gb275, 1, none⟩) (Kd.R_far (p := ⟨gb275, 0, none⟩) (Kd.R_types HO272.out BK275.out (by decide)) (fun _ hk => hk.2) (.int .i64 t268)) (fun _ hk => hk.2) (.int .i64 t269)) (fun _ hk => hk.2) (.slice Ao40 t270.length co40)) (fun _ hk => hk.2) (.int .i64 t273)) (fun _ h_ => h_.1))) (Kd.R_base ho0) hb); replace BK263 := Aside0.mk (xB BK263 hb); replace BK264 := Aside0.mk (xB BK264 hb); replace BK265 := Aside0.mk (xB BK265 hb); replace BK275 := Aside0.mk (xP (l' := [.int .i64 t268, .int .i64 t269, .slice Ao40 t270.length co40, .int .i64 t273]) BK275 hb); replace HB := Aside0.mk (xS HB hb); (try clear hb); (try clear hb2); (try clear hk); (try clear hi); (try clear ho0)) | ((with_reducible refine gate_dst (N := 15) rfl ?_); (try (refine gate_guard (by rfl) ?_; dsimp only)); refine box_event ?hg (N := 15) ?hd (cs := #[.int .i64 0, .int .i64 0, .slice none 0 0, .int .i64 0]) (t := 49) ?hr ?_; (case hd => rfl); (case hg => rfl); (case hr => first | (go_simp; done) | (go_simp; rfl)); intro gb283 hg w44 hbox hb; have BK283 := Aside0.mk (hbox); have GW283 := Aside0.mk (xZ HB hg); have GE283 := Aside0.mk (xZ HB hg); have NB263_283 := Aside0.mk (xN BK263 hg); have NB283_263 := Aside0.mk (xM BK263 hg); have NB264_283 := Aside0.mk (xN BK264 hg); have NB283_264 := Aside0.mk (xM BK264 hg); have NB265_283 := Aside0.mk (xN BK265 hg); have NB283_265 := Aside0.mk (xM BK265 hg); have NB275_283 := Aside0.mk (xN BK275 hg); have NB283_275 := Aside0.mk (xM BK275 hg); replace HO272 := Aside0.mk (Kd.R_below (by (with_reducible repeat (first | apply Kd.R_alloc | apply Kd.R_drewN | apply Kd.R_drew)); exact HO272.out) hb); replace HO280 := Aside0.mk (Kd.R_below (by (with_reducible repeat (first | apply Kd.R_alloc | apply Kd.R_drewN | apply Kd.R_drew)); exact HO280.out) hb); replace BK263 := Aside0.mk (xB BK263 hb); replace BK264 := Aside0.mk (xB BK264 hb); replace BK265 := Aside0.mk (xB BK265 hb); replace BK275 := Aside0.mk (xB BK275 hb); replace HB := Aside0.mk (xS HB hb); clear hb hbox hg; have hcz49_0 := blkc4 BK283.out; obtain ⟨Ao50, co50, eo50⟩ := Kd.R_slice HO280.out; subst eo50; have hcz51_0 := blkc11 BK263.out; have hcz52_0 := blkc4 BK265.out) | (go_at_call 16; (with_reducible refine (gamehalllaw3_patternFault.calls k a0_0 a0_1 a0_2 _ _ l0_3 _ _ l0_4 a0_5 a0_6 _ _ l0_7 a0_8 a0_9 a0_10 a2_0 a2_1 _ _ l2_2 a2_3 t284 _ ?side1 ?side2 ?side3 ?side4 ?side5 ?side6 ?side7 ?side8 A21.out).mono ?_); (case side1 => exact Kd.C_below HR0_3.out (xW HB)); (case side2 => exact HC0_3.out); (case side3 => exact Kd.C_below HR0_4.out (xW HB)); (case side4 => exact HC0_4.out); (case side5 => exact Kd.C_below HR0_7.out (xW HB)); (case side6 => exact HC0_7.out); (case side7 => exact Kd.C_below HR2_2.out (xW HB)); (case side8 => exact HC2_2.out); rintro e w53 ⟨rfl, hb⟩; replace HO272 := Aside0.mk (Kd.R_below (by (with_reducible repeat (first | apply Kd.R_alloc | apply Kd.R_drewN | apply Kd.R_drew)); exact (Kd.R_mono (Kd.R_far (p := ⟨gb283, 3, none⟩) (Kd.R_far (p := ⟨gb283, 2, none⟩) (Kd.R_far (p := ⟨gb283, 1, none⟩) (Kd.R_far (p := ⟨gb283, 0, none⟩) (Kd.R_types HO272.out BK283.out (by decide)) (fun _ hk => hk.2) (.int .i64 t276)) (fun _ hk => hk.2) (.int .i64 t277)) (fun _ hk => hk.2) (.slice Ao50 t278.length co50)) (fun _ hk => hk.2) (.int .i64 t281)) (fun _ h_ => h_.1))) hb); replace HO280 := Aside0.mk (Kd.R_below (by (with_reducible repeat (first | apply Kd.R_alloc | apply Kd.R_drewN | apply Kd.R_drew)); exact (Kd.R_mono (Kd.R_far (p := ⟨gb283, 3, none⟩) (Kd.R_far (p := ⟨gb283, 2, none⟩) (Kd.R_far (p := ⟨gb283, 1, none⟩) (Kd.R_far (p := ⟨gb283, 0, none⟩) (Kd.R_types HO280.out BK283.out (by decide)) (fun _ hk => hk.2) (.int .i64 t276)) (fun _ hk => hk.2) (.int .i64 t277)) (fun _ hk => hk.2) (.slice Ao50 t278.length co50)) (fun _ hk => hk.2) (.int .i64 t281)) (fun _ h_ => h_.1))) hb); replace BK263 := Aside0.mk (xB BK263 hb); replace BK264 := Aside0.mk (xB BK264 hb); replace BK265 := Aside0.mk (xB BK265 hb); replace BK275 := Aside0.mk (xB BK275 hb); replace BK283 := Aside0.mk (xP (l' := [.int .i64 t276, .int .i64 t277, .slice Ao50 t278.length co50, .int .i64 t281]) BK283 hb); replace HB := Aside0.mk (xS HB hb); (try clear hb); (try clear hb2); (try clear hk); (try clear hi))))
   (try have hq265_263 := xne8 NB265_263); (try have hq263_265 := xne8 NB263_265); (try have hq265_264 := xne8 NB265_264); (try have hq264_265 := xne8 NB264_265); (try have hq265_275 := xne8 NB265_275); (try have hq275_265 := xne8 NB275_265); (try have hq265_283 := xne8 NB265_283); (try have hq283_265 := xne8 NB283_265); (try have hq283_263 := xne8 NB283_263); (try have hq263_283 := xne8 NB263_283); (try have hq283_264 := xne8 NB283_264); (try have hq264_283 := xne8 NB264_283); (try have hq283_275 := xne8 NB283_275); (try have hq275_283 := xne8 NB275_283); (try have hq263_264 := xne8 NB263_264); (try have hq264_263 := xne8 NB264_263); (try have hq263_275 := xne8 NB263_275); (try have hq275_263 := xne8 NB275_263); (try have hq264_275 := xne8 NB264_275); (try have hq275_264 := xne8 NB275_264)
   (try simp only [Act.put, List.setIfInBounds_toArray, List.set_cons_zero, List.set_cons_succ])
   go_cut [] (fun wc => ∃ (kq : Nat), Aside0 (gamehalllaw3_PatternCuts.j1 kq a3 a4 a5 t274 a0_0 a0_1 a0_2 l0_3 l0_4 a0_5 a0_6 l0_7 a0_8 a0_9 a0_10 l1_0 l1_1 l1_2 a1_3 a1_4 t268 t269 t270 t273 = some r) ∧ Aside0 (kq ≤ k) ∧ Aside0 (Kd.R (Kd.int .i64) 3 wc w.heap.size (fun k_ => some k_ ≠ ((.slice Ao50 t278.length co50) : Value).ownBlock) (.slice Ao40 t270.length co40) t270) ∧ Aside0 (Kd.R (Kd.int .i64) 3 wc w.heap.size (fun k_ => some k_ ≠ ((.slice Ao40 t270.length co40) : Value).ownBlock) (.slice Ao50 t278.length co50) t278) ∧ Aside0 (wc.heap[gb263]? = some (.cells #[.string a0_0, .int .i64 a0_1, .int .i64 a0_2, (.slice A0_3 l0_3.length c0_3), (.slice A0_4 l0_4.length c0_4), .bool a0_5, .bool a0_6, (.slice A0_7 l0_7.length c0_7), .int .i64 a0_8, .int .i64 a0_9, .int .i64 a0_10] 44 (0, 0))) ∧ Aside0 (wc.heap[gb264]? = some (.cells #[(.slice A1_0 l1_0.length c1_0), (.slice A1_1 l1_1.length c1_1), (.slice A1_2 l1_2.length c1_2), .int .i64 a1_3, .int .i64 a1_4] 47 (0, 0))) ∧ Aside0 (wc.heap[gb265]? = some (.cells #[.int .i64 a2_0, .int .i64 a2_1, (.slice A2_2 l2_2.length c2_2), .int .i64 a2_3] 49 (0, 0))) ∧ Aside0 (wc.heap[gb275]? = some (.cells #[.int .i64 t268, .int .i64 t269, (.slice Ao40 t270.length co40), .int .i64 t273] 49 (0, 0))) ∧ Aside0 (wc.heap[gb283]? = some (.cells #[.int .i64 t276, .int .i64 t277, (.slice Ao50 t278.length co50), .int .i64 t281] 49 (0, 0))) ∧ Aside0 (Below w.heap.size w wc))
   case first =>
    refine box_ ?g1;letI i:type_of% ?g1:=⟨by
    have H := HC22.out; clear HC22
    by_cases c54 : t284 = 0
    ·refine box_ ?g2;letI i:type_of% ?g2:=⟨by
     rw [if_pos c54] at H
     have c54b0 : (t284 == 0) = true := beq_iff_eq.mpr c54
     have c54b1 : (t284 != 0) = false := bne_eq_false_iff_eq.mpr c54
     clear c54
     (first | rw [c54b0] | (simp only [i64_w, i32_w]; rw [c54b0]) | skip)
     have H' := Aside0.mk H
     clear H; have hcz59_0 := blkc4 BK265.out
     go_wp2
     repeat (go_quiet (fail); try go_wp2)
     go_loopg [60] k (fun kq vs60 w' => ∃ (x60_1 : Int), vs60 = .int .i64 x60_1 ∧ Aside0 (gamehalllaw3_PatternCuts.l0 kq a3 a4 a5 t274 t282 (l2_2.length : Int) x60_1 a0_0 a0_1 a0_2 l0_3 l0_4 a0_5 a0_6 l0_7 a0_8 a0_9 a0_10 l1_0 l1_1 l1_2 a1_3 a1_4 a2_0 a2_1 l2_2 a2_3 t268 t269 t270 t273 t276 t277 t278 t281 = some r) ∧ Aside0 (kq ≤ k) ∧ Aside0 (Kd.R (Kd.int .i64) 3 w' w.heap.size (fun k_ => some k_ ≠ ((.slice Ao50 t278.length co50) : Value).ownBlock) (.slice Ao40 t270.length co40) t270) ∧ Aside0 (Kd.R (Kd.int .i64) 3 w' w.heap.size (fun k_ => some k_ ≠ ((.slice Ao40 t270.length co40) : Value).ownBlock) (.slice Ao50 t278.length co50) t278) ∧ Aside0 (w'.heap[gb263]? = some (.cells #[.string a0_0, .int .i64 a0_1, .int .i64 a0_2, (.slice A0_3 l0_3.length c0_3), (.slice A0_4 l0_4.length c0_4), .bool a0_5, .bool a0_6, (.slice A0_7 l0_7.length c0_7), .int .i64 a0_8, .int .i64 a0_9, .int .i64 a0_10] 44 (0, 0))) ∧ Aside0 (w'.heap[gb264]? = some (.cells #[(.slice A1_0 l1_0.length c1_0), (.slice A1_1 l1_1.length c1_1), (.slice A1_2 l1_2.length c1_2), .int .i64 a1_3, .int .i64 a1_4] 47 (0, 0))) ∧ Aside0 (w'.heap[gb265]? = some (.cells #[.int .i64 a2_0, .int .i64 a2_1, (.slice A2_2 l2_2.length c2_2), .int .i64 a2_3] 49 (0, 0))) ∧ Aside0 (w'.heap[gb275]? = some (.cells #[.int .i64 t268, .int .i64 t269, (.slice Ao40 t270.length co40), .int .i64 t273] 49 (0, 0))) ∧ Aside0 (w'.heap[gb283]? = some (.cells #[.int .i64 t276, .int .i64 t277, (.slice Ao50 t278.length co50), .int .i64 t281] 49 (0, 0))) ∧ Aside0 (Below w.heap.size w w'))
     case atStart => exact ⟨(0), (xrf), H', ⟨Nat.le_refl _⟩, ⟨by (with_reducible repeat (first | apply Kd.R_alloc | apply Kd.R_drewN | apply Kd.R_drew)); exact Kd.R_mono HO272.out (fun _ hk => hk.2)⟩, ⟨by (with_reducible repeat (first | apply Kd.R_alloc | apply Kd.R_drewN | apply Kd.R_drew)); exact Kd.R_mono HO280.out (fun _ hk => hk.2)⟩, ⟨xK BK263⟩, ⟨xK BK264⟩, ⟨xK BK265⟩, ⟨xK BK275⟩, ⟨xK BK283⟩, ⟨xW HB⟩⟩
     case round =>
      clear H'; (try clear p2)
      obtain ⟨x60_1, rfl, HA, HK1, HO_276002, HO_284002, BK263, BK264, BK265, BK275, BK283, HB⟩ := hrel
      cases gk with
      | zero => exact absurd HA.out (by simp [gamehalllaw3_PatternCuts.l0])
      | succ k1 =>
       have H := HA.out; clear HA
       simp only [gamehalllaw3_PatternCuts.l0] at H
       by_cases c60 : x60_1 < (l2_2.length : Int)
       ·refine box_ ?g3;letI i:type_of% ?g3:=⟨by
        rw [if_pos c60] at H
        have c60b0 : decide (x60_1 < (l2_2.length : Int)) = true := decide_eq_true c60
        clear c60
        by_cases c61 : a2_0 = 0
        ·rw [if_pos c61] at H
         exact absurd H (by simp)
        ·refine box_ ?g4;letI i:type_of% ?g4:=⟨by
         rw [if_neg c61] at H
         have c61b0 : (a2_0 == 0) = false := beq_eq_false_iff_ne.mpr c61
         have c61b1 : (a2_0 != 0) = true := bne_iff_ne.mpr c61
         by_cases c62 : t282 = 0
         ·refine box_ ?g5;letI i:type_of% ?g5:=⟨by
          rw [if_pos c62] at H
          have c62b0 : (t282 == 0) = true := beq_iff_eq.mpr c62
          have c62b1 : (t282 != 0) = false := bne_eq_false_iff_eq.mpr c62
          clear c62
          by_cases c63 : (t278.length : Int) = (l2_2.length : Int)
          ·refine box_ ?g6;letI i:type_of% ?g6:=⟨by
           rw [if_pos c63] at H
           have c63b0 : ((t278.length : Int) == (l2_2.length : Int)) = true := beq_iff_eq.mpr c63
           have c63b1 : ((t278.length : Int) != (l2_2.length : Int)) = false := bne_eq_false_iff_eq.mpr c63
           have c63b2 : (t278.length == l2_2.length) = true := by first | simpa using c63 | (simp at c63 ⊢; omega)
           clear c63
           obtain ⟨ji64, hji64⟩ : ∃ j_ : Int, (wrap64 ((wrap64 ((wrap64 ((wrap64 ((wrap64 (Int.tdiv x60_1 a2_0)) * a2_0)) + a2_0)) - 1)) - (Int.tmod x60_1 a2_0))) = j_ := ⟨_, rfl⟩
           (first | rw [hji64] at H | simp only [hji64] at H)
           have hji64w : (IntKind.i64.wrap ((wrap64 ((wrap64 ((wrap64 ((wrap64 (Int.tdiv x60_1 a2_0)) * a2_0)) + a2_0)) - 1)) - (Int.tmod x60_1 a2_0))) = ji64 := (i64_w _).trans hji64
           by_cases c65 : 0 ≤ (ji64)
           ·refine box_ ?g7;letI i:type_of% ?g7:=⟨by
            rw [if_pos c65] at H
            have c65b0 : decide (0 ≤ (ji64)) = true := decide_eq_true c65
            clear c65
            by_cases c66 : (ji64) < (t278.length : Int)
            ·refine box_ ?g8;letI i:type_of% ?g8:=⟨by
             rw [if_pos c66] at H
             have c66b0 : decide ((ji64) < (t278.length : Int)) = true := decide_eq_true c66
             clear c66
             by_cases c67 : 0 ≤ x60_1
             ·refine box_ ?g9;letI i:type_of% ?g9:=⟨by
              rw [if_pos c67] at H
              have c67b0 : decide (0 ≤ x60_1) = true := decide_eq_true c67
              clear c67
              by_cases c68 : x60_1 < (l2_2.length : Int)
              ·refine box_ ?g10;letI i:type_of% ?g10:=⟨by
               rw [if_pos c68] at H
               have c68b0 : decide (x60_1 < (l2_2.length : Int)) = true := decide_eq_true c68
               clear c68
               by_cases c69 : (rd t278 (ji64)) = (rd l2_2 x60_1)
               ·refine box_ ?g11;letI i:type_of% ?g11:=⟨by
                rw [if_pos c69] at H
                have c69b0 : ((rd t278 (ji64)) == (rd l2_2 x60_1)) = true := beq_iff_eq.mpr c69
                have c69b1 : ((rd t278 (ji64)) != (rd l2_2 x60_1)) = false := bne_eq_false_iff_eq.mpr c69
                clear c69
                by_cases c70 : t281 = a2_3
                ·refine box_ ?g12;letI i:type_of% ?g12:=⟨by
                 rw [if_pos c70] at H
                 have c70b0 : (t281 == a2_3) = true := beq_iff_eq.mpr c70
                 have c70b1 : (t281 != a2_3) = false := bne_eq_false_iff_eq.mpr c70
                 clear c70
                 by_cases c71 : t276 = a2_0
                 ·refine box_ ?g13;letI i:type_of% ?g13:=⟨by
                  rw [if_pos c71] at H
                  have c71b0 : (t276 == a2_0) = true := beq_iff_eq.mpr c71
                  have c71b1 : (t276 != a2_0) = false := bne_eq_false_iff_eq.mpr c71
                  clear c71
                  by_cases c72 : t277 = a2_1
                  ·rw [if_pos c72] at H
                   have c72b0 : (t277 == a2_1) = true := beq_iff_eq.mpr c72
                   have c72b1 : (t277 != a2_1) = false := bne_eq_false_iff_eq.mpr c72
                   clear c72
                   have H' := Aside0.mk H
                   clear H; have hcz77_0 := blkc4 BK265.out; have hcz81_0 := blkc4 BK283.out
                   have p285 : 0 ≤ ((ji64) : Int) := of_decide_eq_true (by first | (with_reducible assumption) | assumption)
                   have q285 : (ji64) < (t278.length : Int) := of_decide_eq_true (by first | (with_reducible assumption) | assumption)
                   obtain ⟨ad285, e285, hx285_0⟩ := Kd.at_int (Kd.R_reads' HO_284002.out).2.2 (ji64) p285 q285
                   cases e285
                   replace p285 := eq_true p285; replace q285 := eq_true q285
                   have p286 : 0 ≤ (x60_1 : Int) := of_decide_eq_true (by first | (with_reducible assumption) | assumption)
                   have q286 : x60_1 < (l2_2.length : Int) := of_decide_eq_true (by first | (with_reducible assumption) | assumption)
                   obtain ⟨ad286, e286, hx286_0⟩ := Kd.at_int HR2_2.out x60_1 p286 q286
                   cases e286
                   replace hx286_0 := (HB.out.cell (World.block_lt_of_cell? w _ hx286_0)).trans hx286_0; replace p286 := eq_true p286; replace q286 := eq_true q286
                   go_wp2
                   repeat (go_quiet (fail); try go_wp2)
                   (first | go_roundg k1 | (simp only [← hji64]; go_roundg k1))
                   case measure => have := HK1.out; omega
                   case rel => exact ⟨(wrap64 (x60_1 + 1)), (xrf), H', ⟨by have := HK1.out; omega⟩, ⟨by (with_reducible repeat (first | apply Kd.R_alloc | apply Kd.R_drewN | apply Kd.R_drew)); exact HO_276002.out⟩, ⟨by (with_reducible repeat (first | apply Kd.R_alloc | apply Kd.R_drewN | apply Kd.R_drew)); exact HO_284002.out⟩, ⟨xK BK263⟩, ⟨xK BK264⟩, ⟨xK BK265⟩, ⟨xK BK275⟩, ⟨xK BK283⟩, ⟨xW HB⟩⟩
                  ·rw [if_neg c72] at H
                   have c72b0 : (t277 == a2_1) = false := beq_eq_false_iff_ne.mpr c72
                   have c72b1 : (t277 != a2_1) = true := bne_iff_ne.mpr c72
                   obtain rfl := Option.some.inj H
                   have hcz86_0 := blkc4 BK265.out; have hcz90_0 := blkc4 BK283.out
                   have p285 : 0 ≤ ((ji64) : Int) := of_decide_eq_true (by first | (with_reducible assumption) | assumption)
                   have q285 : (ji64) < (t278.length : Int) := of_decide_eq_true (by first | (with_reducible assumption) | assumption)
                   obtain ⟨ad285, e285, hx285_0⟩ := Kd.at_int (Kd.R_reads' HO_284002.out).2.2 (ji64) p285 q285
                   cases e285
                   replace p285 := eq_true p285; replace q285 := eq_true q285
                   have p286 : 0 ≤ (x60_1 : Int) := of_decide_eq_true (by first | (with_reducible assumption) | assumption)
                   have q286 : x60_1 < (l2_2.length : Int) := of_decide_eq_true (by first | (with_reducible assumption) | assumption)
                   obtain ⟨ad286, e286, hx286_0⟩ := Kd.at_int HR2_2.out x60_1 p286 q286
                   cases e286
                   replace hx286_0 := (HB.out.cell (World.block_lt_of_cell? w _ hx286_0)).trans hx286_0; replace p286 := eq_true p286; replace q286 := eq_true q286
                   go_wp2
                   repeat (go_quiet (fail); try go_wp2)
                   go_ret
                   exact ⟨by first | rfl | (simp [errW_none, errW_some] <;> rfl) | (simp only [← hji64]; first | rfl | (simp [errW_none, errW_some] <;> rfl)) | (simp [*, errW_none, errW_some] <;> rfl), xW HB⟩⟩
                  exact inferInstanceAs _
                 ·rw [if_neg c71] at H
                  have c71b0 : (t276 == a2_0) = false := beq_eq_false_iff_ne.mpr c71
                  have c71b1 : (t276 != a2_0) = true := bne_iff_ne.mpr c71
                  obtain rfl := Option.some.inj H
                  have hcz95_0 := blkc4 BK265.out; have hcz99_0 := blkc4 BK283.out
                  have p285 : 0 ≤ ((ji64) : Int) := of_decide_eq_true (by first | (with_reducible assumption) | assumption)
                  have q285 : (ji64) < (t278.length : Int) := of_decide_eq_true (by first | (with_reducible assumption) | assumption)
                  obtain ⟨ad285, e285, hx285_0⟩ := Kd.at_int (Kd.R_reads' HO_284002.out).2.2 (ji64) p285 q285
                  cases e285
                  replace p285 := eq_true p285; replace q285 := eq_true q285
                  have p286 : 0 ≤ (x60_1 : Int) := of_decide_eq_true (by first | (with_reducible assumption) | assumption)
                  have q286 : x60_1 < (l2_2.length : Int) := of_decide_eq_true (by first | (with_reducible assumption) | assumption)
                  obtain ⟨ad286, e286, hx286_0⟩ := Kd.at_int HR2_2.out x60_1 p286 q286
                  cases e286
                  replace hx286_0 := (HB.out.cell (World.block_lt_of_cell? w _ hx286_0)).trans hx286_0; replace p286 := eq_true p286; replace q286 := eq_true q286
                  go_wp2
                  repeat (go_quiet (fail); try go_wp2)
                  go_ret
                  exact ⟨by first | rfl | (simp [errW_none, errW_some] <;> rfl) | (simp only [← hji64]; first | rfl | (simp [errW_none, errW_some] <;> rfl)) | (simp [*, errW_none, errW_some] <;> rfl), xW HB⟩⟩
                 exact inferInstanceAs _
                ·rw [if_neg c70] at H
                 have c70b0 : (t281 == a2_3) = false := beq_eq_false_iff_ne.mpr c70
                 have c70b1 : (t281 != a2_3) = true := bne_iff_ne.mpr c70
                 obtain rfl := Option.some.inj H
                 have hcz104_0 := blkc4 BK265.out; have hcz108_0 := blkc4 BK283.out
                 have p285 : 0 ≤ ((ji64) : Int) := of_decide_eq_true (by first | (with_reducible assumption) | assumption)
                 have q285 : (ji64) < (t278.length : Int) := of_decide_eq_true (by first | (with_reducible assumption) | assumption)
                 obtain ⟨ad285, e285, hx285_0⟩ := Kd.at_int (Kd.R_reads' HO_284002.out).2.2 (ji64) p285 q285
                 cases e285
                 replace p285 := eq_true p285; replace q285 := eq_true q285
                 have p286 : 0 ≤ (x60_1 : Int) := of_decide_eq_true (by first | (with_reducible assumption) | assumption)
                 have q286 : x60_1 < (l2_2.length : Int) := of_decide_eq_true (by first | (with_reducible assumption) | assumption)
                 obtain ⟨ad286, e286, hx286_0⟩ := Kd.at_int HR2_2.out x60_1 p286 q286
                 cases e286
                 replace hx286_0 := (HB.out.cell (World.block_lt_of_cell? w _ hx286_0)).trans hx286_0; replace p286 := eq_true p286; replace q286 := eq_true q286
                 go_wp2
                 repeat (go_quiet (fail); try go_wp2)
                 go_ret
                 exact ⟨by first | rfl | (simp [errW_none, errW_some] <;> rfl) | (simp only [← hji64]; first | rfl | (simp [errW_none, errW_some] <;> rfl)) | (simp [*, errW_none, errW_some] <;> rfl), xW HB⟩⟩
                exact inferInstanceAs _
               ·rw [if_neg c69] at H
                have c69b0 : ((rd t278 (ji64)) == (rd l2_2 x60_1)) = false := beq_eq_false_iff_ne.mpr c69
                have c69b1 : ((rd t278 (ji64)) != (rd l2_2 x60_1)) = true := bne_iff_ne.mpr c69
                obtain rfl := Option.some.inj H
                have hcz113_0 := blkc4 BK265.out; have hcz117_0 := blkc4 BK283.out
                have p285 : 0 ≤ ((ji64) : Int) := of_decide_eq_true (by first | (with_reducible assumption) | assumption)
                have q285 : (ji64) < (t278.length : Int) := of_decide_eq_true (by first | (with_reducible assumption) | assumption)
                obtain ⟨ad285, e285, hx285_0⟩ := Kd.at_int (Kd.R_reads' HO_284002.out).2.2 (ji64) p285 q285
                cases e285
                replace p285 := eq_true p285; replace q285 := eq_true q285
                have p286 : 0 ≤ (x60_1 : Int) := of_decide_eq_true (by first | (with_reducible assumption) | assumption)
                have q286 : x60_1 < (l2_2.length : Int) := of_decide_eq_true (by first | (with_reducible assumption) | assumption)
                obtain ⟨ad286, e286, hx286_0⟩ := Kd.at_int HR2_2.out x60_1 p286 q286
                cases e286
                replace hx286_0 := (HB.out.cell (World.block_lt_of_cell? w _ hx286_0)).trans hx286_0; replace p286 := eq_true p286; replace q286 := eq_true q286
                go_wp2
                repeat (go_quiet (fail); try go_wp2)
                go_ret
                exact ⟨by first | rfl | (simp [errW_none, errW_some] <;> rfl) | (simp only [← hji64]; first | rfl | (simp [errW_none, errW_some] <;> rfl)) | (simp [*, errW_none, errW_some] <;> rfl), xW HB⟩⟩
               exact inferInstanceAs _
              ·rw [if_neg c68] at H
               exact absurd H (by simp)⟩
              exact inferInstanceAs _
             ·rw [if_neg c67] at H
              exact absurd H (by simp)⟩
             exact inferInstanceAs _
            ·rw [if_neg c66] at H
             exact absurd H (by simp)⟩
            exact inferInstanceAs _
           ·rw [if_neg c65] at H
            exact absurd H (by simp)⟩
           exact inferInstanceAs _
          ·rw [if_neg c63] at H
           have c63b0 : ((t278.length : Int) == (l2_2.length : Int)) = false := beq_eq_false_iff_ne.mpr c63
           have c63b1 : ((t278.length : Int) != (l2_2.length : Int)) = true := bne_iff_ne.mpr c63
           have c63b2 : (t278.length == l2_2.length) = false := by first | simpa using c63 | (simp at c63 ⊢; omega)
           obtain rfl := Option.some.inj H
           have hcz122_0 := blkc4 BK265.out; have hcz126_0 := blkc4 BK283.out
           go_wp2
           repeat (go_quiet (fail); try go_wp2)
           go_ret
           exact ⟨xer, xW HB⟩⟩
          exact inferInstanceAs _
         ·rw [if_neg c62] at H
          have c62b0 : (t282 == 0) = false := beq_eq_false_iff_ne.mpr c62
          have c62b1 : (t282 != 0) = true := bne_iff_ne.mpr c62
          obtain rfl := Option.some.inj H
          have hcz131_0 := blkc4 BK265.out
          go_wp2
          repeat (go_quiet (fail); try go_wp2)
          go_ret
          exact ⟨xer, xW HB⟩⟩
         exact inferInstanceAs _⟩
        exact inferInstanceAs _
       ·rw [if_neg c60] at H
        have c60b0 : decide (x60_1 < (l2_2.length : Int)) = false := decide_eq_false c60
        clear c60
        have H' := Aside0.mk H
        clear H
        go_wp2
        repeat (go_quiet (fail); try go_wp2)
        go_meet
        case rel => exact ⟨_, H', ⟨by have := HK1.out; first | omega | exact Nat.le_refl _⟩, ⟨by (with_reducible repeat (first | apply Kd.R_alloc | apply Kd.R_drewN | apply Kd.R_drew)); exact HO_276002.out⟩, ⟨by (with_reducible repeat (first | apply Kd.R_alloc | apply Kd.R_drewN | apply Kd.R_drew)); exact HO_284002.out⟩, ⟨xK BK263⟩, ⟨xK BK264⟩, ⟨xK BK265⟩, ⟨xK BK275⟩, ⟨xK BK283⟩, ⟨xW HB⟩⟩⟩
     exact inferInstanceAs _
    ·refine box_ ?g14;letI i:type_of% ?g14:=⟨by
     rw [if_neg c54] at H
     have c54b0 : (t284 == 0) = false := beq_eq_false_iff_ne.mpr c54
     have c54b1 : (t284 != 0) = true := bne_iff_ne.mpr c54
     (first | rw [c54b0] | (simp only [i64_w, i32_w]; rw [c54b0]) | skip)
     by_cases c132 : t282 = t284
     ·refine box_ ?g15;letI i:type_of% ?g15:=⟨by
      rw [if_pos c132] at H
      have c132b0 : (t282 == t284) = true := beq_iff_eq.mpr c132
      have c132b1 : (t282 != t284) = false := bne_eq_false_iff_eq.mpr c132
      clear c132
      by_cases c133 : (t278.length : Int) > 0
      ·rw [if_pos c133] at H
       have c133b0 : decide (0 < (t278.length : Int)) = true := decide_eq_true c133
       have c133b1 : decide (0 < t278.length) = true := decide_eq_true (by omega)
       clear c133
       obtain rfl := Option.some.inj H
       have hcz138_0 := blkc4 BK283.out
       go_wp2
       repeat (go_quiet (fail); try go_wp2)
       go_ret
       exact ⟨xer, xW HB⟩
      ·rw [if_neg c133] at H
       have c133b0 : decide (0 < (t278.length : Int)) = false := decide_eq_false c133
       have c133b1 : decide (0 < t278.length) = false := decide_eq_false (by omega)
       clear c133
       have H' := Aside0.mk H
       clear H; have hcz143_0 := blkc4 BK283.out
       go_wp2
       repeat (go_quiet (fail); try go_wp2)
       go_meet
       case rel => exact ⟨_, H', ⟨by first | omega | exact Nat.le_refl _⟩, ⟨by (with_reducible repeat (first | apply Kd.R_alloc | apply Kd.R_drewN | apply Kd.R_drew)); exact Kd.R_mono HO272.out (fun _ hk => hk.2)⟩, ⟨by (with_reducible repeat (first | apply Kd.R_alloc | apply Kd.R_drewN | apply Kd.R_drew)); exact Kd.R_mono HO280.out (fun _ hk => hk.2)⟩, ⟨xK BK263⟩, ⟨xK BK264⟩, ⟨xK BK265⟩, ⟨xK BK275⟩, ⟨xK BK283⟩, ⟨xW HB⟩⟩⟩
      exact inferInstanceAs _
     ·rw [if_neg c132] at H
      have c132b0 : (t282 == t284) = false := beq_eq_false_iff_ne.mpr c132
      have c132b1 : (t282 != t284) = true := bne_iff_ne.mpr c132
      obtain rfl := Option.some.inj H
      go_wp2
      repeat (go_quiet (fail); try go_wp2)
      go_ret
      exact ⟨xer, xW HB⟩⟩
     exact inferInstanceAs _⟩
    exact inferInstanceAs _
   case rest =>
    refine box_ ?g16;letI i:type_of% ?g16:=⟨by
    clear HC22; (try clear p2); (try clear q2); (try clear hx2); (try clear p6); (try clear p28); (try clear q28); (try clear hx28); (try clear p64); (try clear hx285_0); (try clear hx286_0); (try clear p2); (try clear p285); (try clear p286); (try clear q285); (try clear q286)
    obtain ⟨kq, HA, HJ21, HO_276002, HO_284002, BK263, BK264, BK265, BK275, BK283, HB⟩ := hcut
    cases kq with
    | zero => exact absurd HA.out (by simp [gamehalllaw3_PatternCuts.j1])
    | succ kj21 =>
     have H := HA.out; clear HA
     simp only [gamehalllaw3_PatternCuts.j1] at H
     replace H := Option.bind_eq_some_iff.mp H
     obtain ⟨t287, A1440, H⟩ := H
     try dsimp only at H
     have A144 := Aside0.mk A1440; clear A1440
     by_cases c145 : t287 = 0
     ·refine box_ ?g17;letI i:type_of% ?g17:=⟨by
      rw [if_pos c145] at H
      have c145b0 : (t287 == 0) = true := beq_iff_eq.mpr c145
      have c145b1 : (t287 != 0) = false := bne_eq_false_iff_eq.mpr c145
      clear c145; have HC146 := Aside0.mk H; clear H; have hcz151_0 := blkc11 BK263.out; have hcz155_0 := blkc5 BK264.out
      go_upto_region 21 with (first | (go_at_call 17; (with_reducible refine (place_Check.calls kj21 a0_0 a0_1 a0_2 _ _ l0_3 _ _ l0_4 a0_5 a0_6 _ _ l0_7 a0_8 a0_9 a0_10 _ _ l1_0 _ _ l1_1 _ _ l1_2 a1_3 a1_4 t287 _ ?side1 ?side2 ?side3 ?side4 ?side5 ?side6 ?side7 ?side8 ?side9 ?side10 ?side11 ?side12 A144.out).mono ?_); (case side1 => exact xC (Kd.C_below HR0_3.out HB.out)); (case side2 => exact HC0_3.out); (case side3 => exact xC (Kd.C_below HR0_4.out HB.out)); (case side4 => exact HC0_4.out); (case side5 => exact xC (Kd.C_below HR0_7.out HB.out)); (case side6 => exact HC0_7.out); (case side7 => exact xC (Kd.C_below HR1_0.out HB.out)); (case side8 => exact HC1_0.out); (case side9 => exact xC (Kd.C_below HR1_1.out HB.out)); (case side10 => exact HC1_1.out); (case side11 => exact xC (Kd.C_below HR1_2.out HB.out)); (case side12 => exact HC1_2.out); rintro e w156 ⟨rfl, hb⟩; replace HO_276002 := Aside0.mk (Kd.R_below (by (with_reducible repeat (first | apply Kd.R_alloc | apply Kd.R_drewN | apply Kd.R_drew)); exact HO_276002.out) hb); replace HO_284002 := Aside0.mk (Kd.R_below (by (with_reducible repeat (first | apply Kd.R_alloc | apply Kd.R_drewN | apply Kd.R_drew)); exact HO_284002.out) hb); replace BK263 := Aside0.mk (xB BK263 hb); replace BK264 := Aside0.mk (xB BK264 hb); replace BK265 := Aside0.mk (xB BK265 hb); replace BK275 := Aside0.mk (xB BK275 hb); replace BK283 := Aside0.mk (xB BK283 hb); replace HB := Aside0.mk (xS HB hb); (try clear hb); (try clear hb2); (try clear hk); (try clear hi)))
      repeat (go_quiet (first | (go_at_call 17; (with_reducible refine (place_Check.calls kj21 a0_0 a0_1 a0_2 _ _ l0_3 _ _ l0_4 a0_5 a0_6 _ _ l0_7 a0_8 a0_9 a0_10 _ _ l1_0 _ _ l1_1 _ _ l1_2 a1_3 a1_4 t287 _ ?side1 ?side2 ?side3 ?side4 ?side5 ?side6 ?side7 ?side8 ?side9 ?side10 ?side11 ?side12 A144.out).mono ?_); (case side1 => exact xC (Kd.C_below HR0_3.out HB.out)); (case side2 => exact HC0_3.out); (case side3 => exact xC (Kd.C_below HR0_4.out HB.out)); (case side4 => exact HC0_4.out); (case side5 => exact xC (Kd.C_below HR0_7.out HB.out)); (case side6 => exact HC0_7.out); (case side7 => exact xC (Kd.C_below HR1_0.out HB.out)); (case side8 => exact HC1_0.out); (case side9 => exact xC (Kd.C_below HR1_1.out HB.out)); (case side10 => exact HC1_1.out); (case side11 => exact xC (Kd.C_below HR1_2.out HB.out)); (case side12 => exact HC1_2.out); rintro e w156 ⟨rfl, hb⟩; replace HO_276002 := Aside0.mk (Kd.R_below (by (with_reducible repeat (first | apply Kd.R_alloc | apply Kd.R_drewN | apply Kd.R_drew)); exact HO_276002.out) hb); replace HO_284002 := Aside0.mk (Kd.R_below (by (with_reducible repeat (first | apply Kd.R_alloc | apply Kd.R_drewN | apply Kd.R_drew)); exact HO_284002.out) hb); replace BK263 := Aside0.mk (xB BK263 hb); replace BK264 := Aside0.mk (xB BK264 hb); replace BK265 := Aside0.mk (xB BK265 hb); replace BK275 := Aside0.mk (xB BK275 hb); replace BK283 := Aside0.mk (xB BK283 hb); replace HB := Aside0.mk (xS HB hb); (try clear hb); (try clear hb2); (try clear hk); (try clear hi))); go_upto_region 21 with (first | (go_at_call 17; (with_reducible refine (place_Check.calls kj21 a0_0 a0_1 a0_2 _ _ l0_3 _ _ l0_4 a0_5 a0_6 _ _ l0_7 a0_8 a0_9 a0_10 _ _ l1_0 _ _ l1_1 _ _ l1_2 a1_3 a1_4 t287 _ ?side1 ?side2 ?side3 ?side4 ?side5 ?side6 ?side7 ?side8 ?side9 ?side10 ?side11 ?side12 A144.out).mono ?_); (case side1 => exact xC (Kd.C_below HR0_3.out HB.out)); (case side2 => exact HC0_3.out); (case side3 => exact xC (Kd.C_below HR0_4.out HB.out)); (case side4 => exact HC0_4.out); (case side5 => exact xC (Kd.C_below HR0_7.out HB.out)); (case side6 => exact HC0_7.out); (case side7 => exact xC (Kd.C_below HR1_0.out HB.out)); (case side8 => exact HC1_0.out); (case side9 => exact xC (Kd.C_below HR1_1.out HB.out)); (case side10 => exact HC1_1.out); (case side11 => exact xC (Kd.C_below HR1_2.out HB.out)); (case side12 => exact HC1_2.out); rintro e w156 ⟨rfl, hb⟩; replace HO_276002 := Aside0.mk (Kd.R_below (by (with_reducible repeat (first | apply Kd.R_alloc | apply Kd.R_drewN | apply Kd.R_drew)); exact HO_276002.out) hb); replace HO_284002 := Aside0.mk (Kd.R_below (by (with_reducible repeat (first | apply Kd.R_alloc | apply Kd.R_drewN | apply Kd.R_drew)); exact HO_284002.out) hb); replace BK263 := Aside0.mk (xB BK263 hb); replace BK264 := Aside0.mk (xB BK264 hb); replace BK265 := Aside0.mk (xB BK265 hb); replace BK275 := Aside0.mk (xB BK275 hb); replace BK283 := Aside0.mk (xB BK283 hb); replace HB := Aside0.mk (xS HB hb); (try clear hb); (try clear hb2); (try clear hk); (try clear hi))))
      (try simp only [Act.put, List.setIfInBounds_toArray, List.set_cons_zero, List.set_cons_succ])
      go_cut [178] (fun vs178 wc => ∃ (kq : Nat) (x178_145 : Bool), vs178 = .bool x178_145 ∧ Aside0 (gamehalllaw3_PatternCuts.j2 kq a3 a4 a5 t274 x178_145 a0_0 a0_1 a0_2 l0_3 l0_4 a0_5 a0_6 l0_7 a0_8 a0_9 a0_10 l1_0 l1_1 l1_2 a1_3 a1_4 t268 t269 t270 t273 = some r) ∧ Aside0 (kq ≤ kj21) ∧ Aside0 (Kd.R (Kd.int .i64) 3 wc w.heap.size (fun k_ => some k_ ≠ ((.slice Ao50 t278.length co50) : Value).ownBlock) (.slice Ao40 t270.length co40) t270) ∧ Aside0 (Kd.R (Kd.int .i64) 3 wc w.heap.size (fun k_ => some k_ ≠ ((.slice Ao40 t270.length co40) : Value).ownBlock) (.slice Ao50 t278.length co50) t278) ∧ Aside0 (wc.heap[gb263]? = some (.cells #[.string a0_0, .int .i64 a0_1, .int .i64 a0_2, (.slice A0_3 l0_3.length c0_3), (.slice A0_4 l0_4.length c0_4), .bool a0_5, .bool a0_6, (.slice A0_7 l0_7.length c0_7), .int .i64 a0_8, .int .i64 a0_9, .int .i64 a0_10] 44 (0, 0))) ∧ Aside0 (wc.heap[gb264]? = some (.cells #[(.slice A1_0 l1_0.length c1_0), (.slice A1_1 l1_1.length c1_1), (.slice A1_2 l1_2.length c1_2), .int .i64 a1_3, .int .i64 a1_4] 47 (0, 0))) ∧ Aside0 (wc.heap[gb265]? = some (.cells #[.int .i64 a2_0, .int .i64 a2_1, (.slice A2_2 l2_2.length c2_2), .int .i64 a2_3] 49 (0, 0))) ∧ Aside0 (wc.heap[gb275]? = some (.cells #[.int .i64 t268, .int .i64 t269, (.slice Ao40 t270.length co40), .int .i64 t273] 49 (0, 0))) ∧ Aside0 (wc.heap[gb283]? = some (.cells #[.int .i64 t276, .int .i64 t277, (.slice Ao50 t278.length co50), .int .i64 t281] 49 (0, 0))) ∧ Aside0 (Below w.heap.size w wc))
      case first =>
       refine box_ ?g18;letI i:type_of% ?g18:=⟨by
       have H := HC146.out; clear HC146
       by_cases c157 : a3 < 0
       ·rw [if_pos c157] at H
        have c157b0 : decide (a3 < 0) = true := decide_eq_true c157
        clear c157
        (first | rw [c157b0] | (simp only [i64_w, i32_w]; rw [c157b0]) | skip)
        have H' := Aside0.mk H
        clear H
        go_wp2
        repeat (go_quiet (fail); try go_wp2)
        go_meet
        case rel => exact ⟨_, (true), (xrf), H', ⟨by have := HJ21.out; first | omega | exact Nat.le_refl _⟩, ⟨by (with_reducible repeat (first | apply Kd.R_alloc | apply Kd.R_drewN | apply Kd.R_drew)); exact HO_276002.out⟩, ⟨by (with_reducible repeat (first | apply Kd.R_alloc | apply Kd.R_drewN | apply Kd.R_drew)); exact HO_284002.out⟩, ⟨xK BK263⟩, ⟨xK BK264⟩, ⟨xK BK265⟩, ⟨xK BK275⟩, ⟨xK BK283⟩, ⟨xW HB⟩⟩
       ·refine box_ ?g19;letI i:type_of% ?g19:=⟨by
        rw [if_neg c157] at H
        have c157b0 : decide (a3 < 0) = false := decide_eq_false c157
        clear c157
        (first | rw [c157b0] | (simp only [i64_w, i32_w]; rw [c157b0]) | skip)
        by_cases c158 : a3 ≥ (l1_0.length : Int)
        ·rw [if_pos c158] at H
         have c158b0 : decide ((l1_0.length : Int) ≤ a3) = true := decide_eq_true c158
         clear c158
         have H' := Aside0.mk H
         clear H; have hcz163_0 := blkc5 BK264.out
         go_wp2
         repeat (go_quiet (fail); try go_wp2)
         go_meet
         case rel => exact ⟨_, (true), (xrf), H', ⟨by have := HJ21.out; first | omega | exact Nat.le_refl _⟩, ⟨by (with_reducible repeat (first | apply Kd.R_alloc | apply Kd.R_drewN | apply Kd.R_drew)); exact HO_276002.out⟩, ⟨by (with_reducible repeat (first | apply Kd.R_alloc | apply Kd.R_drewN | apply Kd.R_drew)); exact HO_284002.out⟩, ⟨xK BK263⟩, ⟨xK BK264⟩, ⟨xK BK265⟩, ⟨xK BK275⟩, ⟨xK BK283⟩, ⟨xW HB⟩⟩
        ·refine box_ ?g20;letI i:type_of% ?g20:=⟨by
         rw [if_neg c158] at H
         have c158b0 : decide ((l1_0.length : Int) ≤ a3) = false := decide_eq_false c158
         clear c158
         by_cases c164 : a4 < 1
         ·rw [if_pos c164] at H
          have c164b0 : decide (a4 < 1) = true := decide_eq_true c164
          clear c164
          have H' := Aside0.mk H
          clear H; have hcz169_0 := blkc5 BK264.out
          go_wp2
          repeat (go_quiet (fail); try go_wp2)
          go_meet
          case rel => exact ⟨_, (true), (xrf), H', ⟨by have := HJ21.out; first | omega | exact Nat.le_refl _⟩, ⟨by (with_reducible repeat (first | apply Kd.R_alloc | apply Kd.R_drewN | apply Kd.R_drew)); exact HO_276002.out⟩, ⟨by (with_reducible repeat (first | apply Kd.R_alloc | apply Kd.R_drewN | apply Kd.R_drew)); exact HO_284002.out⟩, ⟨xK BK263⟩, ⟨xK BK264⟩, ⟨xK BK265⟩, ⟨xK BK275⟩, ⟨xK BK283⟩, ⟨xW HB⟩⟩
         ·refine box_ ?g21;letI i:type_of% ?g21:=⟨by
          rw [if_neg c164] at H
          have c164b0 : decide (a4 < 1) = false := decide_eq_false c164
          clear c164
          by_cases c170 : a5 < 1
          ·rw [if_pos c170] at H
           have c170b0 : decide (a5 < 1) = true := decide_eq_true c170
           clear c170
           have H' := Aside0.mk H
           clear H; have hcz175_0 := blkc5 BK264.out
           go_wp2
           repeat (go_quiet (fail); try go_wp2)
           go_meet
           case rel => exact ⟨_, (true), (xrf), H', ⟨by have := HJ21.out; first | omega | exact Nat.le_refl _⟩, ⟨by (with_reducible repeat (first | apply Kd.R_alloc | apply Kd.R_drewN | apply Kd.R_drew)); exact HO_276002.out⟩, ⟨by (with_reducible repeat (first | apply Kd.R_alloc | apply Kd.R_drewN | apply Kd.R_drew)); exact HO_284002.out⟩, ⟨xK BK263⟩, ⟨xK BK264⟩, ⟨xK BK265⟩, ⟨xK BK275⟩, ⟨xK BK283⟩, ⟨xW HB⟩⟩
          ·refine box_ ?g22;letI i:type_of% ?g22:=⟨by
           rw [if_neg c170] at H
           have c170b0 : decide (a5 < 1) = false := decide_eq_false c170
           clear c170
           by_cases c176 : a0_1 = 0
           ·rw [if_pos c176] at H
            exact absurd H (by simp)
           ·rw [if_neg c176] at H
            have c176b0 : (a0_1 == 0) = false := beq_eq_false_iff_ne.mpr c176
            have c176b1 : (a0_1 != 0) = true := bne_iff_ne.mpr c176
            by_cases c177 : a4 > (wrap64 (a0_1 - (Int.tmod a3 a0_1)))
            ·rw [if_pos c177] at H
             have c177b0 : decide ((wrap64 (a0_1 - (Int.tmod a3 a0_1))) < a4) = true := decide_eq_true c177
             clear c177
             have H' := Aside0.mk H
             clear H; have hcz182_0 := blkc5 BK264.out; have hcz186_0 := blkc11 BK263.out
             go_wp2
             repeat (go_quiet (fail); try go_wp2)
             go_meet
             case rel => exact ⟨_, (true), (xrf), H', ⟨by have := HJ21.out; first | omega | exact Nat.le_refl _⟩, ⟨by (with_reducible repeat (first | apply Kd.R_alloc | apply Kd.R_drewN | apply Kd.R_drew)); exact HO_276002.out⟩, ⟨by (with_reducible repeat (first | apply Kd.R_alloc | apply Kd.R_drewN | apply Kd.R_drew)); exact HO_284002.out⟩, ⟨xK BK263⟩, ⟨xK BK264⟩, ⟨xK BK265⟩, ⟨xK BK275⟩, ⟨xK BK283⟩, ⟨xW HB⟩⟩
            ·rw [if_neg c177] at H
             have c177b0 : decide ((wrap64 (a0_1 - (Int.tmod a3 a0_1))) < a4) = false := decide_eq_false c177
             clear c177
             have H' := Aside0.mk H
             clear H; have hcz191_0 := blkc5 BK264.out; have hcz195_0 := blkc11 BK263.out
             go_wp2
             repeat (go_quiet (fail); try go_wp2)
             go_meet
             case rel => exact ⟨_, (decide (a5 > (wrap64 (a0_2 - (wrap64 (Int.tdiv a3 a0_1)))))), (xrf), H', ⟨by have := HJ21.out; first | omega | exact Nat.le_refl _⟩, ⟨by (with_reducible repeat (first | apply Kd.R_alloc | apply Kd.R_drewN | apply Kd.R_drew)); exact HO_276002.out⟩, ⟨by (with_reducible repeat (first | apply Kd.R_alloc | apply Kd.R_drewN | apply Kd.R_drew)); exact HO_284002.out⟩, ⟨xK BK263⟩, ⟨xK BK264⟩, ⟨xK BK265⟩, ⟨xK BK275⟩, ⟨xK BK283⟩, ⟨xW HB⟩⟩⟩
           exact inferInstanceAs _⟩
          exact inferInstanceAs _⟩
         exact inferInstanceAs _⟩
        exact inferInstanceAs _⟩
       exact inferInstanceAs _
      case rest =>
       refine box_ ?g23;letI i:type_of% ?g23:=⟨by
       clear HC146; (try clear p2); (try clear q2); (try clear hx2); (try clear p6); (try clear p28); (try clear q28); (try clear hx28); (try clear p64); (try clear hx285_0); (try clear hx286_0); (try clear p2); (try clear p28); (try clear p285); (try clear p286); (try clear p6); (try clear p64); (try clear q2); (try clear q28); (try clear q285); (try clear q286)
       obtain ⟨kq, x178_145, rfl, HA, HJ145, HO_276002, HO_284002, BK263, BK264, BK265, BK275, BK283, HB⟩ := hcut
       cases kq with
       | zero => exact absurd HA.out (by simp [gamehalllaw3_PatternCuts.j2])
       | succ kj145 =>
        have H := HA.out; clear HA
        simp only [gamehalllaw3_PatternCuts.j2] at H
        by_cases c196 : x178_145 = true
        ·subst c196
         rw [if_pos rfl] at H
         by_cases c197 : t274 = 4
         ·rw [if_pos c197] at H
          have c197b0 : (t274 == 4) = true := beq_iff_eq.mpr c197
          have c197b1 : (t274 != 4) = false := bne_eq_false_iff_eq.mpr c197
          clear c197
          obtain rfl := Option.some.inj H
          have hcz202_0 := blkc4 BK275.out
          go_wp2
          repeat (go_quiet (fail); try go_wp2)
          go_ret
          exact ⟨xer, xW HB⟩
         ·rw [if_neg c197] at H
          have c197b0 : (t274 == 4) = false := beq_eq_false_iff_ne.mpr c197
          have c197b1 : (t274 != 4) = true := bne_iff_ne.mpr c197
          obtain rfl := Option.some.inj H
          go_wp2
          repeat (go_quiet (fail); try go_wp2)
          go_ret
          exact ⟨xer, xW HB⟩
        ·replace c196 := Bool.eq_false_iff.mpr c196
         subst c196
         rw [if_neg (show ¬ (false = true) by decide)] at H
         have HC203 := Aside0.mk H; clear H
         go_upto_region 23 with (fail)
         repeat (go_quiet (fail); go_upto_region 23 with (fail))
         go_cut [216] (fun vs216 wc => ∃ (kq : Nat) (x216_202 : Bool), vs216 = .bool x216_202 ∧ Aside0 (gamehalllaw3_PatternCuts.j3 kq a3 a4 a5 x216_202 a0_0 a0_1 a0_2 l0_3 l0_4 a0_5 a0_6 l0_7 a0_8 a0_9 a0_10 l1_0 l1_1 l1_2 a1_3 a1_4 t268 t269 t270 t273 = some r) ∧ Aside0 (kq ≤ kj145) ∧ Aside0 (Kd.R (Kd.int .i64) 3 wc w.heap.size (fun k_ => some k_ ≠ ((.slice Ao50 t278.length co50) : Value).ownBlock) (.slice Ao40 t270.length co40) t270) ∧ Aside0 (Kd.R (Kd.int .i64) 3 wc w.heap.size (fun k_ => some k_ ≠ ((.slice Ao40 t270.length co40) : Value).ownBlock) (.slice Ao50 t278.length co50) t278) ∧ Aside0 (wc.heap[gb263]? = some (.cells #[.string a0_0, .int .i64 a0_1, .int .i64 a0_2, (.slice A0_3 l0_3.length c0_3), (.slice A0_4 l0_4.length c0_4), .bool a0_5, .bool a0_6, (.slice A0_7 l0_7.length c0_7), .int .i64 a0_8, .int .i64 a0_9, .int .i64 a0_10] 44 (0, 0))) ∧ Aside0 (wc.heap[gb264]? = some (.cells #[(.slice A1_0 l1_0.length c1_0), (.slice A1_1 l1_1.length c1_1), (.slice A1_2 l1_2.length c1_2), .int .i64 a1_3, .int .i64 a1_4] 47 (0, 0))) ∧ Aside0 (wc.heap[gb265]? = some (.cells #[.int .i64 a2_0, .int .i64 a2_1, (.slice A2_2 l2_2.length c2_2), .int .i64 a2_3] 49 (0, 0))) ∧ Aside0 (wc.heap[gb275]? = some (.cells #[.int .i64 t268, .int .i64 t269, (.slice Ao40 t270.length co40), .int .i64 t273] 49 (0, 0))) ∧ Aside0 (wc.heap[gb283]? = some (.cells #[.int .i64 t276, .int .i64 t277, (.slice Ao50 t278.length co50), .int .i64 t281] 49 (0, 0))) ∧ Aside0 (Below w.heap.size w wc))
         case first =>
          refine box_ ?g24;letI i:type_of% ?g24:=⟨by
          have H := HC203.out; clear HC203
          by_cases c204 : t274 = 0
          ·refine box_ ?g25;letI i:type_of% ?g25:=⟨by
           rw [if_pos c204] at H
           have c204b0 : (t274 == 0) = true := beq_iff_eq.mpr c204
           have c204b1 : (t274 != 0) = false := bne_eq_false_iff_eq.mpr c204
           clear c204
           (first | rw [c204b0] | (simp only [i64_w, i32_w]; rw [c204b0]) | skip)
           by_cases c205 : t268 = a4
           ·refine box_ ?g26;letI i:type_of% ?g26:=⟨by
            rw [if_pos c205] at H
            have c205b0 : (t268 == a4) = true := beq_iff_eq.mpr c205
            have c205b1 : (t268 != a4) = false := bne_eq_false_iff_eq.mpr c205
            clear c205
            by_cases c206 : t269 = a5
            ·rw [if_pos c206] at H
             have c206b0 : (t269 == a5) = true := beq_iff_eq.mpr c206
             have c206b1 : (t269 != a5) = false := bne_eq_false_iff_eq.mpr c206
             clear c206
             by_cases c207 : t273 = a1_3
             ·rw [if_pos c207] at H
              have c207b0 : (t273 == a1_3) = true := beq_iff_eq.mpr c207
              have c207b1 : (t273 != a1_3) = false := bne_eq_false_iff_eq.mpr c207
              clear c207
              have H' := Aside0.mk H
              clear H; have hcz212_0 := blkc4 BK275.out; have hcz216_0 := blkc5 BK264.out
              go_wp2
              repeat (go_quiet (fail); try go_wp2)
              go_meet
              case rel => exact ⟨_, (((t270.length : Int) != (wrap64 (a4 * a5)))), (xrf), H', ⟨by have := HJ21.out; have := HJ145.out; first | omega | exact Nat.le_refl _⟩, ⟨by (with_reducible repeat (first | apply Kd.R_alloc | apply Kd.R_drewN | apply Kd.R_drew)); exact HO_276002.out⟩, ⟨by (with_reducible repeat (first | apply Kd.R_alloc | apply Kd.R_drewN | apply Kd.R_drew)); exact HO_284002.out⟩, ⟨xK BK263⟩, ⟨xK BK264⟩, ⟨xK BK265⟩, ⟨xK BK275⟩, ⟨xK BK283⟩, ⟨xW HB⟩⟩
             ·rw [if_neg c207] at H
              have c207b0 : (t273 == a1_3) = false := beq_eq_false_iff_ne.mpr c207
              have c207b1 : (t273 != a1_3) = true := bne_iff_ne.mpr c207
              have H' := Aside0.mk H
              clear H; have hcz221_0 := blkc4 BK275.out; have hcz225_0 := blkc5 BK264.out
              go_wp2
              repeat (go_quiet (fail); try go_wp2)
              go_meet
              case rel => exact ⟨_, (true), (xrf), H', ⟨by have := HJ21.out; have := HJ145.out; first | omega | exact Nat.le_refl _⟩, ⟨by (with_reducible repeat (first | apply Kd.R_alloc | apply Kd.R_drewN | apply Kd.R_drew)); exact HO_276002.out⟩, ⟨by (with_reducible repeat (first | apply Kd.R_alloc | apply Kd.R_drewN | apply Kd.R_drew)); exact HO_284002.out⟩, ⟨xK BK263⟩, ⟨xK BK264⟩, ⟨xK BK265⟩, ⟨xK BK275⟩, ⟨xK BK283⟩, ⟨xW HB⟩⟩
            ·rw [if_neg c206] at H
             have c206b0 : (t269 == a5) = false := beq_eq_false_iff_ne.mpr c206
             have c206b1 : (t269 != a5) = true := bne_iff_ne.mpr c206
             have H' := Aside0.mk H
             clear H; have hcz230_0 := blkc4 BK275.out
             go_wp2
             repeat (go_quiet (fail); try go_wp2)
             go_meet
             case rel => exact ⟨_, (true), (xrf), H', ⟨by have := HJ21.out; have := HJ145.out; first | omega | exact Nat.le_refl _⟩, ⟨by (with_reducible repeat (first | apply Kd.R_alloc | apply Kd.R_drewN | apply Kd.R_drew)); exact HO_276002.out⟩, ⟨by (with_reducible repeat (first | apply Kd.R_alloc | apply Kd.R_drewN | apply Kd.R_drew)); exact HO_284002.out⟩, ⟨xK BK263⟩, ⟨xK BK264⟩, ⟨xK BK265⟩, ⟨xK BK275⟩, ⟨xK BK283⟩, ⟨xW HB⟩⟩⟩
            exact inferInstanceAs _
           ·rw [if_neg c205] at H
            have c205b0 : (t268 == a4) = false := beq_eq_false_iff_ne.mpr c205
            have c205b1 : (t268 != a4) = true := bne_iff_ne.mpr c205
            have H' := Aside0.mk H
            clear H; have hcz235_0 := blkc4 BK275.out
            go_wp2
            repeat (go_quiet (fail); try go_wp2)
            go_meet
            case rel => exact ⟨_, (true), (xrf), H', ⟨by have := HJ21.out; have := HJ145.out; first | omega | exact Nat.le_refl _⟩, ⟨by (with_reducible repeat (first | apply Kd.R_alloc | apply Kd.R_drewN | apply Kd.R_drew)); exact HO_276002.out⟩, ⟨by (with_reducible repeat (first | apply Kd.R_alloc | apply Kd.R_drewN | apply Kd.R_drew)); exact HO_284002.out⟩, ⟨xK BK263⟩, ⟨xK BK264⟩, ⟨xK BK265⟩, ⟨xK BK275⟩, ⟨xK BK283⟩, ⟨xW HB⟩⟩⟩
           exact inferInstanceAs _
          ·rw [if_neg c204] at H
           have c204b0 : (t274 == 0) = false := beq_eq_false_iff_ne.mpr c204
           have c204b1 : (t274 != 0) = true := bne_iff_ne.mpr c204
           (first | rw [c204b0] | (simp only [i64_w, i32_w]; rw [c204b0]) | skip)
           have H' := Aside0.mk H
           clear H
           go_wp2
           repeat (go_quiet (fail); try go_wp2)
           go_meet
           case rel => exact ⟨_, (true), (xrf), H', ⟨by have := HJ21.out; have := HJ145.out; first | omega | exact Nat.le_refl _⟩, ⟨by (with_reducible repeat (first | apply Kd.R_alloc | apply Kd.R_drewN | apply Kd.R_drew)); exact HO_276002.out⟩, ⟨by (with_reducible repeat (first | apply Kd.R_alloc | apply Kd.R_drewN | apply Kd.R_drew)); exact HO_284002.out⟩, ⟨xK BK263⟩, ⟨xK BK264⟩, ⟨xK BK265⟩, ⟨xK BK275⟩, ⟨xK BK283⟩, ⟨xW HB⟩⟩⟩
          exact inferInstanceAs _
         case rest =>
          refine box_ ?g27;letI i:type_of% ?g27:=⟨by
          clear HC203; (try clear p2); (try clear q2); (try clear hx2); (try clear p6); (try clear p28); (try clear q28); (try clear hx28); (try clear p64); (try clear hx285_0); (try clear hx286_0); (try clear p2); (try clear p28); (try clear p285); (try clear p286); (try clear p6); (try clear p64); (try clear q2); (try clear q28); (try clear q285); (try clear q286)
          obtain ⟨kq, x216_202, rfl, HA, HJ202, HO_276002, HO_284002, BK263, BK264, BK265, BK275, BK283, HB⟩ := hcut
          cases kq with
          | zero => exact absurd HA.out (by simp [gamehalllaw3_PatternCuts.j3])
          | succ kj202 =>
           have H := HA.out; clear HA
           simp only [gamehalllaw3_PatternCuts.j3] at H
           by_cases c236 : x216_202 = true
           ·subst c236
            rw [if_pos rfl] at H
            obtain rfl := Option.some.inj H
            go_wp2
            repeat (go_quiet (fail); try go_wp2)
            go_ret
            exact ⟨xer, xW HB⟩
           ·replace c236 := Bool.eq_false_iff.mpr c236
            subst c236
            rw [if_neg (show ¬ (false = true) by decide)] at H
            have H' := Aside0.mk H
            clear H
            go_wp2
            repeat (go_quiet (fail); try go_wp2)
            go_loopg [218] kj202 (fun kq vs218 w' => ∃ (x218_4 : Int), vs218 = .int .i64 x218_4 ∧ Aside0 (gamehalllaw3_PatternCuts.l1 kq a3 a4 a5 a4 x218_4 a0_0 a0_1 a0_2 l0_3 l0_4 a0_5 a0_6 l0_7 a0_8 a0_9 a0_10 l1_0 l1_1 l1_2 a1_3 a1_4 t268 t269 t270 t273 = some r) ∧ Aside0 (kq ≤ kj202) ∧ Aside0 (Kd.R (Kd.int .i64) 3 w' w.heap.size (fun k_ => some k_ ≠ ((.slice Ao50 t278.length co50) : Value).ownBlock) (.slice Ao40 t270.length co40) t270) ∧ Aside0 (Kd.R (Kd.int .i64) 3 w' w.heap.size (fun k_ => some k_ ≠ ((.slice Ao40 t270.length co40) : Value).ownBlock) (.slice Ao50 t278.length co50) t278) ∧ Aside0 (w'.heap[gb263]? = some (.cells #[.string a0_0, .int .i64 a0_1, .int .i64 a0_2, (.slice A0_3 l0_3.length c0_3), (.slice A0_4 l0_4.length c0_4), .bool a0_5, .bool a0_6, (.slice A0_7 l0_7.length c0_7), .int .i64 a0_8, .int .i64 a0_9, .int .i64 a0_10] 44 (0, 0))) ∧ Aside0 (w'.heap[gb264]? = some (.cells #[(.slice A1_0 l1_0.length c1_0), (.slice A1_1 l1_1.length c1_1), (.slice A1_2 l1_2.length c1_2), .int .i64 a1_3, .int .i64 a1_4] 47 (0, 0))) ∧ Aside0 (w'.heap[gb265]? = some (.cells #[.int .i64 a2_0, .int .i64 a2_1, (.slice A2_2 l2_2.length c2_2), .int .i64 a2_3] 49 (0, 0))) ∧ Aside0 (w'.heap[gb275]? = some (.cells #[.int .i64 t268, .int .i64 t269, (.slice Ao40 t270.length co40), .int .i64 t273] 49 (0, 0))) ∧ Aside0 (w'.heap[gb283]? = some (.cells #[.int .i64 t276, .int .i64 t277, (.slice Ao50 t278.length co50), .int .i64 t281] 49 (0, 0))) ∧ Aside0 (Below w.heap.size w w'))
            case atStart => exact ⟨(0), (xrf), H', ⟨Nat.le_refl _⟩, ⟨by (with_reducible repeat (first | apply Kd.R_alloc | apply Kd.R_drewN | apply Kd.R_drew)); exact HO_276002.out⟩, ⟨by (with_reducible repeat (first | apply Kd.R_alloc | apply Kd.R_drewN | apply Kd.R_drew)); exact HO_284002.out⟩, ⟨xK BK263⟩, ⟨xK BK264⟩, ⟨xK BK265⟩, ⟨xK BK275⟩, ⟨xK BK283⟩, ⟨xW HB⟩⟩
            case round =>
             clear H'; (try clear p2); (try clear q2); (try clear hx2); (try clear p6); (try clear p28); (try clear q28); (try clear hx28); (try clear p64); (try clear hx285_0); (try clear hx286_0); (try clear p2); (try clear p28); (try clear p285); (try clear p286); (try clear p6); (try clear p64); (try clear q2); (try clear q28); (try clear q285); (try clear q286)
             obtain ⟨x218_4, rfl, HA, HK4, HO_276002, HO_284002, BK263, BK264, BK265, BK275, BK283, HB⟩ := hrel
             cases gk with
             | zero => exact absurd HA.out (by simp [gamehalllaw3_PatternCuts.l1])
             | succ k4 =>
              have H := HA.out; clear HA
              simp only [gamehalllaw3_PatternCuts.l1] at H
              by_cases c237 : x218_4 < a4
              ·refine box_ ?g28;letI i:type_of% ?g28:=⟨by
               rw [if_pos c237] at H
               have c237b0 : decide (x218_4 < a4) = true := decide_eq_true c237
               clear c237
               have H' := Aside0.mk H
               clear H
               go_wp2
               repeat (go_quiet (fail); try go_wp2)
               go_loopg [222] k4 (fun kq vs222 w' => ∃ (x222_5 : Int), vs222 = .int .i64 x222_5 ∧ Aside0 (gamehalllaw3_PatternCuts.l2 kq a3 a4 a5 x218_4 a4 x218_4 a5 x222_5 a0_0 a0_1 a0_2 l0_3 l0_4 a0_5 a0_6 l0_7 a0_8 a0_9 a0_10 l1_0 l1_1 l1_2 a1_3 a1_4 t268 t269 t270 t273 = some r) ∧ Aside0 (kq ≤ k4) ∧ Aside0 (Kd.R (Kd.int .i64) 3 w' w.heap.size (fun k_ => some k_ ≠ ((.slice Ao50 t278.length co50) : Value).ownBlock) (.slice Ao40 t270.length co40) t270) ∧ Aside0 (Kd.R (Kd.int .i64) 3 w' w.heap.size (fun k_ => some k_ ≠ ((.slice Ao40 t270.length co40) : Value).ownBlock) (.slice Ao50 t278.length co50) t278) ∧ Aside0 (w'.heap[gb263]? = some (.cells #[.string a0_0, .int .i64 a0_1, .int .i64 a0_2, (.slice A0_3 l0_3.length c0_3), (.slice A0_4 l0_4.length c0_4), .bool a0_5, .bool a0_6, (.slice A0_7 l0_7.length c0_7), .int .i64 a0_8, .int .i64 a0_9, .int .i64 a0_10] 44 (0, 0))) ∧ Aside0 (w'.heap[gb264]? = some (.cells #[(.slice A1_0 l1_0.length c1_0), (.slice A1_1 l1_1.length c1_1), (.slice A1_2 l1_2.length c1_2), .int .i64 a1_3, .int .i64 a1_4] 47 (0, 0))) ∧ Aside0 (w'.heap[gb265]? = some (.cells #[.int .i64 a2_0, .int .i64 a2_1, (.slice A2_2 l2_2.length c2_2), .int .i64 a2_3] 49 (0, 0))) ∧ Aside0 (w'.heap[gb275]? = some (.cells #[.int .i64 t268, .int .i64 t269, (.slice Ao40 t270.length co40), .int .i64 t273] 49 (0, 0))) ∧ Aside0 (w'.heap[gb283]? = some (.cells #[.int .i64 t276, .int .i64 t277, (.slice Ao50 t278.length co50), .int .i64 t281] 49 (0, 0))) ∧ Aside0 (Below w.heap.size w w'))
               case atStart => exact ⟨(0), (xrf), H', ⟨Nat.le_refl _⟩, ⟨by (with_reducible repeat (first | apply Kd.R_alloc | apply Kd.R_drewN | apply Kd.R_drew)); exact HO_276002.out⟩, ⟨by (with_reducible repeat (first | apply Kd.R_alloc | apply Kd.R_drewN | apply Kd.R_drew)); exact HO_284002.out⟩, ⟨xK BK263⟩, ⟨xK BK264⟩, ⟨xK BK265⟩, ⟨xK BK275⟩, ⟨xK BK283⟩, ⟨xW HB⟩⟩
               case round =>
                clear H'; (try clear p2); (try clear q2); (try clear hx2); (try clear p6); (try clear p28); (try clear q28); (try clear hx28); (try clear p64); (try clear hx285_0); (try clear hx286_0); (try clear p2); (try clear p28); (try clear p285); (try clear p286); (try clear p6); (try clear p64); (try clear q2); (try clear q28); (try clear q285); (try clear q286)
                obtain ⟨x222_5, rfl, HA, HK5, HO_276002, HO_284002, BK263, BK264, BK265, BK275, BK283, HB⟩ := hrel
                cases gk with
                | zero => exact absurd HA.out (by simp [gamehalllaw3_PatternCuts.l2])
                | succ k5 =>
                 have H := HA.out; clear HA
                 simp only [gamehalllaw3_PatternCuts.l2] at H
                 by_cases c238 : x222_5 < a5
                 ·refine box_ ?g29;letI i:type_of% ?g29:=⟨by
                  rw [if_pos c238] at H
                  have c238b0 : decide (x222_5 < a5) = true := decide_eq_true c238
                  clear c238
                  obtain ⟨ji239, hji239⟩ : ∃ j_ : Int, (wrap64 ((wrap64 (x222_5 * a4)) + x218_4)) = j_ := ⟨_, rfl⟩
                  (first | rw [hji239] at H | simp only [hji239] at H)
                  have hji239w : (IntKind.i64.wrap ((wrap64 (x222_5 * a4)) + x218_4)) = ji239 := (i64_w _).trans hji239
                  by_cases c240 : 0 ≤ (ji239)
                  ·refine box_ ?g30;letI i:type_of% ?g30:=⟨by
                   rw [if_pos c240] at H
                   have c240b0 : decide (0 ≤ (ji239)) = true := decide_eq_true c240
                   clear c240
                   by_cases c241 : (ji239) < (t270.length : Int)
                   ·refine box_ ?g31;letI i:type_of% ?g31:=⟨by
                    rw [if_pos c241] at H
                    have c241b0 : decide ((ji239) < (t270.length : Int)) = true := decide_eq_true c241
                    clear c241
                    obtain ⟨ji242, hji242⟩ : ∃ j_ : Int, (wrap64 ((wrap64 (a3 + (wrap64 (x222_5 * a0_1)))) + x218_4)) = j_ := ⟨_, rfl⟩
                    (first | rw [hji242] at H | simp only [hji242] at H)
                    have hji242w : (IntKind.i64.wrap ((wrap64 (a3 + (wrap64 (x222_5 * a0_1)))) + x218_4)) = ji242 := (i64_w _).trans hji242
                    by_cases c243 : 0 ≤ (ji242)
                    ·refine box_ ?g32;letI i:type_of% ?g32:=⟨by
                     rw [if_pos c243] at H
                     have c243b0 : decide (0 ≤ (ji242)) = true := decide_eq_true c243
                     clear c243
                     by_cases c244 : (ji242) < (l1_0.length : Int)
                     ·refine box_ ?g33;letI i:type_of% ?g33:=⟨by
                      rw [if_pos c244] at H
                      have c244b0 : decide ((ji242) < (l1_0.length : Int)) = true := decide_eq_true c244
                      clear c244
                      by_cases c245 : (rd t270 (ji239)) = (rd l1_0 (ji242))
                      ·rw [if_pos c245] at H
                       have c245b0 : ((rd t270 (ji239)) == (rd l1_0 (ji242))) = true := beq_iff_eq.mpr c245
                       have c245b1 : ((rd t270 (ji239)) != (rd l1_0 (ji242))) = false := bne_eq_false_iff_eq.mpr c245
                       clear c245
                       have H' := Aside0.mk H
                       clear H; have hcz250_0 := blkc4 BK275.out
                       have p288 : 0 ≤ ((ji239) : Int) := of_decide_eq_true (by first | (with_reducible assumption) | assumption)
                       have q288 : (ji239) < (t270.length : Int) := of_decide_eq_true (by first | (with_reducible assumption) | assumption)
                       obtain ⟨ad288, e288, hx288_0⟩ := Kd.at_int (Kd.R_reads' HO_276002.out).2.2 (ji239) p288 q288
                       cases e288
                       replace p288 := eq_true p288; replace q288 := eq_true q288; have hcz254_0 := blkc5 BK264.out; have hcz257_0 := blkc11 BK263.out
                       have p289 : 0 ≤ ((ji242) : Int) := of_decide_eq_true (by first | (with_reducible assumption) | assumption)
                       have q289 : (ji242) < (l1_0.length : Int) := of_decide_eq_true (by first | (with_reducible assumption) | assumption)
                       obtain ⟨ad289, e289, hx289_0⟩ := Kd.at_int HR1_0.out (ji242) p289 q289
                       cases e289
                       replace hx289_0 := (HB.out.cell (World.block_lt_of_cell? w _ hx289_0)).trans hx289_0; replace p289 := eq_true p289; replace q289 := eq_true q289
                       go_wp2
                       repeat (go_quiet (fail); try go_wp2)
                       (first | go_roundg k5 | (simp only [← hji239, ← hji242]; go_roundg k5))
                       case measure => have := HJ21.out; have := HJ145.out; have := HJ202.out; have := HK4.out; have := HK5.out; omega
                       case rel => exact ⟨(wrap64 (x222_5 + 1)), (xrf), H', ⟨by have := HJ21.out; have := HJ145.out; have := HJ202.out; have := HK4.out; have := HK5.out; omega⟩, ⟨by (with_reducible repeat (first | apply Kd.R_alloc | apply Kd.R_drewN | apply Kd.R_drew)); exact HO_276002.out⟩, ⟨by (with_reducible repeat (first | apply Kd.R_alloc | apply Kd.R_drewN | apply Kd.R_drew)); exact HO_284002.out⟩, ⟨xK BK263⟩, ⟨xK BK264⟩, ⟨xK BK265⟩, ⟨xK BK275⟩, ⟨xK BK283⟩, ⟨xW HB⟩⟩
                      ·rw [if_neg c245] at H
                       have c245b0 : ((rd t270 (ji239)) == (rd l1_0 (ji242))) = false := beq_eq_false_iff_ne.mpr c245
                       have c245b1 : ((rd t270 (ji239)) != (rd l1_0 (ji242))) = true := bne_iff_ne.mpr c245
                       obtain rfl := Option.some.inj H
                       have hcz262_0 := blkc4 BK275.out
                       have p288 : 0 ≤ ((ji239) : Int) := of_decide_eq_true (by first | (with_reducible assumption) | assumption)
                       have q288 : (ji239) < (t270.length : Int) := of_decide_eq_true (by first | (with_reducible assumption) | assumption)
                       obtain ⟨ad288, e288, hx288_0⟩ := Kd.at_int (Kd.R_reads' HO_276002.out).2.2 (ji239) p288 q288
                       cases e288
                       replace p288 := eq_true p288; replace q288 := eq_true q288; have hcz266_0 := blkc5 BK264.out; have hcz269_0 := blkc11 BK263.out
                       have p289 : 0 ≤ ((ji242) : Int) := of_decide_eq_true (by first | (with_reducible assumption) | assumption)
                       have q289 : (ji242) < (l1_0.length : Int) := of_decide_eq_true (by first | (with_reducible assumption) | assumption)
                       obtain ⟨ad289, e289, hx289_0⟩ := Kd.at_int HR1_0.out (ji242) p289 q289
                       cases e289
                       replace hx289_0 := (HB.out.cell (World.block_lt_of_cell? w _ hx289_0)).trans hx289_0; replace p289 := eq_true p289; replace q289 := eq_true q289
                       go_wp2
                       repeat (go_quiet (fail); try go_wp2)
                       go_ret
                       exact ⟨by first | rfl | (simp [errW_none, errW_some] <;> rfl) | (simp only [← hji239, ← hji242]; first | rfl | (simp [errW_none, errW_some] <;> rfl)) | (simp [*, errW_none, errW_some] <;> rfl), xW HB⟩⟩
                      exact inferInstanceAs _
                     ·rw [if_neg c244] at H
                      exact absurd H (by simp)⟩
                     exact inferInstanceAs _
                    ·rw [if_neg c243] at H
                     exact absurd H (by simp)⟩
                    exact inferInstanceAs _
                   ·rw [if_neg c241] at H
                    exact absurd H (by simp)⟩
                   exact inferInstanceAs _
                  ·rw [if_neg c240] at H
                   exact absurd H (by simp)⟩
                  exact inferInstanceAs _
                 ·rw [if_neg c238] at H
                  have c238b0 : decide (x222_5 < a5) = false := decide_eq_false c238
                  clear c238
                  have H' := Aside0.mk H
                  clear H
                  go_wp2
                  repeat (go_quiet (fail); try go_wp2)
                  go_roundg k5
                  case measure => have := HJ21.out; have := HJ145.out; have := HJ202.out; have := HK4.out; have := HK5.out; omega
                  case rel => exact ⟨(wrap64 (x218_4 + 1)), (xrf), H', ⟨by have := HJ21.out; have := HJ145.out; have := HJ202.out; have := HK4.out; have := HK5.out; omega⟩, ⟨by (with_reducible repeat (first | apply Kd.R_alloc | apply Kd.R_drewN | apply Kd.R_drew)); exact HO_276002.out⟩, ⟨by (with_reducible repeat (first | apply Kd.R_alloc | apply Kd.R_drewN | apply Kd.R_drew)); exact HO_284002.out⟩, ⟨xK BK263⟩, ⟨xK BK264⟩, ⟨xK BK265⟩, ⟨xK BK275⟩, ⟨xK BK283⟩, ⟨xW HB⟩⟩⟩
               exact inferInstanceAs _
              ·rw [if_neg c237] at H
               have c237b0 : decide (x218_4 < a4) = false := decide_eq_false c237
               clear c237
               obtain rfl := Option.some.inj H
               go_wp2
               repeat (go_quiet (fail); try go_wp2)
               go_ret
               exact ⟨xer, xW HB⟩⟩
          exact inferInstanceAs _⟩
       exact inferInstanceAs _⟩
      exact inferInstanceAs _
     ·rw [if_neg c145] at H
      have c145b0 : (t287 == 0) = false := beq_eq_false_iff_ne.mpr c145
      have c145b1 : (t287 != 0) = true := bne_iff_ne.mpr c145
      by_cases c270 : t274 = t287
      ·rw [if_pos c270] at H
       have c270b0 : (t274 == t287) = true := beq_iff_eq.mpr c270
       have c270b1 : (t274 != t287) = false := bne_eq_false_iff_eq.mpr c270
       clear c270
       obtain rfl := Option.some.inj H
       have hcz275_0 := blkc11 BK263.out; have hcz279_0 := blkc5 BK264.out
       go_wp2_with (first | (go_at_call 17; (with_reducible refine (place_Check.calls kj21 a0_0 a0_1 a0_2 _ _ l0_3 _ _ l0_4 a0_5 a0_6 _ _ l0_7 a0_8 a0_9 a0_10 _ _ l1_0 _ _ l1_1 _ _ l1_2 a1_3 a1_4 t287 _ ?side1 ?side2 ?side3 ?side4 ?side5 ?side6 ?side7 ?side8 ?side9 ?side10 ?side11 ?side12 A144.out).mono ?_); (case side1 => exact xC (Kd.C_below HR0_3.out HB.out)); (case side2 => exact HC0_3.out); (case side3 => exact xC (Kd.C_below HR0_4.out HB.out)); (case side4 => exact HC0_4.out); (case side5 => exact xC (Kd.C_below HR0_7.out HB.out)); (case side6 => exact HC0_7.out); (case side7 => exact xC (Kd.C_below HR1_0.out HB.out)); (case side8 => exact HC1_0.out); (case side9 => exact xC (Kd.C_below HR1_1.out HB.out)); (case side10 => exact HC1_1.out); (case side11 => exact xC (Kd.C_below HR1_2.out HB.out)); (case side12 => exact HC1_2.out); rintro e w280 ⟨rfl, hb⟩; replace HO_276002 := Aside0.mk (Kd.R_below (by (with_reducible repeat (first | apply Kd.R_alloc | apply Kd.R_drewN | apply Kd.R_drew)); exact HO_276002.out) hb); replace HO_284002 := Aside0.mk (Kd.R_below (by (with_reducible repeat (first | apply Kd.R_alloc | apply Kd.R_drewN | apply Kd.R_drew)); exact HO_284002.out) hb); replace BK263 := Aside0.mk (xB BK263 hb); replace BK264 := Aside0.mk (xB BK264 hb); replace BK265 := Aside0.mk (xB BK265 hb); replace BK275 := Aside0.mk (xB BK275 hb); replace BK283 := Aside0.mk (xB BK283 hb); replace HB := Aside0.mk (xS HB hb); (try clear hb); (try clear hb2); (try clear hk); (try clear hi); have hcz283_0 := blkc4 BK275.out))
       repeat (go_quiet (first | (go_at_call 17; (with_reducible refine (place_Check.calls kj21 a0_0 a0_1 a0_2 _ _ l0_3 _ _ l0_4 a0_5 a0_6 _ _ l0_7 a0_8 a0_9 a0_10 _ _ l1_0 _ _ l1_1 _ _ l1_2 a1_3 a1_4 t287 _ ?side1 ?side2 ?side3 ?side4 ?side5 ?side6 ?side7 ?side8 ?side9 ?side10 ?side11 ?side12 A144.out).mono ?_); (case side1 => exact xC (Kd.C_below HR0_3.out HB.out)); (case side2 => exact HC0_3.out); (case side3 => exact xC (Kd.C_below HR0_4.out HB.out)); (case side4 => exact HC0_4.out); (case side5 => exact xC (Kd.C_below HR0_7.out HB.out)); (case side6 => exact HC0_7.out); (case side7 => exact xC (Kd.C_below HR1_0.out HB.out)); (case side8 => exact HC1_0.out); (case side9 => exact xC (Kd.C_below HR1_1.out HB.out)); (case side10 => exact HC1_1.out); (case side11 => exact xC (Kd.C_below HR1_2.out HB.out)); (case side12 => exact HC1_2.out); rintro e w280 ⟨rfl, hb⟩; replace HO_276002 := Aside0.mk (Kd.R_below (by (with_reducible repeat (first | apply Kd.R_alloc | apply Kd.R_drewN | apply Kd.R_drew)); exact HO_276002.out) hb); replace HO_284002 := Aside0.mk (Kd.R_below (by (with_reducible repeat (first | apply Kd.R_alloc | apply Kd.R_drewN | apply Kd.R_drew)); exact HO_284002.out) hb); replace BK263 := Aside0.mk (xB BK263 hb); replace BK264 := Aside0.mk (xB BK264 hb); replace BK265 := Aside0.mk (xB BK265 hb); replace BK275 := Aside0.mk (xB BK275 hb); replace BK283 := Aside0.mk (xB BK283 hb); replace HB := Aside0.mk (xS HB hb); (try clear hb); (try clear hb2); (try clear hk); (try clear hi); have hcz283_0 := blkc4 BK275.out)); try go_wp2_with (first | (go_at_call 17; (with_reducible refine (place_Check.calls kj21 a0_0 a0_1 a0_2 _ _ l0_3 _ _ l0_4 a0_5 a0_6 _ _ l0_7 a0_8 a0_9 a0_10 _ _ l1_0 _ _ l1_1 _ _ l1_2 a1_3 a1_4 t287 _ ?side1 ?side2 ?side3 ?side4 ?side5 ?side6 ?side7 ?side8 ?side9 ?side10 ?side11 ?side12 A144.out).mono ?_); (case side1 => exact xC (Kd.C_below HR0_3.out HB.out)); (case side2 => exact HC0_3.out); (case side3 => exact xC (Kd.C_below HR0_4.out HB.out)); (case side4 => exact HC0_4.out); (case side5 => exact xC (Kd.C_below HR0_7.out HB.out)); (case side6 => exact HC0_7.out); (case side7 => exact xC (Kd.C_below HR1_0.out HB.out)); (case side8 => exact HC1_0.out); (case side9 => exact xC (Kd.C_below HR1_1.out HB.out)); (case side10 => exact HC1_1.out); (case side11 => exact xC (Kd.C_below HR1_2.out HB.out)); (case side12 => exact HC1_2.out); rintro e w280 ⟨rfl, hb⟩; replace HO_276002 := Aside0.mk (Kd.R_below (by (with_reducible repeat (first | apply Kd.R_alloc | apply Kd.R_drewN | apply Kd.R_drew)); exact HO_276002.out) hb); replace HO_284002 := Aside0.mk (Kd.R_below (by (with_reducible repeat (first | apply Kd.R_alloc | apply Kd.R_drewN | apply Kd.R_drew)); exact HO_284002.out) hb); replace BK263 := Aside0.mk (xB BK263 hb); replace BK264 := Aside0.mk (xB BK264 hb); replace BK265 := Aside0.mk (xB BK265 hb); replace BK275 := Aside0.mk (xB BK275 hb); replace BK283 := Aside0.mk (xB BK283 hb); replace HB := Aside0.mk (xS HB hb); (try clear hb); (try clear hb2); (try clear hk); (try clear hi); have hcz283_0 := blkc4 BK275.out)))
       go_ret
       exact ⟨xer, xW HB⟩
      ·rw [if_neg c270] at H
       have c270b0 : (t274 == t287) = false := beq_eq_false_iff_ne.mpr c270
       have c270b1 : (t274 != t287) = true := bne_iff_ne.mpr c270
       obtain rfl := Option.some.inj H
       have hcz288_0 := blkc11 BK263.out; have hcz292_0 := blkc5 BK264.out
       go_wp2_with (first | (go_at_call 17; (with_reducible refine (place_Check.calls kj21 a0_0 a0_1 a0_2 _ _ l0_3 _ _ l0_4 a0_5 a0_6 _ _ l0_7 a0_8 a0_9 a0_10 _ _ l1_0 _ _ l1_1 _ _ l1_2 a1_3 a1_4 t287 _ ?side1 ?side2 ?side3 ?side4 ?side5 ?side6 ?side7 ?side8 ?side9 ?side10 ?side11 ?side12 A144.out).mono ?_); (case side1 => exact xC (Kd.C_below HR0_3.out HB.out)); (case side2 => exact HC0_3.out); (case side3 => exact xC (Kd.C_below HR0_4.out HB.out)); (case side4 => exact HC0_4.out); (case side5 => exact xC (Kd.C_below HR0_7.out HB.out)); (case side6 => exact HC0_7.out); (case side7 => exact xC (Kd.C_below HR1_0.out HB.out)); (case side8 => exact HC1_0.out); (case side9 => exact xC (Kd.C_below HR1_1.out HB.out)); (case side10 => exact HC1_1.out); (case side11 => exact xC (Kd.C_below HR1_2.out HB.out)); (case side12 => exact HC1_2.out); rintro e w293 ⟨rfl, hb⟩; replace HO_276002 := Aside0.mk (Kd.R_below (by (with_reducible repeat (first | apply Kd.R_alloc | apply Kd.R_drewN | apply Kd.R_drew)); exact HO_276002.out) hb); replace HO_284002 := Aside0.mk (Kd.R_below (by (with_reducible repeat (first | apply Kd.R_alloc | apply Kd.R_drewN | apply Kd.R_drew)); exact HO_284002.out) hb); replace BK263 := Aside0.mk (xB BK263 hb); replace BK264 := Aside0.mk (xB BK264 hb); replace BK265 := Aside0.mk (xB BK265 hb); replace BK275 := Aside0.mk (xB BK275 hb); replace BK283 := Aside0.mk (xB BK283 hb); replace HB := Aside0.mk (xS HB hb); (try clear hb); (try clear hb2); (try clear hk); (try clear hi)))
       repeat (go_quiet (first | (go_at_call 17; (with_reducible refine (place_Check.calls kj21 a0_0 a0_1 a0_2 _ _ l0_3 _ _ l0_4 a0_5 a0_6 _ _ l0_7 a0_8 a0_9 a0_10 _ _ l1_0 _ _ l1_1 _ _ l1_2 a1_3 a1_4 t287 _ ?side1 ?side2 ?side3 ?side4 ?side5 ?side6 ?side7 ?side8 ?side9 ?side10 ?side11 ?side12 A144.out).mono ?_); (case side1 => exact xC (Kd.C_below HR0_3.out HB.out)); (case side2 => exact HC0_3.out); (case side3 => exact xC (Kd.C_below HR0_4.out HB.out)); (case side4 => exact HC0_4.out); (case side5 => exact xC (Kd.C_below HR0_7.out HB.out)); (case side6 => exact HC0_7.out); (case side7 => exact xC (Kd.C_below HR1_0.out HB.out)); (case side8 => exact HC1_0.out); (case side9 => exact xC (Kd.C_below HR1_1.out HB.out)); (case side10 => exact HC1_1.out); (case side11 => exact xC (Kd.C_below HR1_2.out HB.out)); (case side12 => exact HC1_2.out); rintro e w293 ⟨rfl, hb⟩; replace HO_276002 := Aside0.mk (Kd.R_below (by (with_reducible repeat (first | apply Kd.R_alloc | apply Kd.R_drewN | apply Kd.R_drew)); exact HO_276002.out) hb); replace HO_284002 := Aside0.mk (Kd.R_below (by (with_reducible repeat (first | apply Kd.R_alloc | apply Kd.R_drewN | apply Kd.R_drew)); exact HO_284002.out) hb); replace BK263 := Aside0.mk (xB BK263 hb); replace BK264 := Aside0.mk (xB BK264 hb); replace BK265 := Aside0.mk (xB BK265 hb); replace BK275 := Aside0.mk (xB BK275 hb); replace BK283 := Aside0.mk (xB BK283 hb); replace HB := Aside0.mk (xS HB hb); (try clear hb); (try clear hb2); (try clear hk); (try clear hi))); try go_wp2_with (first | (go_at_call 17; (with_reducible refine (place_Check.calls kj21 a0_0 a0_1 a0_2 _ _ l0_3 _ _ l0_4 a0_5 a0_6 _ _ l0_7 a0_8 a0_9 a0_10 _ _ l1_0 _ _ l1_1 _ _ l1_2 a1_3 a1_4 t287 _ ?side1 ?side2 ?side3 ?side4 ?side5 ?side6 ?side7 ?side8 ?side9 ?side10 ?side11 ?side12 A144.out).mono ?_); (case side1 => exact xC (Kd.C_below HR0_3.out HB.out)); (case side2 => exact HC0_3.out); (case side3 => exact xC (Kd.C_below HR0_4.out HB.out)); (case side4 => exact HC0_4.out); (case side5 => exact xC (Kd.C_below HR0_7.out HB.out)); (case side6 => exact HC0_7.out); (case side7 => exact xC (Kd.C_below HR1_0.out HB.out)); (case side8 => exact HC1_0.out); (case side9 => exact xC (Kd.C_below HR1_1.out HB.out)); (case side10 => exact HC1_1.out); (case side11 => exact xC (Kd.C_below HR1_2.out HB.out)); (case side12 => exact HC1_2.out); rintro e w293 ⟨rfl, hb⟩; replace HO_276002 := Aside0.mk (Kd.R_below (by (with_reducible repeat (first | apply Kd.R_alloc | apply Kd.R_drewN | apply Kd.R_drew)); exact HO_276002.out) hb); replace HO_284002 := Aside0.mk (Kd.R_below (by (with_reducible repeat (first | apply Kd.R_alloc | apply Kd.R_drewN | apply Kd.R_drew)); exact HO_284002.out) hb); replace BK263 := Aside0.mk (xB BK263 hb); replace BK264 := Aside0.mk (xB BK264 hb); replace BK265 := Aside0.mk (xB BK265 hb); replace BK275 := Aside0.mk (xB BK275 hb); replace BK283 := Aside0.mk (xB BK283 hb); replace HB := Aside0.mk (xS HB hb); (try clear hb); (try clear hb2); (try clear hk); (try clear hi))))
       go_ret
       exact ⟨xer, xW HB⟩⟩
    exact inferInstanceAs _
 ·replace c8 := Bool.eq_false_iff.mpr c8
  subst c8
  rw [if_neg (show ¬ (false = true) by decide)] at H
  obtain rfl := Option.some.inj H
  go_enter Try.func4, Try.ntmps4
  go_wp2_with (first | ((with_reducible refine gate_dst (N := 6) rfl ?_); (try (refine gate_guard (by rfl) ?_; dsimp only)); refine box_event ?hg (N := 6) ?hd (cs := #[.string a0_0, .int .i64 a0_1, .int .i64 a0_2, .slice A0_3 l0_3.length c0_3, .slice A0_4 l0_4.length c0_4, .bool a0_5, .bool a0_6, .slice A0_7 l0_7.length c0_7, .int .i64 a0_8, .int .i64 a0_9, .int .i64 a0_10]) (t := 44) ?hr ?_; (case hd => rfl); (case hg => rfl); (case hr => first | (go_simp; done) | (go_simp; rfl)); intro gb263 hg w294 hbox hb; have BK263 := Aside0.mk (hbox); have GW263 := Aside0.mk (xZ HB hg); have GE263 := Aside0.mk (xZ HB hg); replace HB := Aside0.mk (xS HB hb); clear hb hbox hg) | ((with_reducible refine gate_dst (N := 7) rfl ?_); (try (refine gate_guard (by rfl) ?_; dsimp only)); refine box_event ?hg (N := 7) ?hd (cs := #[.slice A1_0 l1_0.length c1_0, .slice A1_1 l1_1.length c1_1, .slice A1_2 l1_2.length c1_2, .int .i64 a1_3, .int .i64 a1_4]) (t := 47) ?hr ?_; (case hd => rfl); (case hg => rfl); (case hr => first | (go_simp; done) | (go_simp; rfl)); intro gb264 hg w295 hbox hb; have BK264 := Aside0.mk (hbox); have GW264 := Aside0.mk (xZ HB hg); have GE264 := Aside0.mk (xZ HB hg); have NB263_264 := Aside0.mk (xN BK263 hg); have NB264_263 := Aside0.mk (xM BK263 hg); replace BK263 := Aside0.mk (xB BK263 hb); replace HB := Aside0.mk (xS HB hb); clear hb hbox hg) | ((with_reducible refine gate_dst (N := 8) rfl ?_); (try (refine gate_guard (by rfl) ?_; dsimp only)); refine box_event ?hg (N := 8) ?hd (cs := #[.int .i64 a2_0, .int .i64 a2_1, .slice A2_2 l2_2.length c2_2, .int .i64 a2_3]) (t := 49) ?hr ?_; (case hd => rfl); (case hg => rfl); (case hr => first | (go_simp; done) | (go_simp; rfl)); intro gb265 hg w296 hbox hb; have BK265 := Aside0.mk (hbox); have GW265 := Aside0.mk (xZ HB hg); have GE265 := Aside0.mk (xZ HB hg); have NB263_265 := Aside0.mk (xN BK263 hg); have NB265_263 := Aside0.mk (xM BK263 hg); have NB264_265 := Aside0.mk (xN BK264 hg); have NB265_264 := Aside0.mk (xM BK264 hg); replace BK263 := Aside0.mk (xB BK263 hb); replace BK264 := Aside0.mk (xB BK264 hb); replace HB := Aside0.mk (xS HB hb); clear hb hbox hg) | (go_at_call 12; (with_reducible refine (gamehalllaw3_patterns.calls k  false _ A7.out).mono ?_); rintro e w297 ⟨rfl, hb⟩; replace BK263 := Aside0.mk (xB BK263 hb); replace BK264 := Aside0.mk (xB BK264 hb); replace BK265 := Aside0.mk (xB BK265 hb); replace HB := Aside0.mk (xS HB hb); (try clear hb); (try clear hb2); (try clear hk); (try clear hi)))
  repeat (go_quiet (first | ((with_reducible refine gate_dst (N := 6) rfl ?_); (try (refine gate_guard (by rfl) ?_; dsimp only)); refine box_event ?hg (N := 6) ?hd (cs := #[.string a0_0, .int .i64 a0_1, .int .i64 a0_2, .slice A0_3 l0_3.length c0_3, .slice A0_4 l0_4.length c0_4, .bool a0_5, .bool a0_6, .slice A0_7 l0_7.length c0_7, .int .i64 a0_8, .int .i64 a0_9, .int .i64 a0_10]) (t := 44) ?hr ?_; (case hd => rfl); (case hg => rfl); (case hr => first | (go_simp; done) | (go_simp; rfl)); intro gb263 hg w294 hbox hb; have BK263 := Aside0.mk (hbox); have GW263 := Aside0.mk (xZ HB hg); have GE263 := Aside0.mk (xZ HB hg); replace HB := Aside0.mk (xS HB hb); clear hb hbox hg) | ((with_reducible refine gate_dst (N := 7) rfl ?_); (try (refine gate_guard (by rfl) ?_; dsimp only)); refine box_event ?hg (N := 7) ?hd (cs := #[.slice A1_0 l1_0.length c1_0, .slice A1_1 l1_1.length c1_1, .slice A1_2 l1_2.length c1_2, .int .i64 a1_3, .int .i64 a1_4]) (t := 47) ?hr ?_; (case hd => rfl); (case hg => rfl); (case hr => first | (go_simp; done) | (go_simp; rfl)); intro gb264 hg w295 hbox hb; have BK264 := Aside0.mk (hbox); have GW264 := Aside0.mk (xZ HB hg); have GE264 := Aside0.mk (xZ HB hg); have NB263_264 := Aside0.mk (xN BK263 hg); have NB264_263 := Aside0.mk (xM BK263 hg); replace BK263 := Aside0.mk (xB BK263 hb); replace HB := Aside0.mk (xS HB hb); clear hb hbox hg) | ((with_reducible refine gate_dst (N := 8) rfl ?_); (try (refine gate_guard (by rfl) ?_; dsimp only)); refine box_event ?hg (N := 8) ?hd (cs := #[.int .i64 a2_0, .int .i64 a2_1, .slice A2_2 l2_2.length c2_2, .int .i64 a2_3]) (t := 49) ?hr ?_; (case hd => rfl); (case hg => rfl); (case hr => first | (go_simp; done) | (go_simp; rfl)); intro gb265 hg w296 hbox hb; have BK265 := Aside0.mk (hbox); have GW265 := Aside0.mk (xZ HB hg); have GE265 := Aside0.mk (xZ HB hg); have NB263_265 := Aside0.mk (xN BK263 hg); have NB265_263 := Aside0.mk (xM BK263 hg); have NB264_265 := Aside0.mk (xN BK264 hg); have NB265_264 := Aside0.mk (xM BK264 hg); replace BK263 := Aside0.mk (xB BK263 hb); replace BK264 := Aside0.mk (xB BK264 hb); replace HB := Aside0.mk (xS HB hb); clear hb hbox hg) | (go_at_call 12; (with_reducible refine (gamehalllaw3_patterns.calls k  false _ A7.out).mono ?_); rintro e w297 ⟨rfl, hb⟩; replace BK263 := Aside0.mk (xB BK263 hb); replace BK264 := Aside0.mk (xB BK264 hb); replace BK265 := Aside0.mk (xB BK265 hb); replace HB := Aside0.mk (xS HB hb); (try clear hb); (try clear hb2); (try clear hk); (try clear hi))); try go_wp2_with (first | ((with_reducible refine gate_dst (N := 6) rfl ?_); (try (refine gate_guard (by rfl) ?_; dsimp only)); refine box_event ?hg (N := 6) ?hd (cs := #[.string a0_0, .int .i64 a0_1, .int .i64 a0_2, .slice A0_3 l0_3.length c0_3, .slice A0_4 l0_4.length c0_4, .bool a0_5, .bool a0_6, .slice A0_7 l0_7.length c0_7, .int .i64 a0_8, .int .i64 a0_9, .int .i64 a0_10]) (t := 44) ?hr ?_; (case hd => rfl); (case hg => rfl); (case hr => first | (go_simp; done) | (go_simp; rfl)); intro gb263 hg w294 hbox hb; have BK263 := Aside0.mk (hbox); have GW263 := Aside0.mk (xZ HB hg); have GE263 := Aside0.mk (xZ HB hg); replace HB := Aside0.mk (xS HB hb); clear hb hbox hg) | ((with_reducible refine gate_dst (N := 7) rfl ?_); (try (refine gate_guard (by rfl) ?_; dsimp only)); refine box_event ?hg (N := 7) ?hd (cs := #[.slice A1_0 l1_0.length c1_0, .slice A1_1 l1_1.length c1_1, .slice A1_2 l1_2.length c1_2, .int .i64 a1_3, .int .i64 a1_4]) (t := 47) ?hr ?_; (case hd => rfl); (case hg => rfl); (case hr => first | (go_simp; done) | (go_simp; rfl)); intro gb264 hg w295 hbox hb; have BK264 := Aside0.mk (hbox); have GW264 := Aside0.mk (xZ HB hg); have GE264 := Aside0.mk (xZ HB hg); have NB263_264 := Aside0.mk (xN BK263 hg); have NB264_263 := Aside0.mk (xM BK263 hg); replace BK263 := Aside0.mk (xB BK263 hb); replace HB := Aside0.mk (xS HB hb); clear hb hbox hg) | ((with_reducible refine gate_dst (N := 8) rfl ?_); (try (refine gate_guard (by rfl) ?_; dsimp only)); refine box_event ?hg (N := 8) ?hd (cs := #[.int .i64 a2_0, .int .i64 a2_1, .slice A2_2 l2_2.length c2_2, .int .i64 a2_3]) (t := 49) ?hr ?_; (case hd => rfl); (case hg => rfl); (case hr => first | (go_simp; done) | (go_simp; rfl)); intro gb265 hg w296 hbox hb; have BK265 := Aside0.mk (hbox); have GW265 := Aside0.mk (xZ HB hg); have GE265 := Aside0.mk (xZ HB hg); have NB263_265 := Aside0.mk (xN BK263 hg); have NB265_263 := Aside0.mk (xM BK263 hg); have NB264_265 := Aside0.mk (xN BK264 hg); have NB265_264 := Aside0.mk (xM BK264 hg); replace BK263 := Aside0.mk (xB BK263 hb); replace BK264 := Aside0.mk (xB BK264 hb); replace HB := Aside0.mk (xS HB hb); clear hb hbox hg) | (go_at_call 12; (with_reducible refine (gamehalllaw3_patterns.calls k  false _ A7.out).mono ?_); rintro e w297 ⟨rfl, hb⟩; replace BK263 := Aside0.mk (xB BK263 hb); replace BK264 := Aside0.mk (xB BK264 hb); replace BK265 := Aside0.mk (xB BK265 hb); replace HB := Aside0.mk (xS HB hb); (try clear hb); (try clear hb2); (try clear hk); (try clear hi))))
  go_ret
  exact ⟨xer, xW HB⟩
def wf113 (x : S113) : Prop := ((Lit.int .i64 x.f0).wf = true) ∧ (((Lit.int .i64 x.f1).wf = true) ∧ (((Lit.int .i64 x.f2).wf = true) ∧ (((Lit.int .i64 x.f3).wf = true))))
theorem tells113 {W : World} : Tells Try.prog W 113 k113 wf113 := tells_iso (fun a => ⟨a.1, a.2.1, a.2.2.1, a.2.2.2⟩) (fun _ => rfl) (fun _ h => h) (tells_struct (l := [(3, 0), (3, 1), (3, 2), (3, 3)]) Try.underlying113 kr_ (tellsFs_cons (tells_int Try.underlying3) kr_ (tellsFs_cons (tells_int Try.underlying3) kr_ (tellsFs_cons (tells_int Try.underlying3) kr_ (tellsFs_one (tells_int Try.underlying3) kr_)))) kr_)
def wf101 (x : S101) : Prop := ((Lit.int .u8 x.f0).wf = true) ∧ (((Lit.int .i64 x.f1).wf = true) ∧ (((Lit.int .i64 x.f2).wf = true) ∧ ((x.f3.length * 32 ≤ 140737488351232 ∧ ∀ y_ ∈ x.f3, wf113 y_))))
theorem tells101 {W : World} : Tells Try.prog W 101 k101 wf101 := tells_iso (fun a => ⟨a.1, a.2.1, a.2.2.1, a.2.2.2⟩) (fun _ => rfl) (fun _ h => h) (tells_struct (l := [(5, 0), (3, 1), (3, 2), (99, 3)]) Try.underlying101 kr_ (tellsFs_cons (tells_int Try.underlying5) kr_ (tellsFs_cons (tells_int Try.underlying3) kr_ (tellsFs_cons (tells_int Try.underlying3) kr_ (tellsFs_one (tells_slice (W := W) Try.underlying99 tells113 kr_ kr_) kr_)))) kr_)
def wf103 (x : S103) : Prop := ((Lit.int .i64 x.f0).wf = true) ∧ (((Lit.int .i64 x.f1).wf = true) ∧ (((Lit.int .i64 x.f2).wf = true) ∧ ((True))))
theorem tells103 {W : World} : Tells Try.prog W 103 k103 wf103 := tells_iso (fun a => ⟨a.1, a.2.1, a.2.2.1, a.2.2.2⟩) (fun _ => rfl) (fun _ h => h) (tells_struct (l := [(3, 0), (3, 1), (3, 2), (4, 3)]) Try.underlying103 kr_ (tellsFs_cons (tells_int Try.underlying3) kr_ (tellsFs_cons (tells_int Try.underlying3) kr_ (tellsFs_cons (tells_int Try.underlying3) kr_ (tellsFs_one (tells_bool Try.underlying4) kr_)))) kr_)
def wf44 (x : S44) : Prop := (x.f0.size ≤ 140737488351232) ∧ (((Lit.int .i64 x.f1).wf = true) ∧ (((Lit.int .i64 x.f2).wf = true) ∧ ((x.f3.length * 48 ≤ 140737488351232 ∧ ∀ y_ ∈ x.f3, wf101 y_) ∧ ((x.f4.length * 8 ≤ 140737488351232 ∧ ∀ y_ ∈ x.f4, (Lit.int .i64 y_).wf = true) ∧ ((True) ∧ ((True) ∧ ((x.f7.length * 32 ≤ 140737488351232 ∧ ∀ y_ ∈ x.f7, wf103 y_) ∧ (((Lit.int .i64 x.f8).wf = true) ∧ (((Lit.int .i64 x.f9).wf = true) ∧ (((Lit.int .i64 x.f10).wf = true)))))))))))
theorem tells44 {W : World} : Tells Try.prog W 44 k44 wf44 := tells_iso (fun a => ⟨a.1, a.2.1, a.2.2.1, a.2.2.2.1, a.2.2.2.2.1, a.2.2.2.2.2.1, a.2.2.2.2.2.2.1, a.2.2.2.2.2.2.2.1, a.2.2.2.2.2.2.2.2.1, a.2.2.2.2.2.2.2.2.2.1, a.2.2.2.2.2.2.2.2.2.2⟩) (fun _ => rfl) (fun _ h => h) (tells_struct (l := [(9, 0), (3, 1), (3, 2), (41, 3), (31, 4), (4, 5), (4, 6), (42, 7), (3, 8), (3, 9), (3, 10)]) Try.underlying44 kr_ (tellsFs_cons (tells_string Try.underlying9) kr_ (tellsFs_cons (tells_int Try.underlying3) kr_ (tellsFs_cons (tells_int Try.underlying3) kr_ (tellsFs_cons (tells_slice (W := W) Try.underlying41 tells101 kr_ kr_) kr_ (tellsFs_cons (tells_slice (W := W) Try.underlying31 (tells_int Try.underlying3) kr_ kr_) kr_ (tellsFs_cons (tells_bool Try.underlying4) kr_ (tellsFs_cons (tells_bool Try.underlying4) kr_ (tellsFs_cons (tells_slice (W := W) Try.underlying42 tells103 kr_ kr_) kr_ (tellsFs_cons (tells_int Try.underlying3) kr_ (tellsFs_cons (tells_int Try.underlying3) kr_ (tellsFs_one (tells_int Try.underlying3) kr_))))))))))) kr_)
def wf45 (x : S45) : Prop := (x.f0.length * 8 ≤ 140737488351232 ∧ ∀ y_ ∈ x.f0, (Lit.int .i64 y_).wf = true) ∧ ((x.f1.length * 8 ≤ 140737488351232 ∧ ∀ y_ ∈ x.f1, (Lit.int .i64 y_).wf = true))
theorem tells45 {W : World} : Tells Try.prog W 45 k45 wf45 := tells_iso (fun a => ⟨a.1, a.2⟩) (fun _ => rfl) (fun _ h => h) (tells_array (c := 1) (l := [(31, 0), (31, 1)]) Try.underlying45 kr_ kr_ (tellsFs_cons (tells_slice (W := W) Try.underlying31 (tells_int Try.underlying3) kr_ kr_) kr_ (tellsFs_one (tells_slice (W := W) Try.underlying31 (tells_int Try.underlying3) kr_ kr_) kr_)) kr_)
def wf47 (x : S47) : Prop := (x.f0.length * 8 ≤ 140737488351232 ∧ ∀ y_ ∈ x.f0, (Lit.int .i64 y_).wf = true) ∧ ((wf45 x.f1) ∧ (((Lit.int .i64 x.f2).wf = true) ∧ (((Lit.int .i64 x.f3).wf = true))))
theorem tells47 {W : World} : Tells Try.prog W 47 k47 wf47 := tells_iso (fun a => ⟨a.1, a.2.1, a.2.2.1, a.2.2.2⟩) (fun _ => rfl) (fun _ h => h) (tells_struct (l := [(31, 0), (45, 1), (3, 3), (3, 4)]) Try.underlying47 kr_ (tellsFs_cons (tells_slice (W := W) Try.underlying31 (tells_int Try.underlying3) kr_ kr_) kr_ (tellsFs_cons tells45 kr_ (tellsFs_cons (tells_int Try.underlying3) kr_ (tellsFs_one (tells_int Try.underlying3) kr_)))) kr_)
def wf49 (x : S49) : Prop := ((Lit.int .i64 x.f0).wf = true) ∧ (((Lit.int .i64 x.f1).wf = true) ∧ ((x.f2.length * 8 ≤ 140737488351232 ∧ ∀ y_ ∈ x.f2, (Lit.int .i64 y_).wf = true) ∧ (((Lit.int .i64 x.f3).wf = true))))
theorem tells49 {W : World} : Tells Try.prog W 49 k49 wf49 := tells_iso (fun a => ⟨a.1, a.2.1, a.2.2.1, a.2.2.2⟩) (fun _ => rfl) (fun _ h => h) (tells_struct (l := [(3, 0), (3, 1), (31, 2), (3, 3)]) Try.underlying49 kr_ (tellsFs_cons (tells_int Try.underlying3) kr_ (tellsFs_cons (tells_int Try.underlying3) kr_ (tellsFs_cons (tells_slice (W := W) Try.underlying31 (tells_int Try.underlying3) kr_ kr_) kr_ (tellsFs_one (tells_int Try.underlying3) kr_)))) kr_)

/-- THE ONE PURE STATEMENT of gamehalllaw3_PatternCuts: yours. -/
def gamehalllaw3_PatternCuts.Pure : Prop := ∀ (x0 : S44) (x1 : S47) (x2 : S49) (a3 : Int) (a4 : Int) (a5 : Int), (wf44 x0) → (wf47 x1) → (wf49 x2) → ((Lit.int .i64 a3).wf = true) → ((Lit.int .i64 a4).wf = true) → ((Lit.int .i64 a5).wf = true) → ∃ k, gamehalllaw3_PatternCuts.f k x0.f0 x0.f1 x0.f2 x0.f3 x0.f4 x0.f5 x0.f6 x0.f7 x0.f8 x0.f9 x0.f10 x1.f0 x1.f1.f0 x1.f1.f1 x1.f2 x1.f3 x2.f0 x2.f1 x2.f2 x2.f3 a3 a4 a5 = some true
theorem gamehalllaw3_PatternCuts.walk (P : gamehalllaw3_PatternCuts.Pure) (x0 : S44) (v0 : Array Value) (x1 : S47) (v1 : Array Value) (x2 : S49) (v2 : Array Value) (a3 : Int) (a4 : Int) (a5 : Int) (w : World) (hK0 : k44.K w x0 v0.toList) (w0 : wf44 x0) (hK1 : k47.K w x1 v1.toList) (w1 : wf47 x1) (hK2 : k49.K w x2 v2.toList) (w2 : wf49 x2) (w3 : (Lit.int .i64 a3).wf = true) (w4 : (Lit.int .i64 a4).wf = true) (w5 : (Lit.int .i64 a5).wf = true) :
  Calls Try.prog 4 #[.agg v0, .agg v1, .agg v2, .int .i64 a3, .int .i64 a4, .int .i64 a5] w fun e w' => e = .returned (.bool true) ∧ Below w.heap.size w w' := by
 obtain ⟨A0_3, c0_3, A0_4, c0_4, A0_7, c0_7, hcs0, hl0_3, hg0_3, hl0_4, hg0_4, hl0_7, hg0_7⟩ := k44_open hK0
 obtain rfl : v0 = #[.string x0.f0, .int .i64 x0.f1, .int .i64 x0.f2, .slice A0_3 x0.f3.length c0_3, .slice A0_4 x0.f4.length c0_4, .bool x0.f5, .bool x0.f6, .slice A0_7 x0.f7.length c0_7, .int .i64 x0.f8, .int .i64 x0.f9, .int .i64 x0.f10] := Array.ext' hcs0
 obtain ⟨A1_0, c1_0, A1_1, c1_1, A1_2, c1_2, hcs1, hl1_0, hg1_0, hl1_1, hg1_1, hl1_2, hg1_2⟩ := k47_open hK1
 obtain rfl : v1 = #[.slice A1_0 x1.f0.length c1_0, .slice A1_1 x1.f1.f0.length c1_1, .slice A1_2 x1.f1.f1.length c1_2, .int .i64 x1.f2, .int .i64 x1.f3] := Array.ext' hcs1
 obtain ⟨A2_2, c2_2, hcs2, hl2_2, hg2_2⟩ := k49_open hK2
 obtain rfl : v2 = #[.int .i64 x2.f0, .int .i64 x2.f1, .slice A2_2 x2.f2.length c2_2, .int .i64 x2.f3] := Array.ext' hcs2
 obtain ⟨k, h⟩ := P x0 x1 x2 a3 a4 a5 w0 w1 w2 w3 w4 w5
 refine (gamehalllaw3_PatternCuts.calls k x0.f0 x0.f1 x0.f2 A0_3 c0_3 x0.f3 A0_4 c0_4 x0.f4 x0.f5 x0.f6 A0_7 c0_7 x0.f7 x0.f8 x0.f9 x0.f10 A1_0 c1_0 x1.f0 A1_1 c1_1 x1.f1.f0 A1_2 c1_2 x1.f1.f1 x1.f2 x1.f3 x2.f0 x2.f1 A2_2 c2_2 x2.f2 x2.f3 a3 a4 a5 true w hg0_3 hl0_3 hg0_4 hl0_4 hg0_7 hl0_7 hg1_0 hl1_0 hg1_1 hl1_1 hg1_2 hl1_2 hg2_2 hl2_2 h).mono ?_
 rintro e w' ⟨rfl, hd⟩
 exact ⟨rfl, hd⟩

end Go.Proofs.Ytemfkhafkhkffaa.PPatternCuts
