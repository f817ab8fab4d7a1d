-- Printed by a program of this claim's writer (wip/ext): an extension of the kit's print.
import Derived.Test.YtikijopbgjncbaaPSymmMapsx0
import Derived.Test.YtikijopbgjncbaaPSymmMapsx1
import Derived.Test.YtikijopbgjncbaaPSymmMapsx2
namespace Go.Proofs.Ytikijopbgjncbaa.PSymmMaps
open Go.RowKit Go.Proofs.YtikijopbgjncbaaW.PrintWords Go.Proofs.YtikijopbgjncbaaW.PrintLast Go.Proofs.YtikijopbgjncbaaW.PrintMore
attribute [local go_sem] max2_int min2_int max_two min_two max_three min_three max_four min_four   -- for this text's walks alone
set_option linter.unusedVariables false
set_option linter.unusedSimpArgs false

/-! ### gamehalllaw1_SymmMaps: function 4 -/
mutual
def gamehalllaw1_SymmMaps.j0 : Nat → Int → Int → Int → Int → List Int → Bool → Option (Bool)
  | 0, _, _, _, _, _, _ => none
  | k + 1, x0, x1, x2, x3, x4, x42 => if x42 = true then (some false) else ((symm_Orbit.f k 3 2 0).bind fun bt131 => (if bt131.2 = 0 then ((gamehallref1_SameInts.f k bt131.1 (([0, 2, 3, 5] : List Int))).bind fun t138 => (gamehalllaw1_SymmMaps.j1 k x0 x1 x2 x3 x4 (!t138))) else (gamehalllaw1_SymmMaps.j1 k x0 x1 x2 x3 x4 true)))
def gamehalllaw1_SymmMaps.j1 : Nat → Int → Int → Int → Int → List Int → Bool → Option (Bool)
  | 0, _, _, _, _, _, _ => none
  | k + 1, x0, x1, x2, x3, x4, x54 => if x54 = true then (some false) else ((symm_Apply.f k 2 1 1 (([5, 6] : List Int))).bind fun bt142 => (if bt142.2 = 0 then ((gamehallref1_SameInts.f k bt142.1 (([6, 5] : List Int))).bind fun t149 => (gamehalllaw1_SymmMaps.j2 k x0 x1 x2 x3 x4 (!t149))) else (gamehalllaw1_SymmMaps.j2 k x0 x1 x2 x3 x4 true)))
def gamehalllaw1_SymmMaps.j2 : Nat → Int → Int → Int → Int → List Int → Bool → Option (Bool)
  | 0, _, _, _, _, _, _ => none
  | k + 1, x0, x1, x2, x3, x4, x67 => if x67 = true then (some false) else ((symm_Map.f k x0 x1 x2 x3).bind fun bt150 => ((symm_Apply.f k x0 x1 x2 x4).bind fun bt152 => ((symm_Orbit.f k x0 x1 x3).bind fun bt156 => ((symm_All.f k x0 x1).bind fun bt160 => ((gamehallref1_Symmetries.f k x0 x1).bind fun t164 => (if t164 = 0 then (if bt150.2 = 4 then (if bt152.2 = 4 then (if bt156.2 = 4 then (if bt160.2 = 4 then (if bt150.1 = 0 then (some ((wrap64 ((wrap64 ((bt152.1.length : Int) + (bt156.1.length : Int))) + (bt160.1.length : Int))) == 0)) else (some false)) else (some false)) else (some false)) else (some false)) else (some false)) else (if bt160.2 = 0 then (gamehalllaw1_SymmMaps.j3 k x0 x1 x2 x3 x4 bt150.1 bt150.2 bt152.1 bt152.2 bt156.1 bt156.2 t164 ((bt160.1.length : Int) != t164)) else (gamehalllaw1_SymmMaps.j3 k x0 x1 x2 x3 x4 bt150.1 bt150.2 bt152.1 bt152.2 bt156.1 bt156.2 t164 true))))))))
def gamehalllaw1_SymmMaps.j3 : Nat → Int → Int → Int → Int → List Int → Int → Int → List Int → Int → List Int → Int → Int → Bool → Option (Bool)
  | 0, _, _, _, _, _, _, _, _, _, _, _, _, _ => none
  | k + 1, x0, x1, x2, x3, x4, x17, x18, x19, x20, x21, x22, x25, x138 => if x138 = true then (some false) else ((gamehallref1_In.f x3 0 (wrap64 ((wrap64 (x0 * x1)) - 1))).bind fun t165 => (if (t165 != (x22 == 0)) = true then (gamehalllaw1_SymmMaps.j4 k x0 x1 x2 x3 x4 x17 x18 x19 x20 x21 x25 t165 true) else (if t165 = true then (gamehalllaw1_SymmMaps.j4 k x0 x1 x2 x3 x4 x17 x18 x19 x20 x21 x25 t165 false) else (gamehalllaw1_SymmMaps.j4 k x0 x1 x2 x3 x4 x17 x18 x19 x20 x21 x25 t165 (x22 != 4)))))
def gamehalllaw1_SymmMaps.j4 : Nat → Int → Int → Int → Int → List Int → Int → Int → List Int → Int → List Int → Int → Bool → Bool → Option (Bool)
  | 0, _, _, _, _, _, _, _, _, _, _, _, _, _ => none
  | k + 1, x0, x1, x2, x3, x4, x17, x18, x19, x20, x21, x25, x26, x156 => if x156 = true then (some false) else (gamehalllaw1_SymmMaps.l0 k x0 x1 x2 x3 x4 x17 x18 x19 x20 x21 x25 x26 0 (wrap64 (x0 * x1)) 0)
def gamehalllaw1_SymmMaps.l0 : Nat → Int → Int → Int → Int → List Int → Int → Int → List Int → Int → List Int → Int → Bool → Int → Int → Int → Option (Bool)
  | 0, _, _, _, _, _, _, _, _, _, _, _, _, _, _, _ => none
  | k + 1, x0, x1, x2, x3, x4, x17, x18, x19, x20, x21, x25, x26, x27, x159, x160 => if x160 < x159 then (gamehalllaw1_SymmMaps.l1 k x0 x1 x2 x3 x4 x17 x18 x19 x20 x21 x25 x26 x27 x160 false 0 x159 x160) else (if x27 = (x21.length : Int) then ((gamehallref1_In.f x2 0 (wrap64 (x25 - 1))).bind fun t168 => (if t168 = true then (if x26 = true then (if x18 = 0 then ((gamehallref1_Moved.f k x0 x1 x2 x3).bind fun t169 => (gamehalllaw1_SymmMaps.j9 k x0 x1 x2 x4 x19 x20 (x17 != t169))) else (gamehalllaw1_SymmMaps.j9 k x0 x1 x2 x4 x19 x20 true)) else (if x18 = 4 then (if x17 = 0 then (gamehalllaw1_SymmMaps.j9 k x0 x1 x2 x4 x19 x20 false) else (gamehalllaw1_SymmMaps.j9 k x0 x1 x2 x4 x19 x20 true)) else (gamehalllaw1_SymmMaps.j9 k x0 x1 x2 x4 x19 x20 true))) else (if x18 = 8 then (if x20 = 8 then (if x17 = 0 then (some ((x19.length : Int) == 0)) else (some false)) else (some false)) else (some false)))) else (some false))
def gamehalllaw1_SymmMaps.j7 : Nat → Int → Int → Int → Int → List Int → Int → Int → List Int → Int → List Int → Int → Bool → Int → Int → Bool → Int → Int → Option (Bool)
  | 0, _, _, _, _, _, _, _, _, _, _, _, _, _, _, _, _, _ => none
  | k + 1, x0, x1, x2, x3, x4, x17, x18, x19, x20, x21, x25, x26, x27, x28, x29, x159, x160 => if x29 = true then (if x27 ≥ (x21.length : Int) then (gamehalllaw1_SymmMaps.j8 k x0 x1 x2 x3 x4 x17 x18 x19 x20 x21 x25 x26 x27 x29 x159 x160 true) else (if 0 ≤ x27 then (if x27 < (x21.length : Int) then (gamehalllaw1_SymmMaps.j8 k x0 x1 x2 x3 x4 x17 x18 x19 x20 x21 x25 x26 x27 x29 x159 x160 ((rd x21 x27) != x28)) else (none)) else (none))) else (gamehalllaw1_SymmMaps.j8 k x0 x1 x2 x3 x4 x17 x18 x19 x20 x21 x25 x26 x27 x29 x159 x160 false)
def gamehalllaw1_SymmMaps.j8 : Nat → Int → Int → Int → Int → List Int → Int → Int → List Int → Int → List Int → Int → Bool → Int → Bool → Int → Int → Bool → Option (Bool)
  | 0, _, _, _, _, _, _, _, _, _, _, _, _, _, _, _, _, _ => none
  | k + 1, x0, x1, x2, x3, x4, x17, x18, x19, x20, x21, x25, x26, x27, x29, x159, x160, x195 => if x195 = true then (some false) else (if x29 = true then (gamehalllaw1_SymmMaps.l0 k x0 x1 x2 x3 x4 x17 x18 x19 x20 x21 x25 x26 (wrap64 (x27 + 1)) x159 (wrap64 (x160 + 1))) else (gamehalllaw1_SymmMaps.l0 k x0 x1 x2 x3 x4 x17 x18 x19 x20 x21 x25 x26 x27 x159 (wrap64 (x160 + 1))))
def gamehalllaw1_SymmMaps.l1 : Nat → Int → Int → Int → Int → List Int → Int → Int → List Int → Int → List Int → Int → Bool → Int → Int → Bool → Int → Int → Int → Option (Bool)
  | 0, _, _, _, _, _, _, _, _, _, _, _, _, _, _, _, _, _, _ => none
  | k + 1, x0, x1, x2, x3, x4, x17, x18, x19, x20, x21, x25, x26, x27, x28, x29, x30, x159, x160 => if x26 = true then (if x30 < x25 then (if x29 = true then (gamehalllaw1_SymmMaps.l1 k x0 x1 x2 x3 x4 x17 x18 x19 x20 x21 x25 x26 x27 x28 true (wrap64 (x30 + 1)) x159 x160) else ((gamehallref1_Moved.f k x0 x1 x30 x3).bind fun t166 => (gamehalllaw1_SymmMaps.l1 k x0 x1 x2 x3 x4 x17 x18 x19 x20 x21 x25 x26 x27 x28 (t166 == x28) (wrap64 (x30 + 1)) x159 x160))) else (gamehalllaw1_SymmMaps.j7 k x0 x1 x2 x3 x4 x17 x18 x19 x20 x21 x25 x26 x27 x28 x29 x159 x160)) else (gamehalllaw1_SymmMaps.j7 k x0 x1 x2 x3 x4 x17 x18 x19 x20 x21 x25 x26 x27 x28 x29 x159 x160)
def gamehalllaw1_SymmMaps.j9 : Nat → Int → Int → Int → List Int → List Int → Int → Bool → Option (Bool)
  | 0, _, _, _, _, _, _, _ => none
  | k + 1, x0, x1, x2, x4, x19, x20, x249 => if x249 = true then (some false) else (if (x4.length : Int) = (wrap64 (x0 * x1)) then (if x20 = 0 then (gamehalllaw1_SymmMaps.j10 k x0 x1 x2 x4 x19 ((x19.length : Int) != (x4.length : Int))) else (gamehalllaw1_SymmMaps.j10 k x0 x1 x2 x4 x19 true)) else (if x20 = 3 then (some ((x19.length : Int) == 0)) else (some false)))
def gamehalllaw1_SymmMaps.j10 : Nat → Int → Int → Int → List Int → List Int → Bool → Option (Bool)
  | 0, _, _, _, _, _, _ => none
  | k + 1, x0, x1, x2, x4, x19, x271 => if x271 = true then (some false) else (gamehalllaw1_SymmMaps.l2 k x0 x1 x2 x19 x4 (x4.length : Int) 0)
def gamehalllaw1_SymmMaps.l2 : Nat → Int → Int → Int → List Int → List Int → Int → Int → Option (Bool)
  | 0, _, _, _, _, _, _, _ => none
  | k + 1, x0, x1, x2, x19, x272, x273, x274 => if x274 < x273 then (if 0 ≤ x274 then (if x274 < (x272.length : Int) then ((gamehallref1_Moved.f k x0 x1 x2 x274).bind fun t171 => (if 0 ≤ t171 then (if t171 < (x19.length : Int) then (if (rd x19 t171) = (rd x272 x274) then (gamehalllaw1_SymmMaps.l2 k x0 x1 x2 x19 x272 x273 (wrap64 (x274 + 1))) else (some false)) else (none)) else (none))) else (none)) else (none)) else (some true)
end
def gamehalllaw1_SymmMaps.f (k : Nat) (a0 : Int) (a1 : Int) (a2 : Int) (a3 : Int) (l4 : List Int) : Option (Bool) := (symm_Map.f k 3 3 5 0).bind fun bt129 => (if bt129.2 = 0 then (gamehalllaw1_SymmMaps.j0 k a0 a1 a2 a3 l4 (bt129.1 != 2)) else (gamehalllaw1_SymmMaps.j0 k a0 a1 a2 a3 l4 true))
theorem gamehalllaw1_SymmMaps.mono_l : ∀ k, (∀ y0 y1 y2 y3 y4 y5, LeO (gamehalllaw1_SymmMaps.j0 k y0 y1 y2 y3 y4 y5) (gamehalllaw1_SymmMaps.j0 (k + 1) y0 y1 y2 y3 y4 y5)) ∧ (∀ y0 y1 y2 y3 y4 y5, LeO (gamehalllaw1_SymmMaps.j1 k y0 y1 y2 y3 y4 y5) (gamehalllaw1_SymmMaps.j1 (k + 1) y0 y1 y2 y3 y4 y5)) ∧ (∀ y0 y1 y2 y3 y4 y5, LeO (gamehalllaw1_SymmMaps.j2 k y0 y1 y2 y3 y4 y5) (gamehalllaw1_SymmMaps.j2 (k + 1) y0 y1 y2 y3 y4 y5)) ∧ (∀ y0 y1 y2 y3 y4 y5 y6 y7 y8 y9 y10 y11 y12, LeO (gamehalllaw1_SymmMaps.j3 k y0 y1 y2 y3 y4 y5 y6 y7 y8 y9 y10 y11 y12) (gamehalllaw1_SymmMaps.j3 (k + 1) y0 y1 y2 y3 y4 y5 y6 y7 y8 y9 y10 y11 y12)) ∧ (∀ y0 y1 y2 y3 y4 y5 y6 y7 y8 y9 y10 y11 y12, LeO (gamehalllaw1_SymmMaps.j4 k y0 y1 y2 y3 y4 y5 y6 y7 y8 y9 y10 y11 y12) (gamehalllaw1_SymmMaps.j4 (k + 1) y0 y1 y2 y3 y4 y5 y6 y7 y8 y9 y10 y11 y12)) ∧ (∀ y0 y1 y2 y3 y4 y5 y6 y7 y8 y9 y10 y11 y12 y13 y14, LeO (gamehalllaw1_SymmMaps.l0 k y0 y1 y2 y3 y4 y5 y6 y7 y8 y9 y10 y11 y12 y13 y14) (gamehalllaw1_SymmMaps.l0 (k + 1) y0 y1 y2 y3 y4 y5 y6 y7 y8 y9 y10 y11 y12 y13 y14)) ∧ (∀ y0 y1 y2 y3 y4 y5 y6 y7 y8 y9 y10 y11 y12 y13 y14 y15 y16, LeO (gamehalllaw1_SymmMaps.j7 k y0 y1 y2 y3 y4 y5 y6 y7 y8 y9 y10 y11 y12 y13 y14 y15 y16) (gamehalllaw1_SymmMaps.j7 (k + 1) y0 y1 y2 y3 y4 y5 y6 y7 y8 y9 y10 y11 y12 y13 y14 y15 y16)) ∧ (∀ y0 y1 y2 y3 y4 y5 y6 y7 y8 y9 y10 y11 y12 y13 y14 y15 y16, LeO (gamehalllaw1_SymmMaps.j8 k y0 y1 y2 y3 y4 y5 y6 y7 y8 y9 y10 y11 y12 y13 y14 y15 y16) (gamehalllaw1_SymmMaps.j8 (k + 1) y0 y1 y2 y3 y4 y5 y6 y7 y8 y9 y10 y11 y12 y13 y14 y15 y16)) ∧ (∀ y0 y1 y2 y3 y4 y5 y6 y7 y8 y9 y10 y11 y12 y13 y14 y15 y16 y17, LeO (gamehalllaw1_SymmMaps.l1 k y0 y1 y2 y3 y4 y5 y6 y7 y8 y9 y10 y11 y12 y13 y14 y15 y16 y17) (gamehalllaw1_SymmMaps.l1 (k + 1) y0 y1 y2 y3 y4 y5 y6 y7 y8 y9 y10 y11 y12 y13 y14 y15 y16 y17)) ∧ (∀ y0 y1 y2 y3 y4 y5 y6, LeO (gamehalllaw1_SymmMaps.j9 k y0 y1 y2 y3 y4 y5 y6) (gamehalllaw1_SymmMaps.j9 (k + 1) y0 y1 y2 y3 y4 y5 y6)) ∧ (∀ y0 y1 y2 y3 y4 y5, LeO (gamehalllaw1_SymmMaps.j10 k y0 y1 y2 y3 y4 y5) (gamehalllaw1_SymmMaps.j10 (k + 1) y0 y1 y2 y3 y4 y5)) ∧ (∀ y0 y1 y2 y3 y4 y5 y6, LeO (gamehalllaw1_SymmMaps.l2 k y0 y1 y2 y3 y4 y5 y6) (gamehalllaw1_SymmMaps.l2 (k + 1) y0 y1 y2 y3 y4 y5 y6))
  | 0 => ⟨fun _ _ _ _ _ _ r h => by simp [gamehalllaw1_SymmMaps.j0] at h, fun _ _ _ _ _ _ r h => by simp [gamehalllaw1_SymmMaps.j1] at h, fun _ _ _ _ _ _ r h => by simp [gamehalllaw1_SymmMaps.j2] at h, fun _ _ _ _ _ _ _ _ _ _ _ _ _ r h => by simp [gamehalllaw1_SymmMaps.j3] at h, fun _ _ _ _ _ _ _ _ _ _ _ _ _ r h => by simp [gamehalllaw1_SymmMaps.j4] at h, fun _ _ _ _ _ _ _ _ _ _ _ _ _ _ _ r h => by simp [gamehalllaw1_SymmMaps.l0] at h, fun _ _ _ _ _ _ _ _ _ _ _ _ _ _ _ _ _ r h => by simp [gamehalllaw1_SymmMaps.j7] at h, fun _ _ _ _ _ _ _ _ _ _ _ _ _ _ _ _ _ r h => by simp [gamehalllaw1_SymmMaps.j8] at h, fun _ _ _ _ _ _ _ _ _ _ _ _ _ _ _ _ _ _ r h => by simp [gamehalllaw1_SymmMaps.l1] at h, fun _ _ _ _ _ _ _ r h => by simp [gamehalllaw1_SymmMaps.j9] at h, fun _ _ _ _ _ _ r h => by simp [gamehalllaw1_SymmMaps.j10] at h, fun _ _ _ _ _ _ _ r h => by simp [gamehalllaw1_SymmMaps.l2] at h⟩
  | k + 1 => by
    obtain ⟨ih0, ih1, ih2, ih3, ih4, ih5, ih6, ih7, ih8, ih9, ih10, ih11⟩ := gamehalllaw1_SymmMaps.mono_l k
    refine ⟨?_, ?_, ?_, ?_, ?_, ?_, ?_, ?_, ?_, ?_, ?_, ?_⟩
    · intros
      unfold gamehalllaw1_SymmMaps.j0
      repeat' first
      | (with_reducible apply ih0)
      | (with_reducible apply ih1)
      | (with_reducible apply ih2)
      | (with_reducible apply ih3)
      | (with_reducible apply ih4)
      | (with_reducible apply ih5)
      | (with_reducible apply ih6)
      | (with_reducible apply ih7)
      | (with_reducible apply ih8)
      | (with_reducible apply ih9)
      | (with_reducible apply ih10)
      | (with_reducible apply ih11)
      | (with_reducible apply gamehallref1_Moved.mono)
      | (with_reducible apply gamehallref1_SameInts.mono)
      | (with_reducible apply gamehallref1_Symmetries.mono)
      | (with_reducible apply symm_All.mono)
      | (with_reducible apply symm_Apply.mono)
      | (with_reducible apply symm_Map.mono)
      | (with_reducible apply symm_Orbit.mono)
      | (with_reducible exact LeO.refl _)
      | (with_reducible exact LeO.none _)
      | (with_reducible refine LeO.ite ?_ ?_)
      | (with_reducible refine LeO.bind ?_ (fun _ => ?_))
      | apply ih0
      | apply ih1
      | apply ih2
      | apply ih3
      | apply ih4
      | apply ih5
      | apply ih6
      | apply ih7
      | apply ih8
      | apply ih9
      | apply ih10
      | apply ih11
      | apply gamehallref1_Moved.mono
      | apply gamehallref1_SameInts.mono
      | apply gamehallref1_Symmetries.mono
      | apply symm_All.mono
      | apply symm_Apply.mono
      | apply symm_Map.mono
      | apply symm_Orbit.mono
      | exact LeO.none _
      | refine LeO.ite ?_ ?_
      | refine LeO.bind ?_ (fun _ => ?_)
    · intros
      unfold gamehalllaw1_SymmMaps.j1
      repeat' first
      | (with_reducible apply ih0)
      | (with_reducible apply ih1)
      | (with_reducible apply ih2)
      | (with_reducible apply ih3)
      | (with_reducible apply ih4)
      | (with_reducible apply ih5)
      | (with_reducible apply ih6)
      | (with_reducible apply ih7)
      | (with_reducible apply ih8)
      | (with_reducible apply ih9)
      | (with_reducible apply ih10)
      | (with_reducible apply ih11)
      | (with_reducible apply gamehallref1_Moved.mono)
      | (with_reducible apply gamehallref1_SameInts.mono)
      | (with_reducible apply gamehallref1_Symmetries.mono)
      | (with_reducible apply symm_All.mono)
      | (with_reducible apply symm_Apply.mono)
      | (with_reducible apply symm_Map.mono)
      | (with_reducible apply symm_Orbit.mono)
      | (with_reducible exact LeO.refl _)
      | (with_reducible exact LeO.none _)
      | (with_reducible refine LeO.ite ?_ ?_)
      | (with_reducible refine LeO.bind ?_ (fun _ => ?_))
      | apply ih0
      | apply ih1
      | apply ih2
      | apply ih3
      | apply ih4
      | apply ih5
      | apply ih6
      | apply ih7
      | apply ih8
      | apply ih9
      | apply ih10
      | apply ih11
      | apply gamehallref1_Moved.mono
      | apply gamehallref1_SameInts.mono
      | apply gamehallref1_Symmetries.mono
      | apply symm_All.mono
      | apply symm_Apply.mono
      | apply symm_Map.mono
      | apply symm_Orbit.mono
      | exact LeO.none _
      | refine LeO.ite ?_ ?_
      | refine LeO.bind ?_ (fun _ => ?_)
    · intros
      unfold gamehalllaw1_SymmMaps.j2
      repeat' first
      | (with_reducible apply ih0)
      | (with_reducible apply ih1)
      | (with_reducible apply ih2)
      | (with_reducible apply ih3)
      | (with_reducible apply ih4)
      | (with_reducible apply ih5)
      | (with_reducible apply ih6)
      | (with_reducible apply ih7)
      | (with_reducible apply ih8)
      | (with_reducible apply ih9)
      | (with_reducible apply ih10)
      | (with_reducible apply ih11)
      | (with_reducible apply gamehallref1_Moved.mono)
      | (with_reducible apply gamehallref1_SameInts.mono)
      | (with_reducible apply gamehallref1_Symmetries.mono)
      | (with_reducible apply symm_All.mono)
      | (with_reducible apply symm_Apply.mono)
      | (with_reducible apply symm_Map.mono)
      | (with_reducible apply symm_Orbit.mono)
      | (with_reducible exact LeO.refl _)
      | (with_reducible exact LeO.none _)
      | (with_reducible refine LeO.ite ?_ ?_)
      | (with_reducible refine LeO.bind ?_ (fun _ => ?_))
      | apply ih0
      | apply ih1
      | apply ih2
      | apply ih3
      | apply ih4
      | apply ih5
      | apply ih6
      | apply ih7
      | apply ih8
      | apply ih9
      | apply ih10
      | apply ih11
      | apply gamehallref1_Moved.mono
      | apply gamehallref1_SameInts.mono
      | apply gamehallref1_Symmetries.mono
      | apply symm_All.mono
      | apply symm_Apply.mono
      | apply symm_Map.mono
      | apply symm_Orbit.mono
      | exact LeO.none _
      | refine LeO.ite ?_ ?_
      | refine LeO.bind ?_ (fun _ => ?_)
    · intros
      unfold gamehalllaw1_SymmMaps.j3
      repeat' first
      | (with_reducible apply ih0)
      | (with_reducible apply ih1)
      | (with_reducible apply ih2)
      | (with_reducible apply ih3)
      | (with_reducible apply ih4)
      | (with_reducible apply ih5)
      | (with_reducible apply ih6)
      | (with_reducible apply ih7)
      | (with_reducible apply ih8)
      | (with_reducible apply ih9)
      | (with_reducible apply ih10)
      | (with_reducible apply ih11)
      | (with_reducible apply gamehallref1_Moved.mono)
      | (with_reducible apply gamehallref1_SameInts.mono)
      | (with_reducible apply gamehallref1_Symmetries.mono)
      | (with_reducible apply symm_All.mono)
      | (with_reducible apply symm_Apply.mono)
      | (with_reducible apply symm_Map.mono)
      | (with_reducible apply symm_Orbit.mono)
      | (with_reducible exact LeO.refl _)
      | (with_reducible exact LeO.none _)
      | (with_reducible refine LeO.ite ?_ ?_)
      | (with_reducible refine LeO.bind ?_ (fun _ => ?_))
      | apply ih0
      | apply ih1
      | apply ih2
      | apply ih3
      | apply ih4
      | apply ih5
      | apply ih6
      | apply ih7
      | apply ih8
      | apply ih9
      | apply ih10
      | apply ih11
      | apply gamehallref1_Moved.mono
      | apply gamehallref1_SameInts.mono
      | apply gamehallref1_Symmetries.mono
      | apply symm_All.mono
      | apply symm_Apply.mono
      | apply symm_Map.mono
      | apply symm_Orbit.mono
      | exact LeO.none _
      | refine LeO.ite ?_ ?_
      | refine LeO.bind ?_ (fun _ => ?_)
    · intros
      unfold gamehalllaw1_SymmMaps.j4
      repeat' first
      | (with_reducible apply ih0)
      | (with_reducible apply ih1)
      | (with_reducible apply ih2)
      | (with_reducible apply ih3)
      | (with_reducible apply ih4)
      | (with_reducible apply ih5)
      | (with_reducible apply ih6)
      | (with_reducible apply ih7)
      | (with_reducible apply ih8)
      | (with_reducible apply ih9)
      | (with_reducible apply ih10)
      | (with_reducible apply ih11)
      | (with_reducible apply gamehallref1_Moved.mono)
      | (with_reducible apply gamehallref1_SameInts.mono)
      | (with_reducible apply gamehallref1_Symmetries.mono)
      | (with_reducible apply symm_All.mono)
      | (with_reducible apply symm_Apply.mono)
      | (with_reducible apply symm_Map.mono)
      | (with_reducible apply symm_Orbit.mono)
      | (with_reducible exact LeO.refl _)
      | (with_reducible exact LeO.none _)
      | (with_reducible refine LeO.ite ?_ ?_)
      | (with_reducible refine LeO.bind ?_ (fun _ => ?_))
      | apply ih0
      | apply ih1
      | apply ih2
      | apply ih3
      | apply ih4
      | apply ih5
      | apply ih6
      | apply ih7
      | apply ih8
      | apply ih9
      | apply ih10
      | apply ih11
      | apply gamehallref1_Moved.mono
      | apply gamehallref1_SameInts.mono
      | apply gamehallref1_Symmetries.mono
      | apply symm_All.mono
      | apply symm_Apply.mono
      | apply symm_Map.mono
      | apply symm_Orbit.mono
      | exact LeO.none _
      | refine LeO.ite ?_ ?_
      | refine LeO.bind ?_ (fun _ => ?_)
    · intros
      unfold gamehalllaw1_SymmMaps.l0
      repeat' first
      | (with_reducible apply ih0)
      | (with_reducible apply ih1)
      | (with_reducible apply ih2)
      | (with_reducible apply ih3)
      | (with_reducible apply ih4)
      | (with_reducible apply ih5)
      | (with_reducible apply ih6)
      | (with_reducible apply ih7)
      | (with_reducible apply ih8)
      | (with_reducible apply ih9)
      | (with_reducible apply ih10)
      | (with_reducible apply ih11)
      | (with_reducible apply gamehallref1_Moved.mono)
      | (with_reducible apply gamehallref1_SameInts.mono)
      | (with_reducible apply gamehallref1_Symmetries.mono)
      | (with_reducible apply symm_All.mono)
      | (with_reducible apply symm_Apply.mono)
      | (with_reducible apply symm_Map.mono)
      | (with_reducible apply symm_Orbit.mono)
      | (with_reducible exact LeO.refl _)
      | (with_reducible exact LeO.none _)
      | (with_reducible refine LeO.ite ?_ ?_)
      | (with_reducible refine LeO.bind ?_ (fun _ => ?_))
      | apply ih0
      | apply ih1
      | apply ih2
      | apply ih3
      | apply ih4
      | apply ih5
      | apply ih6
      | apply ih7
      | apply ih8
      | apply ih9
      | apply ih10
      | apply ih11
      | apply gamehallref1_Moved.mono
      | apply gamehallref1_SameInts.mono
      | apply gamehallref1_Symmetries.mono
      | apply symm_All.mono
      | apply symm_Apply.mono
      | apply symm_Map.mono
      | apply symm_Orbit.mono
      | exact LeO.none _
      | refine LeO.ite ?_ ?_
      | refine LeO.bind ?_ (fun _ => ?_)
    · intros
      unfold gamehalllaw1_SymmMaps.j7
      repeat' first
      | (with_reducible apply ih0)
      | (with_reducible apply ih1)
      | (with_reducible apply ih2)
      | (with_reducible apply ih3)
      | (with_reducible apply ih4)
      | (with_reducible apply ih5)
      | (with_reducible apply ih6)
      | (with_reducible apply ih7)
      | (with_reducible apply ih8)
      | (with_reducible apply ih9)
      | (with_reducible apply ih10)
      | (with_reducible apply ih11)
      | (with_reducible apply gamehallref1_Moved.mono)
      | (with_reducible apply gamehallref1_SameInts.mono)
      | (with_reducible apply gamehallref1_Symmetries.mono)
      | (with_reducible apply symm_All.mono)
      | (with_reducible apply symm_Apply.mono)
      | (with_reducible apply symm_Map.mono)
      | (with_reducible apply symm_Orbit.mono)
      | (with_reducible exact LeO.refl _)
      | (with_reducible exact LeO.none _)
      | (with_reducible refine LeO.ite ?_ ?_)
      | (with_reducible refine LeO.bind ?_ (fun _ => ?_))
      | apply ih0
      | apply ih1
      | apply ih2
      | apply ih3
      | apply ih4
      | apply ih5
      | apply ih6
      | apply ih7
      | apply ih8
      | apply ih9
      | apply ih10
      | apply ih11
      | apply gamehallref1_Moved.mono
      | apply gamehallref1_SameInts.mono
      | apply gamehallref1_Symmetries.mono
      | apply symm_All.mono
      | apply symm_Apply.mono
      | apply symm_Map.mono
      | apply symm_Orbit.mono
      | exact LeO.none _
      | refine LeO.ite ?_ ?_
      | refine LeO.bind ?_ (fun _ => ?_)
    · intros
      unfold gamehalllaw1_SymmMaps.j8
      repeat' first
      | (with_reducible apply ih0)
      | (with_reducible apply ih1)
      | (with_reducible apply ih2)
      | (with_reducible apply ih3)
      | (with_reducible apply ih4)
      | (with_reducible apply ih5)
      | (with_reducible apply ih6)
      | (with_reducible apply ih7)
      | (with_reducible apply ih8)
      | (with_reducible apply ih9)
      | (with_reducible apply ih10)
      | (with_reducible apply ih11)
      | (with_reducible apply gamehallref1_Moved.mono)
      | (with_reducible apply gamehallref1_SameInts.mono)
      | (with_reducible apply gamehallref1_Symmetries.mono)
      | (with_reducible apply symm_All.mono)
      | (with_reducible apply symm_Apply.mono)
      | (with_reducible apply symm_Map.mono)
      | (with_reducible apply symm_Orbit.mono)
      | (with_reducible exact LeO.refl _)
      | (with_reducible exact LeO.none _)
      | (with_reducible refine LeO.ite ?_ ?_)
      | (with_reducible refine LeO.bind ?_ (fun _ => ?_))
      | apply ih0
      | apply ih1
      | apply ih2
      | apply ih3
      | apply ih4
      | apply ih5
      | apply ih6
      | apply ih7
      | apply ih8
      | apply ih9
      | apply ih10
      | apply ih11
      | apply gamehallref1_Moved.mono
      | apply gamehallref1_SameInts.mono
      | apply gamehallref1_Symmetries.mono
      | apply symm_All.mono
      | apply symm_Apply.mono
      | apply symm_Map.mono
      | apply symm_Orbit.mono
      | exact LeO.none _
      | refine LeO.ite ?_ ?_
      | refine LeO.bind ?_ (fun _ => ?_)
    · intros
      unfold gamehalllaw1_SymmMaps.l1
      repeat' first
      | (with_reducible apply ih0)
      | (with_reducible apply ih1)
      | (with_reducible apply ih2)
      | (with_reducible apply ih3)
      | (with_reducible apply ih4)
      | (with_reducible apply ih5)
      | (with_reducible apply ih6)
      | (with_reducible apply ih7)
      | (with_reducible apply ih8)
      | (with_reducible apply ih9)
      | (with_reducible apply ih10)
      | (with_reducible apply ih11)
      | (with_reducible apply gamehallref1_Moved.mono)
      | (with_reducible apply gamehallref1_SameInts.mono)
      | (with_reducible apply gamehallref1_Symmetries.mono)
      | (with_reducible apply symm_All.mono)
      | (with_reducible apply symm_Apply.mono)
      | (with_reducible apply symm_Map.mono)
      | (with_reducible apply symm_Orbit.mono)
      | (with_reducible exact LeO.refl _)
      | (with_reducible exact LeO.none _)
      | (with_reducible refine LeO.ite ?_ ?_)
      | (with_reducible refine LeO.bind ?_ (fun _ => ?_))
      | apply ih0
      | apply ih1
      | apply ih2
      | apply ih3
      | apply ih4
      | apply ih5
      | apply ih6
      | apply ih7
      | apply ih8
      | apply ih9
      | apply ih10
      | apply ih11
      | apply gamehallref1_Moved.mono
      | apply gamehallref1_SameInts.mono
      | apply gamehallref1_Symmetries.mono
      | apply symm_All.mono
      | apply symm_Apply.mono
      | apply symm_Map.mono
      | apply symm_Orbit.mono
      | exact LeO.none _
      | refine LeO.ite ?_ ?_
      | refine LeO.bind ?_ (fun _ => ?_)
    · intros
      unfold gamehalllaw1_SymmMaps.j9
      repeat' first
      | (with_reducible apply ih0)
      | (with_reducible apply ih1)
      | (with_reducible apply ih2)
      | (with_reducible apply ih3)
      | (with_reducible apply ih4)
      | (with_reducible apply ih5)
      | (with_reducible apply ih6)
      | (with_reducible apply ih7)
      | (with_reducible apply ih8)
      | (with_reducible apply ih9)
      | (with_reducible apply ih10)
      | (with_reducible apply ih11)
      | (with_reducible apply gamehallref1_Moved.mono)
      | (with_reducible apply gamehallref1_SameInts.mono)
      | (with_reducible apply gamehallref1_Symmetries.mono)
      | (with_reducible apply symm_All.mono)
      | (with_reducible apply symm_Apply.mono)
      | (with_reducible apply symm_Map.mono)
      | (with_reducible apply symm_Orbit.mono)
      | (with_reducible exact LeO.refl _)
      | (with_reducible exact LeO.none _)
      | (with_reducible refine LeO.ite ?_ ?_)
      | (with_reducible refine LeO.bind ?_ (fun _ => ?_))
      | apply ih0
      | apply ih1
      | apply ih2
      | apply ih3
      | apply ih4
      | apply ih5
      | apply ih6
      | apply ih7
      | apply ih8
      | apply ih9
      | apply ih10
      | apply ih11
      | apply gamehallref1_Moved.mono
      | apply gamehallref1_SameInts.mono
      | apply gamehallref1_Symmetries.mono
      | apply symm_All.mono
      | apply symm_Apply.mono
      | apply symm_Map.mono
      | apply symm_Orbit.mono
      | exact LeO.none _
      | refine LeO.ite ?_ ?_
      | refine LeO.bind ?_ (fun _ => ?_)
    · intros
      unfold gamehalllaw1_SymmMaps.j10
      repeat' first
      | (with_reducible apply ih0)
      | (with_reducible apply ih1)
      | (with_reducible apply ih2)
      | (with_reducible apply ih3)
      | (with_reducible apply ih4)
      | (with_reducible apply ih5)
      | (with_reducible apply ih6)
      | (with_reducible apply ih7)
      | (with_reducible apply ih8)
      | (with_reducible apply ih9)
      | (with_reducible apply ih10)
      | (with_reducible apply ih11)
      | (with_reducible apply gamehallref1_Moved.mono)
      | (with_reducible apply gamehallref1_SameInts.mono)
      | (with_reducible apply gamehallref1_Symmetries.mono)
      | (with_reducible apply symm_All.mono)
      | (with_reducible apply symm_Apply.mono)
      | (with_reducible apply symm_Map.mono)
      | (with_reducible apply symm_Orbit.mono)
      | (with_reducible exact LeO.refl _)
      | (with_reducible exact LeO.none _)
      | (with_reducible refine LeO.ite ?_ ?_)
      | (with_reducible refine LeO.bind ?_ (fun _ => ?_))
      | apply ih0
      | apply ih1
      | apply ih2
      | apply ih3
      | apply ih4
      | apply ih5
      | apply ih6
      | apply ih7
      | apply ih8
      | apply ih9
      | apply ih10
      | apply ih11
      | apply gamehallref1_Moved.mono
      | apply gamehallref1_SameInts.mono
      | apply gamehallref1_Symmetries.mono
      | apply symm_All.mono
      | apply symm_Apply.mono
      | apply symm_Map.mono
      | apply symm_Orbit.mono
      | exact LeO.none _
      | refine LeO.ite ?_ ?_
      | refine LeO.bind ?_ (fun _ => ?_)
    · intros
      unfold gamehalllaw1_SymmMaps.l2
      repeat' first
      | (with_reducible apply ih0)
      | (with_reducible apply ih1)
      | (with_reducible apply ih2)
      | (with_reducible apply ih3)
      | (with_reducible apply ih4)
      | (with_reducible apply ih5)
      | (with_reducible apply ih6)
      | (with_reducible apply ih7)
      | (with_reducible apply ih8)
      | (with_reducible apply ih9)
      | (with_reducible apply ih10)
      | (with_reducible apply ih11)
      | (with_reducible apply gamehallref1_Moved.mono)
      | (with_reducible apply gamehallref1_SameInts.mono)
      | (with_reducible apply gamehallref1_Symmetries.mono)
      | (with_reducible apply symm_All.mono)
      | (with_reducible apply symm_Apply.mono)
      | (with_reducible apply symm_Map.mono)
      | (with_reducible apply symm_Orbit.mono)
      | (with_reducible exact LeO.refl _)
      | (with_reducible exact LeO.none _)
      | (with_reducible refine LeO.ite ?_ ?_)
      | (with_reducible refine LeO.bind ?_ (fun _ => ?_))
      | apply ih0
      | apply ih1
      | apply ih2
      | apply ih3
      | apply ih4
      | apply ih5
      | apply ih6
      | apply ih7
      | apply ih8
      | apply ih9
      | apply ih10
      | apply ih11
      | apply gamehallref1_Moved.mono
      | apply gamehallref1_SameInts.mono
      | apply gamehallref1_Symmetries.mono
      | apply symm_All.mono
      | apply symm_Apply.mono
      | apply symm_Map.mono
      | apply symm_Orbit.mono
      | exact LeO.none _
      | refine LeO.ite ?_ ?_
      | refine LeO.bind ?_ (fun _ => ?_)
theorem gamehalllaw1_SymmMaps.mono : ∀ a0 a1 a2 a3 a4 k, LeO (gamehalllaw1_SymmMaps.f k a0 a1 a2 a3 a4) (gamehalllaw1_SymmMaps.f (k + 1) a0 a1 a2 a3 a4) := by
  intro a0 a1 a2 a3 a4 k
  obtain ⟨ih0, ih1, ih2, ih3, ih4, ih5, ih6, ih7, ih8, ih9, ih10, ih11⟩ := gamehalllaw1_SymmMaps.mono_l k
  unfold gamehalllaw1_SymmMaps.f
  repeat' first
      | (with_reducible apply ih0)
      | (with_reducible apply ih1)
      | (with_reducible apply ih2)
      | (with_reducible apply ih3)
      | (with_reducible apply ih4)
      | (with_reducible apply ih5)
      | (with_reducible apply ih6)
      | (with_reducible apply ih7)
      | (with_reducible apply ih8)
      | (with_reducible apply ih9)
      | (with_reducible apply ih10)
      | (with_reducible apply ih11)
      | (with_reducible apply gamehallref1_Moved.mono)
      | (with_reducible apply gamehallref1_SameInts.mono)
      | (with_reducible apply gamehallref1_Symmetries.mono)
      | (with_reducible apply symm_All.mono)
      | (with_reducible apply symm_Apply.mono)
      | (with_reducible apply symm_Map.mono)
      | (with_reducible apply symm_Orbit.mono)
      | (with_reducible exact LeO.refl _)
      | (with_reducible exact LeO.none _)
      | (with_reducible refine LeO.ite ?_ ?_)
      | (with_reducible refine LeO.bind ?_ (fun _ => ?_))
      | apply ih0
      | apply ih1
      | apply ih2
      | apply ih3
      | apply ih4
      | apply ih5
      | apply ih6
      | apply ih7
      | apply ih8
      | apply ih9
      | apply ih10
      | apply ih11
      | apply gamehallref1_Moved.mono
      | apply gamehallref1_SameInts.mono
      | apply gamehallref1_Symmetries.mono
      | apply symm_All.mono
      | apply symm_Apply.mono
      | apply symm_Map.mono
      | apply symm_Orbit.mono
      | exact LeO.none _
      | refine LeO.ite ?_ ?_
      | refine LeO.bind ?_ (fun _ => ?_)
set_option maxHeartbeats 80000000 in
set_option maxRecDepth 100000 in
theorem gamehalllaw1_SymmMaps.calls (k : Nat) (a0 : Int) (a1 : Int) (a2 : Int) (a3 : Int) (A4 : Option Addr) (c4 : Nat) (l4 : List Int) (r : Bool) (w : World) (hr4 : Kd.C (Kd.int .i64) w A4 l4.length l4) (hc4 : l4.length ≤ c4) (h : gamehalllaw1_SymmMaps.f k a0 a1 a2 a3 l4 = some r) :
    Calls Try.prog 4 #[.int .i64 a0, .int .i64 a1, .int .i64 a2, .int .i64 a3, .slice A4 l4.length c4] w fun e w' => e = .returned (.bool r) ∧ Below w.heap.size w w' := by
 have HR4 := Aside0.mk hr4; have HC4 := Aside0.mk hc4; clear hr4 hc4; have HB := Aside0.mk (Below.refl w.heap.size w); have hss_ := @isSome_setCell
 have H : ((symm_Map.f k 3 3 5 0).bind fun bt129 => (if bt129.2 = 0 then (gamehalllaw1_SymmMaps.j0 k a0 a1 a2 a3 l4 (bt129.1 != 2)) else (gamehalllaw1_SymmMaps.j0 k a0 a1 a2 a3 l4 true))) = some r := h
 clear h; replace H := Option.bind_eq_some_iff.mp H
 obtain ⟨⟨t129, t130⟩, A60, H⟩ := H
 try dsimp only at H
 have A6 := Aside0.mk A60; clear A60; have HC7 := Aside0.mk H; clear H
 go_enter Try.func4, Try.ntmps4
 go_upto_region 2 with (first | ((with_reducible refine gate_callee (f := 15) rfl ?_); refine goesL_ (some 34) rfl rfl Try.func15 kr_ rfl #[.int .i64 3, .int .i64 3, .int .i64 5, .int .i64 0] rfl (by (try simp only [List.map_toArray, List.map_cons, List.map_nil]); first | done | rfl | (simp only [List.length_drop, List.length_take]; rfl)) ?_; (with_reducible refine (symm_Map.calls k 3 3 5 0 t129 t130 _ A6.out).mono ?_); rintro e w' ⟨rfl, ⟨nd, rfl⟩⟩; refine ⟨_, rfl, ?_⟩))
 (try simp only [Act.put, List.setIfInBounds_toArray, List.set_cons_zero, List.set_cons_succ])
 go_cut [42] (fun vs42 wc => ∃ (kq : Nat) (x42_6 : Bool), vs42 = .bool x42_6 ∧ Aside0 (gamehalllaw1_SymmMaps.j0 kq a0 a1 a2 a3 l4 x42_6 = some r) ∧ Aside0 (kq ≤ k) ∧ Aside0 (Below w.heap.size w wc))
 case first =>
  have H := HC7.out; clear HC7
  by_cases c8 : t130 = 0
  ·rw [if_pos c8] at H
   have c8b0 : (t130 == 0) = true := beq_iff_eq.mpr c8
   have c8b1 : (t130 != 0) = false := bne_eq_false_iff_eq.mpr c8
   clear c8
   (first | rw [c8b0] | (simp only [i64_w, i32_w]; rw [c8b0]) | skip)
   have H' := Aside0.mk H
   clear H
   go_wp2
   go_meet
   case rel => exact ⟨_, ((t129 != 2)), (xrf), H', ⟨by first | omega | exact Nat.le_refl _⟩, ⟨xW HB⟩⟩
  ·rw [if_neg c8] at H
   have c8b0 : (t130 == 0) = false := beq_eq_false_iff_ne.mpr c8
   have c8b1 : (t130 != 0) = true := bne_iff_ne.mpr c8; clear c8
   (first | rw [c8b0] | (simp only [i64_w, i32_w]; rw [c8b0]) | skip)
   have H' := Aside0.mk H
   clear H
   go_wp2
   go_meet
   case rel => exact ⟨_, (true), (xrf), H', ⟨by first | omega | exact Nat.le_refl _⟩, ⟨xW HB⟩⟩
 case rest =>
  refine box_ ?g1;letI i:type_of% ?g1:=⟨by
  clear HC7; (try clear p2)
  obtain ⟨kq, x42_6, rfl, HA, HJ6, HB⟩ := hcut
  cases kq with
  | zero => exact absurd HA.out (by simp [gamehalllaw1_SymmMaps.j0])
  | succ kj6 =>
   have H := HA.out; clear HA
   simp only [gamehalllaw1_SymmMaps.j0] at H
   by_cases c9 : x42_6 = true
   ·subst c9
    rw [if_pos rfl] at H
    obtain rfl := Option.some.inj H
    go_wp2
    go_ret
    exact ⟨xer, xW HB⟩
   ·replace c9 := Bool.eq_false_iff.mpr c9
    subst c9
    rw [if_neg (show ¬ (false = true) by decide)] at H
    replace H := Option.bind_eq_some_iff.mp H
    obtain ⟨⟨t131, t132⟩, A100, H⟩ := H
    try dsimp only at H
    have A10 := Aside0.mk A100; clear A100; have HC11 := Aside0.mk H; clear H
    go_upto_region 5 with (first | ((with_reducible refine gate_callee (f := 16) rfl ?_); refine goesL_ (some 44) rfl rfl Try.func16 kr_ rfl #[.int .i64 3, .int .i64 2, .int .i64 0] rfl (by (try simp only [List.map_toArray, List.map_cons, List.map_nil]); first | done | rfl | (simp only [List.length_drop, List.length_take]; rfl)) ?_; (with_reducible refine (symm_Orbit.calls kj6 3 2 0 t131 t132 _ A10.out).mono ?_); rintro e w12 ⟨v133, rfl, ho0, hb⟩; refine ⟨_, rfl, ?_⟩; have HO134 := Aside0.mk (Kd.R_lower ho0 (below_size (xW HB))); replace HB := Aside0.mk (xS HB hb); (try clear hb); (try clear hb2); (try clear hk); (try clear hi); (try clear ho0)))
    (try simp only [Act.put, List.setIfInBounds_toArray, List.set_cons_zero, List.set_cons_succ])
    go_cut [54] (fun vs54 wc => ∃ (kq : Nat) (x54_10 : Bool), vs54 = .bool x54_10 ∧ Aside0 (gamehalllaw1_SymmMaps.j1 kq a0 a1 a2 a3 l4 x54_10 = some r) ∧ Aside0 (kq ≤ kj6) ∧ Aside0 (Below w.heap.size w wc))
    case first =>
     have H := HC11.out; clear HC11
     by_cases c13 : t132 = 0
     ·rw [if_pos c13] at H
      have c13b0 : (t132 == 0) = true := beq_iff_eq.mpr c13
      have c13b1 : (t132 != 0) = false := bne_eq_false_iff_eq.mpr c13
      clear c13
      (first | rw [c13b0] | (simp only [i64_w, i32_w]; rw [c13b0]) | skip)
      obtain ⟨y135, hy135⟩ : ∃ y_ : List Int, y_ = (([0, 2, 3, 5] : List Int)) := ⟨_, rfl⟩
      replace H : ((gamehallref1_SameInts.f kj6 t131 y135).bind fun t138 => (gamehalllaw1_SymmMaps.j1 kj6 a0 a1 a2 a3 l4 (!t138))) = some r := by first | (rw [hy135]; with_reducible exact H) | (have H2_ := (Option.bind_some _ _).symm.trans H; rw [hy135]; with_reducible exact H2_) | (have H2_ := (Option.bind_some _ _).symm.trans H; with_reducible exact H2_) | with_reducible exact H | (rw [hy135]; exact H) | exact H
      have Ny135 := Aside0.mk hy135; clear hy135; replace H := Option.bind_eq_some_iff.mp H
      obtain ⟨t138, A140, H⟩ := H
      replace H : (gamehalllaw1_SymmMaps.j1 kj6 a0 a1 a2 a3 l4 (!t138)) = some r := H
      have A14 := Aside0.mk A140; clear A140
      have H' := Aside0.mk H
      clear H
      go_wp2_with (first | ((with_reducible refine gate_dst (N := 51) rfl ?_); (try (refine gate_guard (by rfl) ?_; dsimp only)); refine Kd.R_lit (Kd.int .i64) _ 3 ?hg (N := 51) ?hd (xs := ([0, 2, 3, 5] : List Int)) (inner := [.int .i64 0, .int .i64 2, .int .i64 3, .int .i64 5]) (ok := fun _ => True) (okp := fun _ => True) ?hr ?hp (fun _ hk => hk) trivial (Below.refl _ _) (Nat.le_refl _) (by simp) ?_; (case hd => rfl); (case hg => rfl); (case hr => first | (go_simp; done) | (go_simp; rfl)); (case hp => exact (Reps.one (show Kd.M (Kd.int .i64) _ _ _ 0 [.int .i64 0] from rfl) (Reps.one (show Kd.M (Kd.int .i64) _ _ _ 2 [.int .i64 2] from rfl) (Reps.one (show Kd.M (Kd.int .i64) _ _ _ 3 [.int .i64 3] from rfl) (Reps.one (show Kd.M (Kd.int .i64) _ _ _ 5 [.int .i64 5] from rfl) (Reps.none _ _)))))); intro v136 w15 ho16 hb hg_ hnew_; clear hg_ hnew_; (first | rw [← Ny135.out] at ho16 | (simp only [Int.reduceToNat] at ho16; rw [← Ny135.out] at ho16)); have HO137 := Aside0.mk (Kd.R_lower (Kd.R_new' ho16 (Kd.R_lt (by (with_reducible repeat (first | apply Kd.R_alloc | apply Kd.R_drewN | apply Kd.R_drew)); exact HO134.out))) (below_size (xW HB))); replace HO134 := Aside0.mk (Kd.R_elder' (by (with_reducible repeat (first | apply Kd.R_alloc | apply Kd.R_drewN | apply Kd.R_drew)); exact HO134.out) (Kd.R_base ho16) hb); replace HB := Aside0.mk (xS HB hb); clear hb ho16; obtain ⟨Ao17, co17, eo17⟩ := Kd.R_slice HO134.out; subst eo17; obtain ⟨Ao18, co18, eo18⟩ := Kd.R_slice HO137.out; subst eo18) | (go_at_call 17; (with_reducible refine (gamehallref1_SameInts.calls kj6 _ _ t131 _ _ y135 t138 _ ?side1 ?side2 ?side3 ?side4 A14.out).mono ?_); (case side1 => repeat (first | exact (Kd.R_reads' HO134.out).2.2 | (with_reducible refine Kd.C_alloc ?_ _) | (with_reducible refine Kd.C_drewN ?_ _) | (with_reducible refine Kd.C_drew ?_))); (case side2 => exact (Kd.R_reads' HO134.out).2.1); (case side3 => repeat (first | exact (Kd.R_reads' HO137.out).2.2 | (with_reducible refine Kd.C_alloc ?_ _) | (with_reducible refine Kd.C_drewN ?_ _) | (with_reducible refine Kd.C_drew ?_))); (case side4 => exact (Kd.R_reads' HO137.out).2.1); rintro e w' ⟨rfl, ⟨nd, rfl⟩⟩))
      go_meet
      case rel => exact ⟨_, (!t138), (xrf), H', ⟨by have := HJ6.out; first | omega | exact Nat.le_refl _⟩, ⟨xW HB⟩⟩
     ·rw [if_neg c13] at H
      have c13b0 : (t132 == 0) = false := beq_eq_false_iff_ne.mpr c13
      have c13b1 : (t132 != 0) = true := bne_iff_ne.mpr c13; clear c13
      (first | rw [c13b0] | (simp only [i64_w, i32_w]; rw [c13b0]) | skip)
      have H' := Aside0.mk H
      clear H
      go_wp2
      go_meet
      case rel => exact ⟨_, (true), (xrf), H', ⟨by have := HJ6.out; first | omega | exact Nat.le_refl _⟩, ⟨xW HB⟩⟩
    case rest =>
     refine box_ ?g2;letI i:type_of% ?g2:=⟨by
     clear HC11; (try clear p2); (try clear p2)
     obtain ⟨kq, x54_10, rfl, HA, HJ10, HB⟩ := hcut
     cases kq with
     | zero => exact absurd HA.out (by simp [gamehalllaw1_SymmMaps.j1])
     | succ kj10 =>
      have H := HA.out; clear HA
      simp only [gamehalllaw1_SymmMaps.j1] at H
      by_cases c19 : x54_10 = true
      ·subst c19
       rw [if_pos rfl] at H
       obtain rfl := Option.some.inj H
       go_wp2
       go_ret
       exact ⟨xer, xW HB⟩
      ·replace c19 := Bool.eq_false_iff.mpr c19
       subst c19
       rw [if_neg (show ¬ (false = true) by decide)] at H
       obtain ⟨y139, hy139⟩ : ∃ y_ : List Int, y_ = (([5, 6] : List Int)) := ⟨_, rfl⟩
       replace H : ((symm_Apply.f kj10 2 1 1 y139).bind fun bt142 => (if bt142.2 = 0 then ((gamehallref1_SameInts.f kj10 bt142.1 (([6, 5] : List Int))).bind fun t149 => (gamehalllaw1_SymmMaps.j2 kj10 a0 a1 a2 a3 l4 (!t149))) else (gamehalllaw1_SymmMaps.j2 kj10 a0 a1 a2 a3 l4 true))) = some r := by first | (rw [hy139]; with_reducible exact H) | (have H2_ := (Option.bind_some _ _).symm.trans H; rw [hy139]; with_reducible exact H2_) | (have H2_ := (Option.bind_some _ _).symm.trans H; with_reducible exact H2_) | with_reducible exact H | (rw [hy139]; exact H) | exact H
       have Ny139 := Aside0.mk hy139; clear hy139; replace H := Option.bind_eq_some_iff.mp H
       obtain ⟨⟨t142, t143⟩, A200, H⟩ := H
       try dsimp only at H
       have A20 := Aside0.mk A200; clear A200; have HC21 := Aside0.mk H; clear H
       go_upto_region 8 with (first | ((with_reducible refine gate_dst (N := 56) rfl ?_); (try (refine gate_guard (by rfl) ?_; dsimp only)); refine Kd.R_lit (Kd.int .i64) _ 3 ?hg (N := 56) ?hd (xs := ([5, 6] : List Int)) (inner := [.int .i64 5, .int .i64 6]) (ok := fun _ => True) (okp := fun _ => True) ?hr ?hp (fun _ hk => hk) trivial (Below.refl _ _) (Nat.le_refl _) (by simp) ?_; (case hd => rfl); (case hg => rfl); (case hr => first | (go_simp; done) | (go_simp; rfl)); (case hp => exact (Reps.one (show Kd.M (Kd.int .i64) _ _ _ 5 [.int .i64 5] from rfl) (Reps.one (show Kd.M (Kd.int .i64) _ _ _ 6 [.int .i64 6] from rfl) (Reps.none _ _)))); intro v140 w22 ho23 hb hg_ hnew_; clear hg_ hnew_; (first | rw [← Ny139.out] at ho23 | (simp only [Int.reduceToNat] at ho23; rw [← Ny139.out] at ho23)); have HO141 := Aside0.mk (Kd.R_lower ho23 (below_size (xW HB))); replace HB := Aside0.mk (xS HB hb); clear hb ho23; obtain ⟨Ao24, co24, eo24⟩ := Kd.R_slice HO141.out; subst eo24) | ((with_reducible refine gate_callee (f := 18) rfl ?_); refine goesL_ (some 57) rfl rfl Try.func18 kr_ rfl #[.int .i64 2, .int .i64 1, .int .i64 1, .slice Ao24 y139.length co24] rfl (by (try simp only [List.map_toArray, List.map_cons, List.map_nil]); first | done | rfl | (simp only [List.length_drop, List.length_take]; rfl)) ?_; (with_reducible refine (symm_Apply.calls kj10 2 1 1 _ _ y139 t142 t143 _ ?side1 ?side2 A20.out).mono ?_); (case side1 => repeat (first | exact (Kd.R_reads' HO141.out).2.2 | (with_reducible refine Kd.C_alloc ?_ _) | (with_reducible refine Kd.C_drewN ?_ _) | (with_reducible refine Kd.C_drew ?_))); (case side2 => exact (Kd.R_reads' HO141.out).2.1); rintro e w25 ⟨v144, rfl, ho0, hb⟩; refine ⟨_, rfl, ?_⟩; have HO145 := Aside0.mk (Kd.R_lower (Kd.R_new' ho0 (Kd.R_lt (by (with_reducible repeat (first | apply Kd.R_alloc | apply Kd.R_drewN | apply Kd.R_drew)); exact HO141.out))) (below_size (xW HB))); replace HO141 := Aside0.mk (Kd.R_elder' (by (with_reducible repeat (first | apply Kd.R_alloc | apply Kd.R_drewN | apply Kd.R_drew)); exact HO141.out) (Kd.R_base ho0) hb); replace HB := Aside0.mk (xS HB hb); (try clear hb); (try clear hb2); (try clear hk); (try clear hi); (try clear ho0)))
       (try simp only [Act.put, List.setIfInBounds_toArray, List.set_cons_zero, List.set_cons_succ])
       go_cut [67] (fun vs67 wc => ∃ (kq : Nat) (x67_20 : Bool), vs67 = .bool x67_20 ∧ Aside0 (gamehalllaw1_SymmMaps.j2 kq a0 a1 a2 a3 l4 x67_20 = some r) ∧ Aside0 (kq ≤ kj10) ∧ Aside0 (Below w.heap.size w wc))
       case first =>
        have H := HC21.out; clear HC21
        by_cases c26 : t143 = 0
        ·rw [if_pos c26] at H
         have c26b0 : (t143 == 0) = true := beq_iff_eq.mpr c26
         have c26b1 : (t143 != 0) = false := bne_eq_false_iff_eq.mpr c26
         clear c26
         (first | rw [c26b0] | (simp only [i64_w, i32_w]; rw [c26b0]) | skip)
         obtain ⟨y146, hy146⟩ : ∃ y_ : List Int, y_ = (([6, 5] : List Int)) := ⟨_, rfl⟩
         replace H : ((gamehallref1_SameInts.f kj10 t142 y146).bind fun t149 => (gamehalllaw1_SymmMaps.j2 kj10 a0 a1 a2 a3 l4 (!t149))) = some r := by first | (rw [hy146]; with_reducible exact H) | (have H2_ := (Option.bind_some _ _).symm.trans H; rw [hy146]; with_reducible exact H2_) | (have H2_ := (Option.bind_some _ _).symm.trans H; with_reducible exact H2_) | with_reducible exact H | (rw [hy146]; exact H) | exact H
         have Ny146 := Aside0.mk hy146; clear hy146; replace H := Option.bind_eq_some_iff.mp H
         obtain ⟨t149, A270, H⟩ := H
         replace H : (gamehalllaw1_SymmMaps.j2 kj10 a0 a1 a2 a3 l4 (!t149)) = some r := H
         have A27 := Aside0.mk A270; clear A270
         have H' := Aside0.mk H
         clear H
         go_wp2_with (first | ((with_reducible refine gate_dst (N := 64) rfl ?_); (try (refine gate_guard (by rfl) ?_; dsimp only)); refine Kd.R_lit (Kd.int .i64) _ 3 ?hg (N := 64) ?hd (xs := ([6, 5] : List Int)) (inner := [.int .i64 6, .int .i64 5]) (ok := fun _ => True) (okp := fun _ => True) ?hr ?hp (fun _ hk => hk) trivial (Below.refl _ _) (Nat.le_refl _) (by simp) ?_; (case hd => rfl); (case hg => rfl); (case hr => first | (go_simp; done) | (go_simp; rfl)); (case hp => exact (Reps.one (show Kd.M (Kd.int .i64) _ _ _ 6 [.int .i64 6] from rfl) (Reps.one (show Kd.M (Kd.int .i64) _ _ _ 5 [.int .i64 5] from rfl) (Reps.none _ _)))); intro v147 w28 ho29 hb hg_ hnew_; clear hg_ hnew_; (first | rw [← Ny146.out] at ho29 | (simp only [Int.reduceToNat] at ho29; rw [← Ny146.out] at ho29)); have HO148 := Aside0.mk (Kd.R_lower (Kd.R_new' (Kd.R_new' ho29 (Kd.R_lt (by (with_reducible repeat (first | apply Kd.R_alloc | apply Kd.R_drewN | apply Kd.R_drew)); exact HO141.out))) (Kd.R_lt (by (with_reducible repeat (first | apply Kd.R_alloc | apply Kd.R_drewN | apply Kd.R_drew)); exact HO145.out))) (below_size (xW HB))); replace HO141 := Aside0.mk (Kd.R_elder' (by (with_reducible repeat (first | apply Kd.R_alloc | apply Kd.R_drewN | apply Kd.R_drew)); exact HO141.out) (Kd.R_base ho29) hb); replace HO145 := Aside0.mk (Kd.R_elder' (by (with_reducible repeat (first | apply Kd.R_alloc | apply Kd.R_drewN | apply Kd.R_drew)); exact HO145.out) (Kd.R_base ho29) hb); replace HB := Aside0.mk (xS HB hb); clear hb ho29; obtain ⟨Ao30, co30, eo30⟩ := Kd.R_slice HO145.out; subst eo30; obtain ⟨Ao31, co31, eo31⟩ := Kd.R_slice HO148.out; subst eo31) | (go_at_call 17; (with_reducible refine (gamehallref1_SameInts.calls kj10 _ _ t142 _ _ y146 t149 _ ?side1 ?side2 ?side3 ?side4 A27.out).mono ?_); (case side1 => repeat (first | exact (Kd.R_reads' HO145.out).2.2 | (with_reducible refine Kd.C_alloc ?_ _) | (with_reducible refine Kd.C_drewN ?_ _) | (with_reducible refine Kd.C_drew ?_))); (case side2 => exact (Kd.R_reads' HO145.out).2.1); (case side3 => repeat (first | exact (Kd.R_reads' HO148.out).2.2 | (with_reducible refine Kd.C_alloc ?_ _) | (with_reducible refine Kd.C_drewN ?_ _) | (with_reducible refine Kd.C_drew ?_))); (case side4 => exact (Kd.R_reads' HO148.out).2.1); rintro e w' ⟨rfl, ⟨nd, rfl⟩⟩))
         go_meet
         case rel => exact ⟨_, (!t149), (xrf), H', ⟨by have := HJ6.out; have := HJ10.out; first | omega | exact Nat.le_refl _⟩, ⟨xW HB⟩⟩
        ·rw [if_neg c26] at H
         have c26b0 : (t143 == 0) = false := beq_eq_false_iff_ne.mpr c26
         have c26b1 : (t143 != 0) = true := bne_iff_ne.mpr c26; clear c26
         (first | rw [c26b0] | (simp only [i64_w, i32_w]; rw [c26b0]) | skip)
         have H' := Aside0.mk H
         clear H
         go_wp2
         go_meet
         case rel => exact ⟨_, (true), (xrf), H', ⟨by have := HJ6.out; have := HJ10.out; first | omega | exact Nat.le_refl _⟩, ⟨xW HB⟩⟩
       case rest =>
        refine box_ ?g3;letI i:type_of% ?g3:=⟨by
        clear HC21; (try clear p2); (try clear p2)
        obtain ⟨kq, x67_20, rfl, HA, HJ20, HB⟩ := hcut
        cases kq with
        | zero => exact absurd HA.out (by simp [gamehalllaw1_SymmMaps.j2])
        | succ kj20 =>
         have H := HA.out; clear HA
         simp only [gamehalllaw1_SymmMaps.j2] at H
         by_cases c32 : x67_20 = true
         ·subst c32
          rw [if_pos rfl] at H
          obtain rfl := Option.some.inj H
          go_wp2
          go_ret
          exact ⟨xer, xW HB⟩
         ·replace c32 := Bool.eq_false_iff.mpr c32
          subst c32
          rw [if_neg (show ¬ (false = true) by decide)] at H
          replace H := Option.bind_eq_some_iff.mp H
          obtain ⟨⟨t150, t151⟩, A330, H⟩ := H
          try dsimp only at H
          have A33 := Aside0.mk A330; clear A330; replace H := Option.bind_eq_some_iff.mp H
          obtain ⟨⟨t152, t153⟩, A340, H⟩ := H
          try dsimp only at H
          have A34 := Aside0.mk A340; clear A340; replace H := Option.bind_eq_some_iff.mp H
          obtain ⟨⟨t156, t157⟩, A350, H⟩ := H
          try dsimp only at H
          have A35 := Aside0.mk A350; clear A350; replace H := Option.bind_eq_some_iff.mp H
          obtain ⟨⟨t160, t161⟩, A360, H⟩ := H
          try dsimp only at H
          have A36 := Aside0.mk A360; clear A360; replace H := Option.bind_eq_some_iff.mp H
          obtain ⟨t164, A370, H⟩ := H
          try dsimp only at H
          have A37 := Aside0.mk A370; clear A370
          by_cases c38 : t164 = 0
          ·refine box_ ?g4;letI i:type_of% ?g4:=⟨by
           rw [if_pos c38] at H
           have c38b0 : (t164 == 0) = true := beq_iff_eq.mpr c38
           have c38b1 : (t164 != 0) = false := bne_eq_false_iff_eq.mpr c38
           clear c38
           by_cases c39 : t151 = 4
           ·refine box_ ?g5;letI i:type_of% ?g5:=⟨by
            rw [if_pos c39] at H
            have c39b0 : (t151 == 4) = true := beq_iff_eq.mpr c39
            have c39b1 : (t151 != 4) = false := bne_eq_false_iff_eq.mpr c39
            clear c39
            by_cases c40 : t153 = 4
            ·refine box_ ?g6;letI i:type_of% ?g6:=⟨by
             rw [if_pos c40] at H
             have c40b0 : (t153 == 4) = true := beq_iff_eq.mpr c40
             have c40b1 : (t153 != 4) = false := bne_eq_false_iff_eq.mpr c40
             clear c40
             by_cases c41 : t157 = 4
             ·refine box_ ?g7;letI i:type_of% ?g7:=⟨by
              rw [if_pos c41] at H
              have c41b0 : (t157 == 4) = true := beq_iff_eq.mpr c41
              have c41b1 : (t157 != 4) = false := bne_eq_false_iff_eq.mpr c41
              clear c41
              by_cases c42 : t161 = 4
              ·rw [if_pos c42] at H
               have c42b0 : (t161 == 4) = true := beq_iff_eq.mpr c42
               have c42b1 : (t161 != 4) = false := bne_eq_false_iff_eq.mpr c42
               clear c42
               by_cases c43 : t150 = 0
               ·rw [if_pos c43] at H
                have c43b0 : (t150 == 0) = true := beq_iff_eq.mpr c43
                have c43b1 : (t150 != 0) = false := bne_eq_false_iff_eq.mpr c43
                clear c43
                obtain rfl := Option.some.inj H
                go_wp2_with (first | ((with_reducible refine gate_callee (f := 15) rfl ?_); refine goesL_ (some 73) rfl rfl Try.func15 kr_ rfl #[.int .i64 a0, .int .i64 a1, .int .i64 a2, .int .i64 a3] rfl (by (try simp only [List.map_toArray, List.map_cons, List.map_nil]); first | done | rfl | (simp only [List.length_drop, List.length_take]; rfl)) ?_; (with_reducible refine (symm_Map.calls kj20 a0 a1 a2 a3 t150 t151 _ A33.out).mono ?_); rintro e w' ⟨rfl, ⟨nd, rfl⟩⟩; refine ⟨_, rfl, ?_⟩) | ((with_reducible refine gate_callee (f := 18) rfl ?_); refine goesL_ (some 81) rfl rfl Try.func18 kr_ rfl #[.int .i64 a0, .int .i64 a1, .int .i64 a2, .slice A4 l4.length c4] rfl (by (try simp only [List.map_toArray, List.map_cons, List.map_nil]); first | done | rfl | (simp only [List.length_drop, List.length_take]; rfl)) ?_; (with_reducible refine (symm_Apply.calls kj20 a0 a1 a2 _ _ l4 t152 t153 _ ?side1 ?side2 A34.out).mono ?_); (case side1 => repeat (first | exact (Kd.C_below HR4.out (xW HB)) | (with_reducible refine Kd.C_alloc ?_ _) | (with_reducible refine Kd.C_drewN ?_ _) | (with_reducible refine Kd.C_drew ?_))); (case side2 => exact HC4.out); rintro e w44 ⟨v154, rfl, ho0, hb⟩; refine ⟨_, rfl, ?_⟩; have HO155 := Aside0.mk (Kd.R_lower ho0 (below_size (xW HB))); replace HB := Aside0.mk (xS HB hb); (try clear hb); (try clear hb2); (try clear hk); (try clear hi); (try clear ho0)) | ((with_reducible refine gate_callee (f := 16) rfl ?_); refine goesL_ (some 88) rfl rfl Try.func16 kr_ rfl #[.int .i64 a0, .int .i64 a1, .int .i64 a3] rfl (by (try simp only [List.map_toArray, List.map_cons, List.map_nil]); first | done | rfl | (simp only [List.length_drop, List.length_take]; rfl)) ?_; (with_reducible refine (symm_Orbit.calls kj20 a0 a1 a3 t156 t157 _ A35.out).mono ?_); rintro e w45 ⟨v158, rfl, ho0, hb⟩; refine ⟨_, rfl, ?_⟩; have HO159 := Aside0.mk (Kd.R_lower (Kd.R_new' ho0 (Kd.R_lt (by (with_reducible repeat (first | apply Kd.R_alloc | apply Kd.R_drewN | apply Kd.R_drew)); exact HO155.out))) (below_size (xW HB))); replace HO155 := Aside0.mk (Kd.R_elder' (by (with_reducible repeat (first | apply Kd.R_alloc | apply Kd.R_drewN | apply Kd.R_drew)); exact HO155.out) (Kd.R_base ho0) hb); replace HB := Aside0.mk (xS HB hb); (try clear hb); (try clear hb2); (try clear hk); (try clear hi); (try clear ho0)) | ((with_reducible refine gate_callee (f := 19) rfl ?_); refine goesL_ (some 94) rfl rfl Try.func19 kr_ rfl #[.int .i64 a0, .int .i64 a1] rfl (by (try simp only [List.map_toArray, List.map_cons, List.map_nil]); first | done | rfl | (simp only [List.length_drop, List.length_take]; rfl)) ?_; (with_reducible refine (symm_All.calls kj20 a0 a1 t160 t161 _ A36.out).mono ?_); rintro e w46 ⟨v162, rfl, ho0, hb⟩; refine ⟨_, rfl, ?_⟩; have HO163 := Aside0.mk (Kd.R_lower (Kd.R_new' (Kd.R_new' ho0 (Kd.R_lt (by (with_reducible repeat (first | apply Kd.R_alloc | apply Kd.R_drewN | apply Kd.R_drew)); exact HO155.out))) (Kd.R_lt (by (with_reducible repeat (first | apply Kd.R_alloc | apply Kd.R_drewN | apply Kd.R_drew)); exact HO159.out))) (below_size (xW HB))); replace HO155 := Aside0.mk (Kd.R_elder' (by (with_reducible repeat (first | apply Kd.R_alloc | apply Kd.R_drewN | apply Kd.R_drew)); exact HO155.out) (Kd.R_base ho0) hb); replace HO159 := Aside0.mk (Kd.R_elder' (by (with_reducible repeat (first | apply Kd.R_alloc | apply Kd.R_drewN | apply Kd.R_drew)); exact HO159.out) (Kd.R_base ho0) hb); replace HB := Aside0.mk (xS HB hb); (try clear hb); (try clear hb2); (try clear hk); (try clear hi); (try clear ho0)) | ((with_reducible refine gate_callee (f := 20) rfl ?_); refine goesL_ (some 99) rfl rfl Try.func20 kr_ rfl #[.int .i64 a0, .int .i64 a1] rfl (by (try simp only [List.map_toArray, List.map_cons, List.map_nil]); first | done | rfl | (simp only [List.length_drop, List.length_take]; rfl)) ?_; (with_reducible refine (gamehallref1_Symmetries.calls kj20 a0 a1 t164 _ A37.out).mono ?_); rintro e w' ⟨rfl, ⟨nd, rfl⟩⟩; refine ⟨_, rfl, ?_⟩; obtain ⟨Ao47, co47, eo47⟩ := Kd.R_slice HO155.out; subst eo47; obtain ⟨Ao48, co48, eo48⟩ := Kd.R_slice HO159.out; subst eo48; obtain ⟨Ao49, co49, eo49⟩ := Kd.R_slice HO163.out; subst eo49))
                go_ret
                exact ⟨xer, xW HB⟩
               ·rw [if_neg c43] at H
                have c43b0 : (t150 == 0) = false := beq_eq_false_iff_ne.mpr c43
                have c43b1 : (t150 != 0) = true := bne_iff_ne.mpr c43; clear c43
                obtain rfl := Option.some.inj H
                go_wp2_with (first | ((with_reducible refine gate_callee (f := 15) rfl ?_); refine goesL_ (some 73) rfl rfl Try.func15 kr_ rfl #[.int .i64 a0, .int .i64 a1, .int .i64 a2, .int .i64 a3] rfl (by (try simp only [List.map_toArray, List.map_cons, List.map_nil]); first | done | rfl | (simp only [List.length_drop, List.length_take]; rfl)) ?_; (with_reducible refine (symm_Map.calls kj20 a0 a1 a2 a3 t150 t151 _ A33.out).mono ?_); rintro e w' ⟨rfl, ⟨nd, rfl⟩⟩; refine ⟨_, rfl, ?_⟩) | ((with_reducible refine gate_callee (f := 18) rfl ?_); refine goesL_ (some 81) rfl rfl Try.func18 kr_ rfl #[.int .i64 a0, .int .i64 a1, .int .i64 a2, .slice A4 l4.length c4] rfl (by (try simp only [List.map_toArray, List.map_cons, List.map_nil]); first | done | rfl | (simp only [List.length_drop, List.length_take]; rfl)) ?_; (with_reducible refine (symm_Apply.calls kj20 a0 a1 a2 _ _ l4 t152 t153 _ ?side1 ?side2 A34.out).mono ?_); (case side1 => repeat (first | exact (Kd.C_below HR4.out (xW HB)) | (with_reducible refine Kd.C_alloc ?_ _) | (with_reducible refine Kd.C_drewN ?_ _) | (with_reducible refine Kd.C_drew ?_))); (case side2 => exact HC4.out); rintro e w50 ⟨v154, rfl, ho0, hb⟩; refine ⟨_, rfl, ?_⟩; have HO155 := Aside0.mk (Kd.R_lower ho0 (below_size (xW HB))); replace HB := Aside0.mk (xS HB hb); (try clear hb); (try clear hb2); (try clear hk); (try clear hi); (try clear ho0)) | ((with_reducible refine gate_callee (f := 16) rfl ?_); refine goesL_ (some 88) rfl rfl Try.func16 kr_ rfl #[.int .i64 a0, .int .i64 a1, .int .i64 a3] rfl (by (try simp only [List.map_toArray, List.map_cons, List.map_nil]); first | done | rfl | (simp only [List.length_drop, List.length_take]; rfl)) ?_; (with_reducible refine (symm_Orbit.calls kj20 a0 a1 a3 t156 t157 _ A35.out).mono ?_); rintro e w51 ⟨v158, rfl, ho0, hb⟩; refine ⟨_, rfl, ?_⟩; have HO159 := Aside0.mk (Kd.R_lower (Kd.R_new' ho0 (Kd.R_lt (by (with_reducible repeat (first | apply Kd.R_alloc | apply Kd.R_drewN | apply Kd.R_drew)); exact HO155.out))) (below_size (xW HB))); replace HO155 := Aside0.mk (Kd.R_elder' (by (with_reducible repeat (first | apply Kd.R_alloc | apply Kd.R_drewN | apply Kd.R_drew)); exact HO155.out) (Kd.R_base ho0) hb); replace HB := Aside0.mk (xS HB hb); (try clear hb); (try clear hb2); (try clear hk); (try clear hi); (try clear ho0)) | ((with_reducible refine gate_callee (f := 19) rfl ?_); refine goesL_ (some 94) rfl rfl Try.func19 kr_ rfl #[.int .i64 a0, .int .i64 a1] rfl (by (try simp only [List.map_toArray, List.map_cons, List.map_nil]); first | done | rfl | (simp only [List.length_drop, List.length_take]; rfl)) ?_; (with_reducible refine (symm_All.calls kj20 a0 a1 t160 t161 _ A36.out).mono ?_); rintro e w52 ⟨v162, rfl, ho0, hb⟩; refine ⟨_, rfl, ?_⟩; have HO163 := Aside0.mk (Kd.R_lower (Kd.R_new' (Kd.R_new' ho0 (Kd.R_lt (by (with_reducible repeat (first | apply Kd.R_alloc | apply Kd.R_drewN | apply Kd.R_drew)); exact HO155.out))) (Kd.R_lt (by (with_reducible repeat (first | apply Kd.R_alloc | apply Kd.R_drewN | apply Kd.R_drew)); exact HO159.out))) (below_size (xW HB))); replace HO155 := Aside0.mk (Kd.R_elder' (by (with_reducible repeat (first | apply Kd.R_alloc | apply Kd.R_drewN | apply Kd.R_drew)); exact HO155.out) (Kd.R_base ho0) hb); replace HO159 := Aside0.mk (Kd.R_elder' (by (with_reducible repeat (first | apply Kd.R_alloc | apply Kd.R_drewN | apply Kd.R_drew)); exact HO159.out) (Kd.R_base ho0) hb); replace HB := Aside0.mk (xS HB hb); (try clear hb); (try clear hb2); (try clear hk); (try clear hi); (try clear ho0)) | ((with_reducible refine gate_callee (f := 20) rfl ?_); refine goesL_ (some 99) rfl rfl Try.func20 kr_ rfl #[.int .i64 a0, .int .i64 a1] rfl (by (try simp only [List.map_toArray, List.map_cons, List.map_nil]); first | done | rfl | (simp only [List.length_drop, List.length_take]; rfl)) ?_; (with_reducible refine (gamehallref1_Symmetries.calls kj20 a0 a1 t164 _ A37.out).mono ?_); rintro e w' ⟨rfl, ⟨nd, rfl⟩⟩; refine ⟨_, rfl, ?_⟩))
                go_ret
                exact ⟨xer, xW HB⟩
              ·rw [if_neg c42] at H
               have c42b0 : (t161 == 4) = false := beq_eq_false_iff_ne.mpr c42
               have c42b1 : (t161 != 4) = true := bne_iff_ne.mpr c42; clear c42
               obtain rfl := Option.some.inj H
               go_wp2_with (first | ((with_reducible refine gate_callee (f := 15) rfl ?_); refine goesL_ (some 73) rfl rfl Try.func15 kr_ rfl #[.int .i64 a0, .int .i64 a1, .int .i64 a2, .int .i64 a3] rfl (by (try simp only [List.map_toArray, List.map_cons, List.map_nil]); first | done | rfl | (simp only [List.length_drop, List.length_take]; rfl)) ?_; (with_reducible refine (symm_Map.calls kj20 a0 a1 a2 a3 t150 t151 _ A33.out).mono ?_); rintro e w' ⟨rfl, ⟨nd, rfl⟩⟩; refine ⟨_, rfl, ?_⟩) | ((with_reducible refine gate_callee (f := 18) rfl ?_); refine goesL_ (some 81) rfl rfl Try.func18 kr_ rfl #[.int .i64 a0, .int .i64 a1, .int .i64 a2, .slice A4 l4.length c4] rfl (by (try simp only [List.map_toArray, List.map_cons, List.map_nil]); first | done | rfl | (simp only [List.length_drop, List.length_take]; rfl)) ?_; (with_reducible refine (symm_Apply.calls kj20 a0 a1 a2 _ _ l4 t152 t153 _ ?side1 ?side2 A34.out).mono ?_); (case side1 => repeat (first | exact (Kd.C_below HR4.out (xW HB)) | (with_reducible refine Kd.C_alloc ?_ _) | (with_reducible refine Kd.C_drewN ?_ _) | (with_reducible refine Kd.C_drew ?_))); (case side2 => exact HC4.out); rintro e w53 ⟨v154, rfl, ho0, hb⟩; refine ⟨_, rfl, ?_⟩; have HO155 := Aside0.mk (Kd.R_lower ho0 (below_size (xW HB))); replace HB := Aside0.mk (xS HB hb); (try clear hb); (try clear hb2); (try clear hk); (try clear hi); (try clear ho0)) | ((with_reducible refine gate_callee (f := 16) rfl ?_); refine goesL_ (some 88) rfl rfl Try.func16 kr_ rfl #[.int .i64 a0, .int .i64 a1, .int .i64 a3] rfl (by (try simp only [List.map_toArray, List.map_cons, List.map_nil]); first | done | rfl | (simp only [List.length_drop, List.length_take]; rfl)) ?_; (with_reducible refine (symm_Orbit.calls kj20 a0 a1 a3 t156 t157 _ A35.out).mono ?_); rintro e w54 ⟨v158, rfl, ho0, hb⟩; refine ⟨_, rfl, ?_⟩; have HO159 := Aside0.mk (Kd.R_lower (Kd.R_new' ho0 (Kd.R_lt (by (with_reducible repeat (first | apply Kd.R_alloc | apply Kd.R_drewN | apply Kd.R_drew)); exact HO155.out))) (below_size (xW HB))); replace HO155 := Aside0.mk (Kd.R_elder' (by (with_reducible repeat (first | apply Kd.R_alloc | apply Kd.R_drewN | apply Kd.R_drew)); exact HO155.out) (Kd.R_base ho0) hb); replace HB := Aside0.mk (xS HB hb); (try clear hb); (try clear hb2); (try clear hk); (try clear hi); (try clear ho0)) | ((with_reducible refine gate_callee (f := 19) rfl ?_); refine goesL_ (some 94) rfl rfl Try.func19 kr_ rfl #[.int .i64 a0, .int .i64 a1] rfl (by (try simp only [List.map_toArray, List.map_cons, List.map_nil]); first | done | rfl | (simp only [List.length_drop, List.length_take]; rfl)) ?_; (with_reducible refine (symm_All.calls kj20 a0 a1 t160 t161 _ A36.out).mono ?_); rintro e w55 ⟨v162, rfl, ho0, hb⟩; refine ⟨_, rfl, ?_⟩; have HO163 := Aside0.mk (Kd.R_lower (Kd.R_new' (Kd.R_new' ho0 (Kd.R_lt (by (with_reducible repeat (first | apply Kd.R_alloc | apply Kd.R_drewN | apply Kd.R_drew)); exact HO155.out))) (Kd.R_lt (by (with_reducible repeat (first | apply Kd.R_alloc | apply Kd.R_drewN | apply Kd.R_drew)); exact HO159.out))) (below_size (xW HB))); replace HO155 := Aside0.mk (Kd.R_elder' (by (with_reducible repeat (first | apply Kd.R_alloc | apply Kd.R_drewN | apply Kd.R_drew)); exact HO155.out) (Kd.R_base ho0) hb); replace HO159 := Aside0.mk (Kd.R_elder' (by (with_reducible repeat (first | apply Kd.R_alloc | apply Kd.R_drewN | apply Kd.R_drew)); exact HO159.out) (Kd.R_base ho0) hb); replace HB := Aside0.mk (xS HB hb); (try clear hb); (try clear hb2); (try clear hk); (try clear hi); (try clear ho0)) | ((with_reducible refine gate_callee (f := 20) rfl ?_); refine goesL_ (some 99) rfl rfl Try.func20 kr_ rfl #[.int .i64 a0, .int .i64 a1] rfl (by (try simp only [List.map_toArray, List.map_cons, List.map_nil]); first | done | rfl | (simp only [List.length_drop, List.length_take]; rfl)) ?_; (with_reducible refine (gamehallref1_Symmetries.calls kj20 a0 a1 t164 _ A37.out).mono ?_); rintro e w' ⟨rfl, ⟨nd, rfl⟩⟩; refine ⟨_, rfl, ?_⟩))
               go_ret
               exact ⟨xer, xW HB⟩⟩
              exact inferInstanceAs _
             ·rw [if_neg c41] at H
              have c41b0 : (t157 == 4) = false := beq_eq_false_iff_ne.mpr c41
              have c41b1 : (t157 != 4) = true := bne_iff_ne.mpr c41; clear c41
              obtain rfl := Option.some.inj H
              go_wp2_with (first | ((with_reducible refine gate_callee (f := 15) rfl ?_); refine goesL_ (some 73) rfl rfl Try.func15 kr_ rfl #[.int .i64 a0, .int .i64 a1, .int .i64 a2, .int .i64 a3] rfl (by (try simp only [List.map_toArray, List.map_cons, List.map_nil]); first | done | rfl | (simp only [List.length_drop, List.length_take]; rfl)) ?_; (with_reducible refine (symm_Map.calls kj20 a0 a1 a2 a3 t150 t151 _ A33.out).mono ?_); rintro e w' ⟨rfl, ⟨nd, rfl⟩⟩; refine ⟨_, rfl, ?_⟩) | ((with_reducible refine gate_callee (f := 18) rfl ?_); refine goesL_ (some 81) rfl rfl Try.func18 kr_ rfl #[.int .i64 a0, .int .i64 a1, .int .i64 a2, .slice A4 l4.length c4] rfl (by (try simp only [List.map_toArray, List.map_cons, List.map_nil]); first | done | rfl | (simp only [List.length_drop, List.length_take]; rfl)) ?_; (with_reducible refine (symm_Apply.calls kj20 a0 a1 a2 _ _ l4 t152 t153 _ ?side1 ?side2 A34.out).mono ?_); (case side1 => repeat (first | exact (Kd.C_below HR4.out (xW HB)) | (with_reducible refine Kd.C_alloc ?_ _) | (with_reducible refine Kd.C_drewN ?_ _) | (with_reducible refine Kd.C_drew ?_))); (case side2 => exact HC4.out); rintro e w56 ⟨v154, rfl, ho0, hb⟩; refine ⟨_, rfl, ?_⟩; have HO155 := Aside0.mk (Kd.R_lower ho0 (below_size (xW HB))); replace HB := Aside0.mk (xS HB hb); (try clear hb); (try clear hb2); (try clear hk); (try clear hi); (try clear ho0)) | ((with_reducible refine gate_callee (f := 16) rfl ?_); refine goesL_ (some 88) rfl rfl Try.func16 kr_ rfl #[.int .i64 a0, .int .i64 a1, .int .i64 a3] rfl (by (try simp only [List.map_toArray, List.map_cons, List.map_nil]); first | done | rfl | (simp only [List.length_drop, List.length_take]; rfl)) ?_; (with_reducible refine (symm_Orbit.calls kj20 a0 a1 a3 t156 t157 _ A35.out).mono ?_); rintro e w57 ⟨v158, rfl, ho0, hb⟩; refine ⟨_, rfl, ?_⟩; have HO159 := Aside0.mk (Kd.R_lower (Kd.R_new' ho0 (Kd.R_lt (by (with_reducible repeat (first | apply Kd.R_alloc | apply Kd.R_drewN | apply Kd.R_drew)); exact HO155.out))) (below_size (xW HB))); replace HO155 := Aside0.mk (Kd.R_elder' (by (with_reducible repeat (first | apply Kd.R_alloc | apply Kd.R_drewN | apply Kd.R_drew)); exact HO155.out) (Kd.R_base ho0) hb); replace HB := Aside0.mk (xS HB hb); (try clear hb); (try clear hb2); (try clear hk); (try clear hi); (try clear ho0)) | ((with_reducible refine gate_callee (f := 19) rfl ?_); refine goesL_ (some 94) rfl rfl Try.func19 kr_ rfl #[.int .i64 a0, .int .i64 a1] rfl (by (try simp only [List.map_toArray, List.map_cons, List.map_nil]); first | done | rfl | (simp only [List.length_drop, List.length_take]; rfl)) ?_; (with_reducible refine (symm_All.calls kj20 a0 a1 t160 t161 _ A36.out).mono ?_); rintro e w58 ⟨v162, rfl, ho0, hb⟩; refine ⟨_, rfl, ?_⟩; have HO163 := Aside0.mk (Kd.R_lower (Kd.R_new' (Kd.R_new' ho0 (Kd.R_lt (by (with_reducible repeat (first | apply Kd.R_alloc | apply Kd.R_drewN | apply Kd.R_drew)); exact HO155.out))) (Kd.R_lt (by (with_reducible repeat (first | apply Kd.R_alloc | apply Kd.R_drewN | apply Kd.R_drew)); exact HO159.out))) (below_size (xW HB))); replace HO155 := Aside0.mk (Kd.R_elder' (by (with_reducible repeat (first | apply Kd.R_alloc | apply Kd.R_drewN | apply Kd.R_drew)); exact HO155.out) (Kd.R_base ho0) hb); replace HO159 := Aside0.mk (Kd.R_elder' (by (with_reducible repeat (first | apply Kd.R_alloc | apply Kd.R_drewN | apply Kd.R_drew)); exact HO159.out) (Kd.R_base ho0) hb); replace HB := Aside0.mk (xS HB hb); (try clear hb); (try clear hb2); (try clear hk); (try clear hi); (try clear ho0)) | ((with_reducible refine gate_callee (f := 20) rfl ?_); refine goesL_ (some 99) rfl rfl Try.func20 kr_ rfl #[.int .i64 a0, .int .i64 a1] rfl (by (try simp only [List.map_toArray, List.map_cons, List.map_nil]); first | done | rfl | (simp only [List.length_drop, List.length_take]; rfl)) ?_; (with_reducible refine (gamehallref1_Symmetries.calls kj20 a0 a1 t164 _ A37.out).mono ?_); rintro e w' ⟨rfl, ⟨nd, rfl⟩⟩; refine ⟨_, rfl, ?_⟩))
              go_ret
              exact ⟨xer, xW HB⟩⟩
             exact inferInstanceAs _
            ·rw [if_neg c40] at H
             have c40b0 : (t153 == 4) = false := beq_eq_false_iff_ne.mpr c40
             have c40b1 : (t153 != 4) = true := bne_iff_ne.mpr c40; clear c40
             obtain rfl := Option.some.inj H
             go_wp2_with (first | ((with_reducible refine gate_callee (f := 15) rfl ?_); refine goesL_ (some 73) rfl rfl Try.func15 kr_ rfl #[.int .i64 a0, .int .i64 a1, .int .i64 a2, .int .i64 a3] rfl (by (try simp only [List.map_toArray, List.map_cons, List.map_nil]); first | done | rfl | (simp only [List.length_drop, List.length_take]; rfl)) ?_; (with_reducible refine (symm_Map.calls kj20 a0 a1 a2 a3 t150 t151 _ A33.out).mono ?_); rintro e w' ⟨rfl, ⟨nd, rfl⟩⟩; refine ⟨_, rfl, ?_⟩) | ((with_reducible refine gate_callee (f := 18) rfl ?_); refine goesL_ (some 81) rfl rfl Try.func18 kr_ rfl #[.int .i64 a0, .int .i64 a1, .int .i64 a2, .slice A4 l4.length c4] rfl (by (try simp only [List.map_toArray, List.map_cons, List.map_nil]); first | done | rfl | (simp only [List.length_drop, List.length_take]; rfl)) ?_; (with_reducible refine (symm_Apply.calls kj20 a0 a1 a2 _ _ l4 t152 t153 _ ?side1 ?side2 A34.out).mono ?_); (case side1 => repeat (first | exact (Kd.C_below HR4.out (xW HB)) | (with_reducible refine Kd.C_alloc ?_ _) | (with_reducible refine Kd.C_drewN ?_ _) | (with_reducible refine Kd.C_drew ?_))); (case side2 => exact HC4.out); rintro e w59 ⟨v154, rfl, ho0, hb⟩; refine ⟨_, rfl, ?_⟩; have HO155 := Aside0.mk (Kd.R_lower ho0 (below_size (xW HB))); replace HB := Aside0.mk (xS HB hb); (try clear hb); (try clear hb2); (try clear hk); (try clear hi); (try clear ho0)) | ((with_reducible refine gate_callee (f := 16) rfl ?_); refine goesL_ (some 88) rfl rfl Try.func16 kr_ rfl #[.int .i64 a0, .int .i64 a1, .int .i64 a3] rfl (by (try simp only [List.map_toArray, List.map_cons, List.map_nil]); first | done | rfl | (simp only [List.length_drop, List.length_take]; rfl)) ?_; (with_reducible refine (symm_Orbit.calls kj20 a0 a1 a3 t156 t157 _ A35.out).mono ?_); rintro e w60 ⟨v158, rfl, ho0, hb⟩; refine ⟨_, rfl, ?_⟩; have HO159 := Aside0.mk (Kd.R_lower (Kd.R_new' ho0 (Kd.R_lt (by (with_reducible repeat (first | apply Kd.R_alloc | apply Kd.R_drewN | apply Kd.R_drew)); exact HO155.out))) (below_size (xW HB))); replace HO155 := Aside0.mk (Kd.R_elder' (by (with_reducible repeat (first | apply Kd.R_alloc | apply Kd.R_drewN | apply Kd.R_drew)); exact HO155.out) (Kd.R_base ho0) hb); replace HB := Aside0.mk (xS HB hb); (try clear hb); (try clear hb2); (try clear hk); (try clear hi); (try clear ho0)) | ((with_reducible refine gate_callee (f := 19) rfl ?_); refine goesL_ (some 94) rfl rfl Try.func19 kr_ rfl #[.int .i64 a0, .int .i64 a1] rfl (by (try simp only [List.map_toArray, List.map_cons, List.map_nil]); first | done | rfl | (simp only [List.length_drop, List.length_take]; rfl)) ?_; (with_reducible refine (symm_All.calls kj20 a0 a1 t160 t161 _ A36.out).mono ?_); rintro e w61 ⟨v162, rfl, ho0, hb⟩; refine ⟨_, rfl, ?_⟩; have HO163 := Aside0.mk (Kd.R_lower (Kd.R_new' (Kd.R_new' ho0 (Kd.R_lt (by (with_reducible repeat (first | apply Kd.R_alloc | apply Kd.R_drewN | apply Kd.R_drew)); exact HO155.out))) (Kd.R_lt (by (with_reducible repeat (first | apply Kd.R_alloc | apply Kd.R_drewN | apply Kd.R_drew)); exact HO159.out))) (below_size (xW HB))); replace HO155 := Aside0.mk (Kd.R_elder' (by (with_reducible repeat (first | apply Kd.R_alloc | apply Kd.R_drewN | apply Kd.R_drew)); exact HO155.out) (Kd.R_base ho0) hb); replace HO159 := Aside0.mk (Kd.R_elder' (by (with_reducible repeat (first | apply Kd.R_alloc | apply Kd.R_drewN | apply Kd.R_drew)); exact HO159.out) (Kd.R_base ho0) hb); replace HB := Aside0.mk (xS HB hb); (try clear hb); (try clear hb2); (try clear hk); (try clear hi); (try clear ho0)) | ((with_reducible refine gate_callee (f := 20) rfl ?_); refine goesL_ (some 99) rfl rfl Try.func20 kr_ rfl #[.int .i64 a0, .int .i64 a1] rfl (by (try simp only [List.map_toArray, List.map_cons, List.map_nil]); first | done | rfl | (simp only [List.length_drop, List.length_take]; rfl)) ?_; (with_reducible refine (gamehallref1_Symmetries.calls kj20 a0 a1 t164 _ A37.out).mono ?_); rintro e w' ⟨rfl, ⟨nd, rfl⟩⟩; refine ⟨_, rfl, ?_⟩))
             go_ret
             exact ⟨xer, xW HB⟩⟩
            exact inferInstanceAs _
           ·rw [if_neg c39] at H
            have c39b0 : (t151 == 4) = false := beq_eq_false_iff_ne.mpr c39
            have c39b1 : (t151 != 4) = true := bne_iff_ne.mpr c39; clear c39
            obtain rfl := Option.some.inj H
            go_wp2_with (first | ((with_reducible refine gate_callee (f := 15) rfl ?_); refine goesL_ (some 73) rfl rfl Try.func15 kr_ rfl #[.int .i64 a0, .int .i64 a1, .int .i64 a2, .int .i64 a3] rfl (by (try simp only [List.map_toArray, List.map_cons, List.map_nil]); first | done | rfl | (simp only [List.length_drop, List.length_take]; rfl)) ?_; (with_reducible refine (symm_Map.calls kj20 a0 a1 a2 a3 t150 t151 _ A33.out).mono ?_); rintro e w' ⟨rfl, ⟨nd, rfl⟩⟩; refine ⟨_, rfl, ?_⟩) | ((with_reducible refine gate_callee (f := 18) rfl ?_); refine goesL_ (some 81) rfl rfl Try.func18 kr_ rfl #[.int .i64 a0, .int .i64 a1, .int .i64 a2, .slice A4 l4.length c4] rfl (by (try simp only [List.map_toArray, List.map_cons, List.map_nil]); first | done | rfl | (simp only [List.length_drop, List.length_take]; rfl)) ?_; (with_reducible refine (symm_Apply.calls kj20 a0 a1 a2 _ _ l4 t152 t153 _ ?side1 ?side2 A34.out).mono ?_); (case side1 => repeat (first | exact (Kd.C_below HR4.out (xW HB)) | (with_reducible refine Kd.C_alloc ?_ _) | (with_reducible refine Kd.C_drewN ?_ _) | (with_reducible refine Kd.C_drew ?_))); (case side2 => exact HC4.out); rintro e w62 ⟨v154, rfl, ho0, hb⟩; refine ⟨_, rfl, ?_⟩; have HO155 := Aside0.mk (Kd.R_lower ho0 (below_size (xW HB))); replace HB := Aside0.mk (xS HB hb); (try clear hb); (try clear hb2); (try clear hk); (try clear hi); (try clear ho0)) | ((with_reducible refine gate_callee (f := 16) rfl ?_); refine goesL_ (some 88) rfl rfl Try.func16 kr_ rfl #[.int .i64 a0, .int .i64 a1, .int .i64 a3] rfl (by (try simp only [List.map_toArray, List.map_cons, List.map_nil]); first | done | rfl | (simp only [List.length_drop, List.length_take]; rfl)) ?_; (with_reducible refine (symm_Orbit.calls kj20 a0 a1 a3 t156 t157 _ A35.out).mono ?_); rintro e w63 ⟨v158, rfl, ho0, hb⟩; refine ⟨_, rfl, ?_⟩; have HO159 := Aside0.mk (Kd.R_lower (Kd.R_new' ho0 (Kd.R_lt (by (with_reducible repeat (first | apply Kd.R_alloc | apply Kd.R_drewN | apply Kd.R_drew)); exact HO155.out))) (below_size (xW HB))); replace HO155 := Aside0.mk (Kd.R_elder' (by (with_reducible repeat (first | apply Kd.R_alloc | apply Kd.R_drewN | apply Kd.R_drew)); exact HO155.out) (Kd.R_base ho0) hb); replace HB := Aside0.mk (xS HB hb); (try clear hb); (try clear hb2); (try clear hk); (try clear hi); (try clear ho0)) | ((with_reducible refine gate_callee (f := 19) rfl ?_); refine goesL_ (some 94) rfl rfl Try.func19 kr_ rfl #[.int .i64 a0, .int .i64 a1] rfl (by (try simp only [List.map_toArray, List.map_cons, List.map_nil]); first | done | rfl | (simp only [List.length_drop, List.length_take]; rfl)) ?_; (with_reducible refine (symm_All.calls kj20 a0 a1 t160 t161 _ A36.out).mono ?_); rintro e w64 ⟨v162, rfl, ho0, hb⟩; refine ⟨_, rfl, ?_⟩; have HO163 := Aside0.mk (Kd.R_lower (Kd.R_new' (Kd.R_new' ho0 (Kd.R_lt (by (with_reducible repeat (first | apply Kd.R_alloc | apply Kd.R_drewN | apply Kd.R_drew)); exact HO155.out))) (Kd.R_lt (by (with_reducible repeat (first | apply Kd.R_alloc | apply Kd.R_drewN | apply Kd.R_drew)); exact HO159.out))) (below_size (xW HB))); replace HO155 := Aside0.mk (Kd.R_elder' (by (with_reducible repeat (first | apply Kd.R_alloc | apply Kd.R_drewN | apply Kd.R_drew)); exact HO155.out) (Kd.R_base ho0) hb); replace HO159 := Aside0.mk (Kd.R_elder' (by (with_reducible repeat (first | apply Kd.R_alloc | apply Kd.R_drewN | apply Kd.R_drew)); exact HO159.out) (Kd.R_base ho0) hb); replace HB := Aside0.mk (xS HB hb); (try clear hb); (try clear hb2); (try clear hk); (try clear hi); (try clear ho0)) | ((with_reducible refine gate_callee (f := 20) rfl ?_); refine goesL_ (some 99) rfl rfl Try.func20 kr_ rfl #[.int .i64 a0, .int .i64 a1] rfl (by (try simp only [List.map_toArray, List.map_cons, List.map_nil]); first | done | rfl | (simp only [List.length_drop, List.length_take]; rfl)) ?_; (with_reducible refine (gamehallref1_Symmetries.calls kj20 a0 a1 t164 _ A37.out).mono ?_); rintro e w' ⟨rfl, ⟨nd, rfl⟩⟩; refine ⟨_, rfl, ?_⟩))
            go_ret
            exact ⟨xer, xW HB⟩⟩
           exact inferInstanceAs _
          ·refine box_ ?g8;letI i:type_of% ?g8:=⟨by
           rw [if_neg c38] at H
           have c38b0 : (t164 == 0) = false := beq_eq_false_iff_ne.mpr c38
           have c38b1 : (t164 != 0) = true := bne_iff_ne.mpr c38; clear c38
           have HC65 := Aside0.mk H; clear H
           go_upto_region 17 with (first | ((with_reducible refine gate_callee (f := 15) rfl ?_); refine goesL_ (some 73) rfl rfl Try.func15 kr_ rfl #[.int .i64 a0, .int .i64 a1, .int .i64 a2, .int .i64 a3] rfl (by (try simp only [List.map_toArray, List.map_cons, List.map_nil]); first | done | rfl | (simp only [List.length_drop, List.length_take]; rfl)) ?_; (with_reducible refine (symm_Map.calls kj20 a0 a1 a2 a3 t150 t151 _ A33.out).mono ?_); rintro e w' ⟨rfl, ⟨nd, rfl⟩⟩; refine ⟨_, rfl, ?_⟩) | ((with_reducible refine gate_callee (f := 18) rfl ?_); refine goesL_ (some 81) rfl rfl Try.func18 kr_ rfl #[.int .i64 a0, .int .i64 a1, .int .i64 a2, .slice A4 l4.length c4] rfl (by (try simp only [List.map_toArray, List.map_cons, List.map_nil]); first | done | rfl | (simp only [List.length_drop, List.length_take]; rfl)) ?_; (with_reducible refine (symm_Apply.calls kj20 a0 a1 a2 _ _ l4 t152 t153 _ ?side1 ?side2 A34.out).mono ?_); (case side1 => repeat (first | exact (Kd.C_below HR4.out (xW HB)) | (with_reducible refine Kd.C_alloc ?_ _) | (with_reducible refine Kd.C_drewN ?_ _) | (with_reducible refine Kd.C_drew ?_))); (case side2 => exact HC4.out); rintro e w66 ⟨v154, rfl, ho0, hb⟩; refine ⟨_, rfl, ?_⟩; have HO155 := Aside0.mk (Kd.R_lower ho0 (below_size (xW HB))); replace HB := Aside0.mk (xS HB hb); (try clear hb); (try clear hb2); (try clear hk); (try clear hi); (try clear ho0)) | ((with_reducible refine gate_callee (f := 16) rfl ?_); refine goesL_ (some 88) rfl rfl Try.func16 kr_ rfl #[.int .i64 a0, .int .i64 a1, .int .i64 a3] rfl (by (try simp only [List.map_toArray, List.map_cons, List.map_nil]); first | done | rfl | (simp only [List.length_drop, List.length_take]; rfl)) ?_; (with_reducible refine (symm_Orbit.calls kj20 a0 a1 a3 t156 t157 _ A35.out).mono ?_); rintro e w67 ⟨v158, rfl, ho0, hb⟩; refine ⟨_, rfl, ?_⟩; have HO159 := Aside0.mk (Kd.R_lower (Kd.R_new' ho0 (Kd.R_lt (by (with_reducible repeat (first | apply Kd.R_alloc | apply Kd.R_drewN | apply Kd.R_drew)); exact HO155.out))) (below_size (xW HB))); replace HO155 := Aside0.mk (Kd.R_elder' (by (with_reducible repeat (first | apply Kd.R_alloc | apply Kd.R_drewN | apply Kd.R_drew)); exact HO155.out) (Kd.R_base ho0) hb); replace HB := Aside0.mk (xS HB hb); (try clear hb); (try clear hb2); (try clear hk); (try clear hi); (try clear ho0)) | ((with_reducible refine gate_callee (f := 19) rfl ?_); refine goesL_ (some 94) rfl rfl Try.func19 kr_ rfl #[.int .i64 a0, .int .i64 a1] rfl (by (try simp only [List.map_toArray, List.map_cons, List.map_nil]); first | done | rfl | (simp only [List.length_drop, List.length_take]; rfl)) ?_; (with_reducible refine (symm_All.calls kj20 a0 a1 t160 t161 _ A36.out).mono ?_); rintro e w68 ⟨v162, rfl, ho0, hb⟩; refine ⟨_, rfl, ?_⟩; have HO163 := Aside0.mk (Kd.R_lower (Kd.R_new' (Kd.R_new' ho0 (Kd.R_lt (by (with_reducible repeat (first | apply Kd.R_alloc | apply Kd.R_drewN | apply Kd.R_drew)); exact HO155.out))) (Kd.R_lt (by (with_reducible repeat (first | apply Kd.R_alloc | apply Kd.R_drewN | apply Kd.R_drew)); exact HO159.out))) (below_size (xW HB))); replace HO155 := Aside0.mk (Kd.R_elder' (by (with_reducible repeat (first | apply Kd.R_alloc | apply Kd.R_drewN | apply Kd.R_drew)); exact HO155.out) (Kd.R_base ho0) hb); replace HO159 := Aside0.mk (Kd.R_elder' (by (with_reducible repeat (first | apply Kd.R_alloc | apply Kd.R_drewN | apply Kd.R_drew)); exact HO159.out) (Kd.R_base ho0) hb); replace HB := Aside0.mk (xS HB hb); (try clear hb); (try clear hb2); (try clear hk); (try clear hi); (try clear ho0)) | ((with_reducible refine gate_callee (f := 20) rfl ?_); refine goesL_ (some 99) rfl rfl Try.func20 kr_ rfl #[.int .i64 a0, .int .i64 a1] rfl (by (try simp only [List.map_toArray, List.map_cons, List.map_nil]); first | done | rfl | (simp only [List.length_drop, List.length_take]; rfl)) ?_; (with_reducible refine (gamehallref1_Symmetries.calls kj20 a0 a1 t164 _ A37.out).mono ?_); rintro e w' ⟨rfl, ⟨nd, rfl⟩⟩; refine ⟨_, rfl, ?_⟩))
           (try simp only [Act.put, List.setIfInBounds_toArray, List.set_cons_zero, List.set_cons_succ])
           go_cut [138] (fun vs138 wc => ∃ (kq : Nat) (x138_64 : Bool), vs138 = .bool x138_64 ∧ Aside0 (gamehalllaw1_SymmMaps.j3 kq a0 a1 a2 a3 l4 t150 t151 t152 t153 t156 t157 t164 x138_64 = some r) ∧ Aside0 (kq ≤ kj20) ∧ Aside0 (Kd.R (Kd.int .i64) 3 wc w.heap.size (fun k_ => some k_ ≠ (v158 : Value).ownBlock) v154 t152) ∧ Aside0 (Kd.R (Kd.int .i64) 3 wc w.heap.size (fun k_ => some k_ ≠ (v154 : Value).ownBlock) v158 t156) ∧ Aside0 (Below w.heap.size w wc))
           case first =>
            have H := HC65.out; clear HC65
            by_cases c69 : t161 = 0
            ·rw [if_pos c69] at H
             have c69b0 : (t161 == 0) = true := beq_iff_eq.mpr c69
             have c69b1 : (t161 != 0) = false := bne_eq_false_iff_eq.mpr c69
             clear c69
             (first | rw [c69b0] | (simp only [i64_w, i32_w]; rw [c69b0]) | skip)
             have H' := Aside0.mk H
             clear H
             obtain ⟨Ao70, co70, eo70⟩ := Kd.R_slice HO163.out
             subst eo70
             go_wp2
             go_meet
             case rel => exact ⟨_, (((t160.length : Int) != t164)), (xrf), H', ⟨by have := HJ6.out; have := HJ10.out; have := HJ20.out; first | omega | exact Nat.le_refl _⟩, ⟨by (with_reducible repeat (first | apply Kd.R_alloc | apply Kd.R_drewN | apply Kd.R_drew)); exact Kd.R_mono HO155.out (fun _ hk => hk.1.2)⟩, ⟨by (with_reducible repeat (first | apply Kd.R_alloc | apply Kd.R_drewN | apply Kd.R_drew)); exact Kd.R_mono HO159.out (fun _ hk => hk.1.2)⟩, ⟨xW HB⟩⟩
            ·rw [if_neg c69] at H
             have c69b0 : (t161 == 0) = false := beq_eq_false_iff_ne.mpr c69
             have c69b1 : (t161 != 0) = true := bne_iff_ne.mpr c69; clear c69
             (first | rw [c69b0] | (simp only [i64_w, i32_w]; rw [c69b0]) | skip)
             have H' := Aside0.mk H
             clear H
             go_wp2
             go_meet
             case rel => exact ⟨_, (true), (xrf), H', ⟨by have := HJ6.out; have := HJ10.out; have := HJ20.out; first | omega | exact Nat.le_refl _⟩, ⟨by (with_reducible repeat (first | apply Kd.R_alloc | apply Kd.R_drewN | apply Kd.R_drew)); exact Kd.R_mono HO155.out (fun _ hk => hk.1.2)⟩, ⟨by (with_reducible repeat (first | apply Kd.R_alloc | apply Kd.R_drewN | apply Kd.R_drew)); exact Kd.R_mono HO159.out (fun _ hk => hk.1.2)⟩, ⟨xW HB⟩⟩
           case rest =>
            refine box_ ?g9;letI i:type_of% ?g9:=⟨by
            clear HC65; (try clear p2); (try clear p6); (try clear p64); (try clear p2)
            obtain ⟨kq, x138_64, rfl, HA, HJ64, HO_19, HO_21, HB⟩ := hcut
            cases kq with
            | zero => exact absurd HA.out (by simp [gamehalllaw1_SymmMaps.j3])
            | succ kj64 =>
             have H := HA.out; clear HA
             simp only [gamehalllaw1_SymmMaps.j3] at H
             by_cases c71 : x138_64 = true
             ·subst c71
              rw [if_pos rfl] at H
              obtain rfl := Option.some.inj H
              go_wp2
              go_ret
              exact ⟨xer, xW HB⟩
             ·replace c71 := Bool.eq_false_iff.mpr c71
              subst c71
              rw [if_neg (show ¬ (false = true) by decide)] at H
              replace H := Option.bind_eq_some_iff.mp H
              obtain ⟨t165, A720, H⟩ := H
              try dsimp only at H
              have A72 := Aside0.mk A720; clear A720; have HC73 := Aside0.mk H; clear H
              go_upto_region 20 with (first | ((with_reducible refine gate_callee (f := 21) rfl ?_); refine goesL_ (some 144) rfl rfl Try.func21 kr_ rfl #[.int .i64 a3, .int .i64 0, .int .i64 (wrap64 ((wrap64 (a0 * a1)) - 1))] rfl (by (try simp only [List.map_toArray, List.map_cons, List.map_nil]); first | done | rfl | (simp only [List.length_drop, List.length_take]; rfl)) ?_; (with_reducible refine (gamehallref1_In.calls a3 0 (wrap64 ((wrap64 (a0 * a1)) - 1)) t165 _ A72.out).mono ?_); rintro e w' ⟨rfl, ⟨nd, rfl⟩⟩; refine ⟨_, rfl, ?_⟩))
              (try simp only [Act.put, List.setIfInBounds_toArray, List.set_cons_zero, List.set_cons_succ])
              go_cut [156] (fun vs156 wc => ∃ (kq : Nat) (x156_72 : Bool), vs156 = .bool x156_72 ∧ Aside0 (gamehalllaw1_SymmMaps.j4 kq a0 a1 a2 a3 l4 t150 t151 t152 t153 t156 t164 t165 x156_72 = some r) ∧ Aside0 (kq ≤ kj64) ∧ Aside0 (Kd.R (Kd.int .i64) 3 wc w.heap.size (fun k_ => some k_ ≠ (v158 : Value).ownBlock) v154 t152) ∧ Aside0 (Kd.R (Kd.int .i64) 3 wc w.heap.size (fun k_ => some k_ ≠ (v154 : Value).ownBlock) v158 t156) ∧ Aside0 (Below w.heap.size w wc))
              case first =>
               refine box_ ?g10;letI i:type_of% ?g10:=⟨by
               have H := HC73.out; clear HC73
               by_cases c74 : (t165 != (t157 == 0)) = true
               ·rw [if_pos c74] at H
                have c74b0 : (t165 != (t157 == 0)) = true := c74
                (try (have c74b1 : decide (t165 = (t157 == 0)) = false := by simpa using c74))
                (try (have c74b2 : (t165 == (t157 == 0)) = false := by simpa using c74))
                (try (have c74b3 : ¬ (t165 = (t157 == 0)) := by simpa using c74))
                clear c74
                (first | rw [c74b0] | (simp only [i64_w, i32_w]; rw [c74b0]) | skip)
                have H' := Aside0.mk H
                clear H
                go_wp2
                go_meet
                case rel => exact ⟨_, (true), (xrf), H', ⟨by have := HJ6.out; have := HJ10.out; have := HJ20.out; have := HJ64.out; first | omega | exact Nat.le_refl _⟩, ⟨by (with_reducible repeat (first | apply Kd.R_alloc | apply Kd.R_drewN | apply Kd.R_drew)); exact HO_19.out⟩, ⟨by (with_reducible repeat (first | apply Kd.R_alloc | apply Kd.R_drewN | apply Kd.R_drew)); exact HO_21.out⟩, ⟨xW HB⟩⟩
               ·rw [if_neg c74] at H
                have c74b0 : (t165 != (t157 == 0)) = false := by simpa using c74
                (try (have c74b1 : decide (t165 = (t157 == 0)) = true := by simpa using c74))
                (try (have c74b2 : (t165 == (t157 == 0)) = true := by simpa using c74))
                clear c74
                (first | rw [c74b0] | (simp only [i64_w, i32_w]; rw [c74b0]) | skip)
                by_cases c75 : t165 = true
                ·subst c75
                 rw [if_pos rfl] at H
                 have H' := Aside0.mk H
                 clear H
                 go_wp2
                 go_meet
                 case rel => exact ⟨_, (false), (xrf), H', ⟨by have := HJ6.out; have := HJ10.out; have := HJ20.out; have := HJ64.out; first | omega | exact Nat.le_refl _⟩, ⟨by (with_reducible repeat (first | apply Kd.R_alloc | apply Kd.R_drewN | apply Kd.R_drew)); exact HO_19.out⟩, ⟨by (with_reducible repeat (first | apply Kd.R_alloc | apply Kd.R_drewN | apply Kd.R_drew)); exact HO_21.out⟩, ⟨xW HB⟩⟩
                ·replace c75 := Bool.eq_false_iff.mpr c75
                 subst c75
                 rw [if_neg (show ¬ (false = true) by decide)] at H
                 have H' := Aside0.mk H
                 clear H
                 go_wp2
                 go_meet
                 case rel => exact ⟨_, ((t157 != 4)), (xrf), H', ⟨by have := HJ6.out; have := HJ10.out; have := HJ20.out; have := HJ64.out; first | omega | exact Nat.le_refl _⟩, ⟨by (with_reducible repeat (first | apply Kd.R_alloc | apply Kd.R_drewN | apply Kd.R_drew)); exact HO_19.out⟩, ⟨by (with_reducible repeat (first | apply Kd.R_alloc | apply Kd.R_drewN | apply Kd.R_drew)); exact HO_21.out⟩, ⟨xW HB⟩⟩⟩
               exact inferInstanceAs _
              case rest =>
               refine box_ ?g11;letI i:type_of% ?g11:=⟨by
               clear HC73; (try clear p2); (try clear p6); (try clear p64); (try clear p2); (try clear p6); (try clear p64)
               obtain ⟨kq, x156_72, rfl, HA, HJ72, HO_19, HO_21, HB⟩ := hcut
               cases kq with
               | zero => exact absurd HA.out (by simp [gamehalllaw1_SymmMaps.j4])
               | succ kj72 =>
                have H := HA.out; clear HA
                simp only [gamehalllaw1_SymmMaps.j4] at H
                by_cases c76 : x156_72 = true
                ·subst c76
                 rw [if_pos rfl] at H
                 obtain rfl := Option.some.inj H
                 go_wp2
                 go_ret
                 exact ⟨xer, xW HB⟩
                ·replace c76 := Bool.eq_false_iff.mpr c76
                 subst c76
                 rw [if_neg (show ¬ (false = true) by decide)] at H
                 have H' := Aside0.mk H
                 clear H
                 go_wp2
                 go_loopg [27, 160] kj72 (fun kq vs27 vs160 w' => ∃ (x27_6 : Int) (x160_6 : Int), vs27 = .int .i64 x27_6 ∧ vs160 = .int .i64 x160_6 ∧ Aside0 (gamehalllaw1_SymmMaps.l0 kq a0 a1 a2 a3 l4 t150 t151 t152 t153 t156 t164 t165 x27_6 (wrap64 (a0 * a1)) x160_6 = some r) ∧ Aside0 (kq ≤ kj72) ∧ Aside0 (Kd.R (Kd.int .i64) 3 w' w.heap.size (fun k_ => some k_ ≠ (v158 : Value).ownBlock) v154 t152) ∧ Aside0 (Kd.R (Kd.int .i64) 3 w' w.heap.size (fun k_ => some k_ ≠ (v154 : Value).ownBlock) v158 t156) ∧ Aside0 (Below w.heap.size w w'))
                 case atStart => exact ⟨(0), (0), (xrf), (xrf), H', ⟨Nat.le_refl _⟩, ⟨by (with_reducible repeat (first | apply Kd.R_alloc | apply Kd.R_drewN | apply Kd.R_drew)); exact HO_19.out⟩, ⟨by (with_reducible repeat (first | apply Kd.R_alloc | apply Kd.R_drewN | apply Kd.R_drew)); exact HO_21.out⟩, ⟨xW HB⟩⟩
                 case round =>
                  clear H'; (try clear p2); (try clear p6); (try clear p64); (try clear p2); (try clear p6); (try clear p64)
                  obtain ⟨x27_6, x160_6, rfl, rfl, HA, HK6, HO_19, HO_21, HB⟩ := hrel
                  cases gk with
                  | zero => exact absurd HA.out (by simp [gamehalllaw1_SymmMaps.l0])
                  | succ k6 =>
                   have H := HA.out; clear HA
                   simp only [gamehalllaw1_SymmMaps.l0] at H
                   by_cases c77 : x160_6 < (wrap64 (a0 * a1))
                   ·refine box_ ?g12;letI i:type_of% ?g12:=⟨by
                    rw [if_pos c77] at H
                    have c77b0 : decide (x160_6 < (wrap64 (a0 * a1))) = true := decide_eq_true c77
                    clear c77; have HC78 := Aside0.mk H; clear H
                    go_upto_block 2 with (fail)
                    go_cut [29] (fun vs29 wc => ∃ (kq : Nat) (x29_77 : Bool), vs29 = .bool x29_77 ∧ Aside0 (gamehalllaw1_SymmMaps.j7 kq a0 a1 a2 a3 l4 t150 t151 t152 t153 t156 t164 t165 x27_6 x160_6 x29_77 (wrap64 (a0 * a1)) x160_6 = some r) ∧ Aside0 (kq ≤ k6) ∧ Aside0 (Kd.R (Kd.int .i64) 3 wc w.heap.size (fun k_ => some k_ ≠ (v158 : Value).ownBlock) v154 t152) ∧ Aside0 (Kd.R (Kd.int .i64) 3 wc w.heap.size (fun k_ => some k_ ≠ (v154 : Value).ownBlock) v158 t156) ∧ Aside0 (Below w.heap.size w wc))
                    case first =>
                     refine box_ ?g13;letI i:type_of% ?g13:=⟨by
                     have H := HC78.out; clear HC78
                     have H' := Aside0.mk H
                     clear H
                     go_wp2
                     go_loopg [29, 30] k6 (fun kq vs29 vs30 w' => ∃ (x29_7 : Bool) (x30_7 : Int), vs29 = .bool x29_7 ∧ vs30 = .int .i64 x30_7 ∧ Aside0 (gamehalllaw1_SymmMaps.l1 kq a0 a1 a2 a3 l4 t150 t151 t152 t153 t156 t164 t165 x27_6 x160_6 x29_7 x30_7 (wrap64 (a0 * a1)) x160_6 = some r) ∧ Aside0 (kq ≤ k6) ∧ Aside0 (Kd.R (Kd.int .i64) 3 w' w.heap.size (fun k_ => some k_ ≠ (v158 : Value).ownBlock) v154 t152) ∧ Aside0 (Kd.R (Kd.int .i64) 3 w' w.heap.size (fun k_ => some k_ ≠ (v154 : Value).ownBlock) v158 t156) ∧ Aside0 (Below w.heap.size w w'))
                     case atStart => exact ⟨(false), (0), (xrf), (xrf), H', ⟨Nat.le_refl _⟩, ⟨by (with_reducible repeat (first | apply Kd.R_alloc | apply Kd.R_drewN | apply Kd.R_drew)); exact HO_19.out⟩, ⟨by (with_reducible repeat (first | apply Kd.R_alloc | apply Kd.R_drewN | apply Kd.R_drew)); exact HO_21.out⟩, ⟨xW HB⟩⟩
                     case round =>
                      clear H'; (try clear p2); (try clear p6); (try clear p64); (try clear p2); (try clear p6); (try clear p64)
                      obtain ⟨x29_7, x30_7, rfl, rfl, HA, HK7, HO_19, HO_21, HB⟩ := hrel
                      cases gk with
                      | zero => exact absurd HA.out (by simp [gamehalllaw1_SymmMaps.l1])
                      | succ k7 =>
                       have H := HA.out; clear HA
                       simp only [gamehalllaw1_SymmMaps.l1] at H
                       by_cases c79 : t165 = true
                       ·subst c79
                        rw [if_pos rfl] at H
                        by_cases c80 : x30_7 < t164
                        ·rw [if_pos c80] at H
                         have c80b0 : decide (x30_7 < t164) = true := decide_eq_true c80
                         clear c80
                         (first | rw [c80b0] | (simp only [i64_w, i32_w]; rw [c80b0]) | skip)
                         by_cases c81 : x29_7 = true
                         ·subst c81
                          rw [if_pos rfl] at H
                          have H' := Aside0.mk H
                          clear H
                          go_wp2
                          go_roundg k7
                          case measure => have := HJ6.out; have := HJ10.out; have := HJ20.out; have := HJ64.out; have := HJ72.out; have := HK6.out; have := HK7.out; omega
                          case rel => exact ⟨(true), (wrap64 (x30_7 + 1)), (xrf), (xrf), H', ⟨by have := HJ6.out; have := HJ10.out; have := HJ20.out; have := HJ64.out; have := HJ72.out; have := HK6.out; have := HK7.out; omega⟩, ⟨by (with_reducible repeat (first | apply Kd.R_alloc | apply Kd.R_drewN | apply Kd.R_drew)); exact HO_19.out⟩, ⟨by (with_reducible repeat (first | apply Kd.R_alloc | apply Kd.R_drewN | apply Kd.R_drew)); exact HO_21.out⟩, ⟨xW HB⟩⟩
                         ·replace c81 := Bool.eq_false_iff.mpr c81
                          subst c81
                          rw [if_neg (show ¬ (false = true) by decide)] at H
                          replace H := Option.bind_eq_some_iff.mp H
                          obtain ⟨t166, A820, H⟩ := H
                          try dsimp only at H
                          have A82 := Aside0.mk A820; clear A820
                          have H' := Aside0.mk H
                          clear H
                          go_wp2_with (first | (go_at_call 22; (with_reducible refine (gamehallref1_Moved.calls k7 a0 a1 x30_7 a3 t166 _ A82.out).mono ?_); rintro e w' ⟨rfl, ⟨nd, rfl⟩⟩))
                          go_roundg k7
                          case measure => have := HJ6.out; have := HJ10.out; have := HJ20.out; have := HJ64.out; have := HJ72.out; have := HK6.out; have := HK7.out; omega
                          case rel => exact ⟨((t166 == x160_6)), (wrap64 (x30_7 + 1)), (xrf), (xrf), H', ⟨by have := HJ6.out; have := HJ10.out; have := HJ20.out; have := HJ64.out; have := HJ72.out; have := HK6.out; have := HK7.out; omega⟩, ⟨by (with_reducible repeat (first | apply Kd.R_alloc | apply Kd.R_drewN | apply Kd.R_drew)); exact HO_19.out⟩, ⟨by (with_reducible repeat (first | apply Kd.R_alloc | apply Kd.R_drewN | apply Kd.R_drew)); exact HO_21.out⟩, ⟨xW HB⟩⟩
                        ·rw [if_neg c80] at H
                         have c80b0 : decide (x30_7 < t164) = false := decide_eq_false c80
                         clear c80
                         (first | rw [c80b0] | (simp only [i64_w, i32_w]; rw [c80b0]) | skip)
                         have H' := Aside0.mk H
                         clear H
                         go_wp2
                         go_meet
                         case rel => exact ⟨_, (x29_7), (xrf), H', ⟨by have := HJ6.out; have := HJ10.out; have := HJ20.out; have := HJ64.out; have := HJ72.out; have := HK6.out; have := HK7.out; first | omega | exact Nat.le_refl _⟩, ⟨by (with_reducible repeat (first | apply Kd.R_alloc | apply Kd.R_drewN | apply Kd.R_drew)); exact HO_19.out⟩, ⟨by (with_reducible repeat (first | apply Kd.R_alloc | apply Kd.R_drewN | apply Kd.R_drew)); exact HO_21.out⟩, ⟨xW HB⟩⟩
                       ·replace c79 := Bool.eq_false_iff.mpr c79
                        subst c79
                        rw [if_neg (show ¬ (false = true) by decide)] at H
                        have H' := Aside0.mk H
                        clear H
                        go_wp2
                        go_meet
                        case rel => exact ⟨_, (x29_7), (xrf), H', ⟨by have := HJ6.out; have := HJ10.out; have := HJ20.out; have := HJ64.out; have := HJ72.out; have := HK6.out; have := HK7.out; first | omega | exact Nat.le_refl _⟩, ⟨by (with_reducible repeat (first | apply Kd.R_alloc | apply Kd.R_drewN | apply Kd.R_drew)); exact HO_19.out⟩, ⟨by (with_reducible repeat (first | apply Kd.R_alloc | apply Kd.R_drewN | apply Kd.R_drew)); exact HO_21.out⟩, ⟨xW HB⟩⟩⟩
                     exact inferInstanceAs _
                    case rest =>
                     refine box_ ?g14;letI i:type_of% ?g14:=⟨by
                     clear HC78; (try clear p2); (try clear p6); (try clear p64); (try clear p2); (try clear p6); (try clear p64)
                     obtain ⟨kq, x29_77, rfl, HA, HJ77, HO_19, HO_21, HB⟩ := hcut
                     cases kq with
                     | zero => exact absurd HA.out (by simp [gamehalllaw1_SymmMaps.j7])
                     | succ kj77 =>
                      have H := HA.out; clear HA
                      simp only [gamehalllaw1_SymmMaps.j7] at H
                      have HC83 := Aside0.mk H; clear H
                      go_upto_region 31 with (fail)
                      go_cut [195] (fun vs195 wc => ∃ (kq : Nat) (x195_82 : Bool), vs195 = .bool x195_82 ∧ Aside0 (gamehalllaw1_SymmMaps.j8 kq a0 a1 a2 a3 l4 t150 t151 t152 t153 t156 t164 t165 x27_6 x29_77 (wrap64 (a0 * a1)) x160_6 x195_82 = some r) ∧ Aside0 (kq ≤ kj77) ∧ Aside0 (Kd.R (Kd.int .i64) 3 wc w.heap.size (fun k_ => some k_ ≠ (v158 : Value).ownBlock) v154 t152) ∧ Aside0 (Kd.R (Kd.int .i64) 3 wc w.heap.size (fun k_ => some k_ ≠ (v154 : Value).ownBlock) v158 t156) ∧ Aside0 (Below w.heap.size w wc))
                      case first =>
                       refine box_ ?g15;letI i:type_of% ?g15:=⟨by
                       have H := HC83.out; clear HC83
                       by_cases c84 : x29_77 = true
                       ·subst c84
                        rw [if_pos rfl] at H
                        by_cases c85 : x27_6 ≥ (t156.length : Int)
                        ·rw [if_pos c85] at H
                         have c85b0 : decide ((t156.length : Int) ≤ x27_6) = true := decide_eq_true c85
                         clear c85
                         (first | rw [c85b0] | (simp only [i64_w, i32_w]; rw [c85b0]) | skip)
                         have H' := Aside0.mk H
                         clear H
                         obtain ⟨Ao86, co86, eo86⟩ := Kd.R_slice HO_21.out
                         subst eo86
                         go_wp2
                         go_meet
                         case rel => exact ⟨_, (true), (xrf), H', ⟨by have := HJ6.out; have := HJ10.out; have := HJ20.out; have := HJ64.out; have := HJ72.out; have := HK6.out; have := HJ77.out; first | omega | exact Nat.le_refl _⟩, ⟨by (with_reducible repeat (first | apply Kd.R_alloc | apply Kd.R_drewN | apply Kd.R_drew)); exact HO_19.out⟩, ⟨by (with_reducible repeat (first | apply Kd.R_alloc | apply Kd.R_drewN | apply Kd.R_drew)); exact HO_21.out⟩, ⟨xW HB⟩⟩
                        ·rw [if_neg c85] at H
                         have c85b0 : decide ((t156.length : Int) ≤ x27_6) = false := decide_eq_false c85
                         clear c85
                         (first | rw [c85b0] | (simp only [i64_w, i32_w]; rw [c85b0]) | skip)
                         by_cases c87 : 0 ≤ x27_6
                         ·rw [if_pos c87] at H
                          have c87b0 : decide (0 ≤ x27_6) = true := decide_eq_true c87
                          clear c87
                          by_cases c88 : x27_6 < (t156.length : Int)
                          ·rw [if_pos c88] at H
                           have c88b0 : decide (x27_6 < (t156.length : Int)) = true := decide_eq_true c88
                           clear c88
                           have H' := Aside0.mk H
                           clear H
                           obtain ⟨Ao89, co89, eo89⟩ := Kd.R_slice HO_21.out
                           subst eo89
                           have p167 : 0 ≤ (x27_6 : Int) := of_decide_eq_true (by first | (with_reducible assumption) | assumption)
                           have q167 : x27_6 < (t156.length : Int) := of_decide_eq_true (by first | (with_reducible assumption) | assumption)
                           obtain ⟨ad167, e167, hx167_0⟩ := Kd.at_int (Kd.R_reads' HO_21.out).2.2 x27_6 p167 q167
                           cases e167
                           replace p167 := eq_true p167; replace q167 := eq_true q167
                           go_wp2
                           go_meet
                           case rel => exact ⟨_, (((rd t156 x27_6) != x160_6)), (xrf), H', ⟨by have := HJ6.out; have := HJ10.out; have := HJ20.out; have := HJ64.out; have := HJ72.out; have := HK6.out; have := HJ77.out; first | omega | exact Nat.le_refl _⟩, ⟨by (with_reducible repeat (first | apply Kd.R_alloc | apply Kd.R_drewN | apply Kd.R_drew)); exact HO_19.out⟩, ⟨by (with_reducible repeat (first | apply Kd.R_alloc | apply Kd.R_drewN | apply Kd.R_drew)); exact HO_21.out⟩, ⟨xW HB⟩⟩
                          ·rw [if_neg c88] at H
                           exact absurd H (by simp)
                         ·rw [if_neg c87] at H
                          exact absurd H (by simp)
                       ·replace c84 := Bool.eq_false_iff.mpr c84
                        subst c84
                        rw [if_neg (show ¬ (false = true) by decide)] at H
                        have H' := Aside0.mk H
                        clear H
                        go_wp2
                        go_meet
                        case rel => exact ⟨_, (false), (xrf), H', ⟨by have := HJ6.out; have := HJ10.out; have := HJ20.out; have := HJ64.out; have := HJ72.out; have := HK6.out; have := HJ77.out; first | omega | exact Nat.le_refl _⟩, ⟨by (with_reducible repeat (first | apply Kd.R_alloc | apply Kd.R_drewN | apply Kd.R_drew)); exact HO_19.out⟩, ⟨by (with_reducible repeat (first | apply Kd.R_alloc | apply Kd.R_drewN | apply Kd.R_drew)); exact HO_21.out⟩, ⟨xW HB⟩⟩⟩
                       exact inferInstanceAs _
                      case rest =>
                       refine box_ ?g16;letI i:type_of% ?g16:=⟨by
                       clear HC83; (try clear p1); (try clear q1); (try clear hx1); (try clear p2); (try clear p6); (try clear p16); (try clear q16); (try clear hx16); (try clear p64); (try clear hx167_0); (try clear p167); (try clear p2); (try clear p6); (try clear p64); (try clear q167)
                       obtain ⟨kq, x195_82, rfl, HA, HJ82, HO_19, HO_21, HB⟩ := hcut
                       cases kq with
                       | zero => exact absurd HA.out (by simp [gamehalllaw1_SymmMaps.j8])
                       | succ kj82 =>
                        have H := HA.out; clear HA
                        simp only [gamehalllaw1_SymmMaps.j8] at H
                        by_cases c90 : x195_82 = true
                        ·subst c90
                         rw [if_pos rfl] at H
                         obtain rfl := Option.some.inj H
                         go_wp2
                         go_ret
                         exact ⟨xer, xW HB⟩
                        ·replace c90 := Bool.eq_false_iff.mpr c90
                         subst c90
                         rw [if_neg (show ¬ (false = true) by decide)] at H
                         by_cases c91 : x29_77 = true
                         ·subst c91
                          rw [if_pos rfl] at H
                          have H' := Aside0.mk H
                          clear H
                          go_wp2
                          go_roundg kj82
                          case measure => have := HJ6.out; have := HJ10.out; have := HJ20.out; have := HJ64.out; have := HJ72.out; have := HK6.out; have := HJ77.out; have := HJ82.out; omega
                          case rel => exact ⟨(wrap64 (x27_6 + 1)), (wrap64 (x160_6 + 1)), (xrf), (xrf), H', ⟨by have := HJ6.out; have := HJ10.out; have := HJ20.out; have := HJ64.out; have := HJ72.out; have := HK6.out; have := HJ77.out; have := HJ82.out; omega⟩, ⟨by (with_reducible repeat (first | apply Kd.R_alloc | apply Kd.R_drewN | apply Kd.R_drew)); exact HO_19.out⟩, ⟨by (with_reducible repeat (first | apply Kd.R_alloc | apply Kd.R_drewN | apply Kd.R_drew)); exact HO_21.out⟩, ⟨xW HB⟩⟩
                         ·replace c91 := Bool.eq_false_iff.mpr c91
                          subst c91
                          rw [if_neg (show ¬ (false = true) by decide)] at H
                          have H' := Aside0.mk H
                          clear H
                          go_wp2
                          go_roundg kj82
                          case measure => have := HJ6.out; have := HJ10.out; have := HJ20.out; have := HJ64.out; have := HJ72.out; have := HK6.out; have := HJ77.out; have := HJ82.out; omega
                          case rel => exact ⟨(x27_6), (wrap64 (x160_6 + 1)), (xrf), (xrf), H', ⟨by have := HJ6.out; have := HJ10.out; have := HJ20.out; have := HJ64.out; have := HJ72.out; have := HK6.out; have := HJ77.out; have := HJ82.out; omega⟩, ⟨by (with_reducible repeat (first | apply Kd.R_alloc | apply Kd.R_drewN | apply Kd.R_drew)); exact HO_19.out⟩, ⟨by (with_reducible repeat (first | apply Kd.R_alloc | apply Kd.R_drewN | apply Kd.R_drew)); exact HO_21.out⟩, ⟨xW HB⟩⟩⟩
                       exact inferInstanceAs _⟩
                     exact inferInstanceAs _⟩
                    exact inferInstanceAs _
                   ·refine box_ ?g17;letI i:type_of% ?g17:=⟨by
                    rw [if_neg c77] at H
                    have c77b0 : decide (x160_6 < (wrap64 (a0 * a1))) = false := decide_eq_false c77
                    clear c77
                    by_cases c92 : x27_6 = (t156.length : Int)
                    ·refine box_ ?g18;letI i:type_of% ?g18:=⟨by
                     rw [if_pos c92] at H
                     have c92b0 : (x27_6 == (t156.length : Int)) = true := beq_iff_eq.mpr c92
                     have c92b1 : (x27_6 != (t156.length : Int)) = false := bne_eq_false_iff_eq.mpr c92
                     clear c92; replace H := Option.bind_eq_some_iff.mp H
                     obtain ⟨t168, A930, H⟩ := H
                     try dsimp only at H
                     have A93 := Aside0.mk A930; clear A930
                     by_cases c94 : t168 = true
                     ·subst c94
                      rw [if_pos rfl] at H
                      have HC95 := Aside0.mk H; clear H
                      obtain ⟨Ao96, co96, eo96⟩ := Kd.R_slice HO_21.out
                      subst eo96
                      go_upto_region 40 with (first | ((with_reducible refine gate_callee (f := 21) rfl ?_); refine goesL_ (some 207) rfl rfl Try.func21 kr_ rfl #[.int .i64 a2, .int .i64 0, .int .i64 (wrap64 (t164 - 1))] rfl (by (try simp only [List.map_toArray, List.map_cons, List.map_nil]); first | done | rfl | (simp only [List.length_drop, List.length_take]; rfl)) ?_; (with_reducible refine (gamehallref1_In.calls a2 0 (wrap64 (t164 - 1)) true _ A93.out).mono ?_); rintro e w' ⟨rfl, ⟨nd, rfl⟩⟩; refine ⟨_, rfl, ?_⟩))
                      (try simp only [Act.put, List.setIfInBounds_toArray, List.set_cons_zero, List.set_cons_succ])
                      go_cut [249] (fun vs249 wc => ∃ (kq : Nat) (x249_94 : Bool), vs249 = .bool x249_94 ∧ Aside0 (gamehalllaw1_SymmMaps.j9 kq a0 a1 a2 l4 t152 t153 x249_94 = some r) ∧ Aside0 (kq ≤ k6) ∧ Aside0 (Kd.R (Kd.int .i64) 3 wc w.heap.size (fun _ => True) v154 t152) ∧ Aside0 (Below w.heap.size w wc))
                      case first =>
                       refine box_ ?g19;letI i:type_of% ?g19:=⟨by
                       have H := HC95.out; clear HC95
                       by_cases c97 : t165 = true
                       ·subst c97
                        rw [if_pos rfl] at H
                        by_cases c98 : t151 = 0
                        ·rw [if_pos c98] at H
                         have c98b0 : (t151 == 0) = true := beq_iff_eq.mpr c98
                         have c98b1 : (t151 != 0) = false := bne_eq_false_iff_eq.mpr c98
                         clear c98
                         (first | rw [c98b0] | (simp only [i64_w, i32_w]; rw [c98b0]) | skip)
                         replace H := Option.bind_eq_some_iff.mp H
                         obtain ⟨t169, A990, H⟩ := H
                         replace H : (gamehalllaw1_SymmMaps.j9 k6 a0 a1 a2 l4 t152 t153 (t150 != t169)) = some r := H
                         have A99 := Aside0.mk A990; clear A990
                         have H' := Aside0.mk H
                         clear H
                         go_wp2_with (first | (go_at_call 22; (with_reducible refine (gamehallref1_Moved.calls k6 a0 a1 a2 a3 t169 _ A99.out).mono ?_); rintro e w' ⟨rfl, ⟨nd, rfl⟩⟩))
                         go_meet
                         case rel => exact ⟨_, ((t150 != t169)), (xrf), H', ⟨by have := HJ6.out; have := HJ10.out; have := HJ20.out; have := HJ64.out; have := HJ72.out; have := HK6.out; first | omega | exact Nat.le_refl _⟩, ⟨by (with_reducible repeat (first | apply Kd.R_alloc | apply Kd.R_drewN | apply Kd.R_drew)); exact Kd.R_mono HO_19.out (fun _ hk => trivial)⟩, ⟨xW HB⟩⟩
                        ·rw [if_neg c98] at H
                         have c98b0 : (t151 == 0) = false := beq_eq_false_iff_ne.mpr c98
                         have c98b1 : (t151 != 0) = true := bne_iff_ne.mpr c98; clear c98
                         (first | rw [c98b0] | (simp only [i64_w, i32_w]; rw [c98b0]) | skip)
                         have H' := Aside0.mk H
                         clear H
                         go_wp2
                         go_meet
                         case rel => exact ⟨_, (true), (xrf), H', ⟨by have := HJ6.out; have := HJ10.out; have := HJ20.out; have := HJ64.out; have := HJ72.out; have := HK6.out; first | omega | exact Nat.le_refl _⟩, ⟨by (with_reducible repeat (first | apply Kd.R_alloc | apply Kd.R_drewN | apply Kd.R_drew)); exact Kd.R_mono HO_19.out (fun _ hk => trivial)⟩, ⟨xW HB⟩⟩
                       ·replace c97 := Bool.eq_false_iff.mpr c97
                        subst c97
                        rw [if_neg (show ¬ (false = true) by decide)] at H
                        by_cases c100 : t151 = 4
                        ·rw [if_pos c100] at H
                         have c100b0 : (t151 == 4) = true := beq_iff_eq.mpr c100
                         have c100b1 : (t151 != 4) = false := bne_eq_false_iff_eq.mpr c100
                         clear c100
                         by_cases c101 : t150 = 0
                         ·rw [if_pos c101] at H
                          have c101b0 : (t150 == 0) = true := beq_iff_eq.mpr c101
                          have c101b1 : (t150 != 0) = false := bne_eq_false_iff_eq.mpr c101
                          clear c101
                          have H' := Aside0.mk H
                          clear H
                          go_wp2
                          go_meet
                          case rel => exact ⟨_, (false), (xrf), H', ⟨by have := HJ6.out; have := HJ10.out; have := HJ20.out; have := HJ64.out; have := HJ72.out; have := HK6.out; first | omega | exact Nat.le_refl _⟩, ⟨by (with_reducible repeat (first | apply Kd.R_alloc | apply Kd.R_drewN | apply Kd.R_drew)); exact Kd.R_mono HO_19.out (fun _ hk => trivial)⟩, ⟨xW HB⟩⟩
                         ·rw [if_neg c101] at H
                          have c101b0 : (t150 == 0) = false := beq_eq_false_iff_ne.mpr c101
                          have c101b1 : (t150 != 0) = true := bne_iff_ne.mpr c101; clear c101
                          have H' := Aside0.mk H
                          clear H
                          go_wp2
                          go_meet
                          case rel => exact ⟨_, (true), (xrf), H', ⟨by have := HJ6.out; have := HJ10.out; have := HJ20.out; have := HJ64.out; have := HJ72.out; have := HK6.out; first | omega | exact Nat.le_refl _⟩, ⟨by (with_reducible repeat (first | apply Kd.R_alloc | apply Kd.R_drewN | apply Kd.R_drew)); exact Kd.R_mono HO_19.out (fun _ hk => trivial)⟩, ⟨xW HB⟩⟩
                        ·rw [if_neg c100] at H
                         have c100b0 : (t151 == 4) = false := beq_eq_false_iff_ne.mpr c100
                         have c100b1 : (t151 != 4) = true := bne_iff_ne.mpr c100; clear c100
                         have H' := Aside0.mk H
                         clear H
                         go_wp2
                         go_meet
                         case rel => exact ⟨_, (true), (xrf), H', ⟨by have := HJ6.out; have := HJ10.out; have := HJ20.out; have := HJ64.out; have := HJ72.out; have := HK6.out; first | omega | exact Nat.le_refl _⟩, ⟨by (with_reducible repeat (first | apply Kd.R_alloc | apply Kd.R_drewN | apply Kd.R_drew)); exact Kd.R_mono HO_19.out (fun _ hk => trivial)⟩, ⟨xW HB⟩⟩⟩
                       exact inferInstanceAs _
                      case rest =>
                       refine box_ ?g20;letI i:type_of% ?g20:=⟨by
                       clear HC95; (try clear p1); (try clear q1); (try clear hx1); (try clear p2); (try clear p6); (try clear p16); (try clear q16); (try clear hx16); (try clear p64); (try clear hx167_0); (try clear p1); (try clear p16); (try clear p167); (try clear p2); (try clear p6); (try clear p64); (try clear q1); (try clear q16); (try clear q167)
                       obtain ⟨kq, x249_94, rfl, HA, HJ94, HO_19, HB⟩ := hcut
                       cases kq with
                       | zero => exact absurd HA.out (by simp [gamehalllaw1_SymmMaps.j9])
                       | succ kj94 =>
                        have H := HA.out; clear HA
                        simp only [gamehalllaw1_SymmMaps.j9] at H
                        by_cases c102 : x249_94 = true
                        ·subst c102
                         rw [if_pos rfl] at H
                         obtain rfl := Option.some.inj H
                         go_wp2
                         go_ret
                         exact ⟨xer, xW HB⟩
                        ·replace c102 := Bool.eq_false_iff.mpr c102
                         subst c102
                         rw [if_neg (show ¬ (false = true) by decide)] at H
                         by_cases c103 : (l4.length : Int) = (wrap64 (a0 * a1))
                         ·refine box_ ?g21;letI i:type_of% ?g21:=⟨by
                          rw [if_pos c103] at H
                          have c103b0 : ((l4.length : Int) == (wrap64 (a0 * a1))) = true := beq_iff_eq.mpr c103
                          have c103b1 : ((l4.length : Int) != (wrap64 (a0 * a1))) = false := bne_eq_false_iff_eq.mpr c103
                          clear c103; have HC104 := Aside0.mk H; clear H
                          go_upto_region 44 with (fail)
                          go_cut [271] (fun vs271 wc => ∃ (kq : Nat) (x271_103 : Bool), vs271 = .bool x271_103 ∧ Aside0 (gamehalllaw1_SymmMaps.j10 kq a0 a1 a2 l4 t152 x271_103 = some r) ∧ Aside0 (kq ≤ kj94) ∧ Aside0 (Kd.R (Kd.int .i64) 3 wc w.heap.size (fun _ => True) v154 t152) ∧ Aside0 (Below w.heap.size w wc))
                          case first =>
                           have H := HC104.out; clear HC104
                           by_cases c105 : t153 = 0
                           ·rw [if_pos c105] at H
                            have c105b0 : (t153 == 0) = true := beq_iff_eq.mpr c105
                            have c105b1 : (t153 != 0) = false := bne_eq_false_iff_eq.mpr c105
                            clear c105
                            (first | rw [c105b0] | (simp only [i64_w, i32_w]; rw [c105b0]) | skip)
                            have H' := Aside0.mk H
                            clear H
                            obtain ⟨Ao106, co106, eo106⟩ := Kd.R_slice HO_19.out
                            subst eo106
                            go_wp2
                            go_meet
                            case rel => exact ⟨_, (((t152.length : Int) != (l4.length : Int))), (xrf), H', ⟨by have := HJ6.out; have := HJ10.out; have := HJ20.out; have := HJ64.out; have := HJ72.out; have := HK6.out; have := HJ94.out; first | omega | exact Nat.le_refl _⟩, ⟨by (with_reducible repeat (first | apply Kd.R_alloc | apply Kd.R_drewN | apply Kd.R_drew)); exact HO_19.out⟩, ⟨xW HB⟩⟩
                           ·rw [if_neg c105] at H
                            have c105b0 : (t153 == 0) = false := beq_eq_false_iff_ne.mpr c105
                            have c105b1 : (t153 != 0) = true := bne_iff_ne.mpr c105; clear c105
                            (first | rw [c105b0] | (simp only [i64_w, i32_w]; rw [c105b0]) | skip)
                            have H' := Aside0.mk H
                            clear H
                            go_wp2
                            go_meet
                            case rel => exact ⟨_, (true), (xrf), H', ⟨by have := HJ6.out; have := HJ10.out; have := HJ20.out; have := HJ64.out; have := HJ72.out; have := HK6.out; have := HJ94.out; first | omega | exact Nat.le_refl _⟩, ⟨by (with_reducible repeat (first | apply Kd.R_alloc | apply Kd.R_drewN | apply Kd.R_drew)); exact HO_19.out⟩, ⟨xW HB⟩⟩
                          case rest =>
                           refine box_ ?g22;letI i:type_of% ?g22:=⟨by
                           clear HC104; (try clear p1); (try clear q1); (try clear hx1); (try clear p2); (try clear p6); (try clear p16); (try clear q16); (try clear hx16); (try clear p64); (try clear hx167_0); (try clear p1); (try clear p16); (try clear p167); (try clear p2); (try clear p6); (try clear p64); (try clear q1); (try clear q16); (try clear q167)
                           obtain ⟨kq, x271_103, rfl, HA, HJ103, HO_19, HB⟩ := hcut
                           cases kq with
                           | zero => exact absurd HA.out (by simp [gamehalllaw1_SymmMaps.j10])
                           | succ kj103 =>
                            have H := HA.out; clear HA
                            simp only [gamehalllaw1_SymmMaps.j10] at H
                            by_cases c107 : x271_103 = true
                            ·subst c107
                             rw [if_pos rfl] at H
                             obtain rfl := Option.some.inj H
                             go_wp2
                             go_ret
                             exact ⟨xer, xW HB⟩
                            ·replace c107 := Bool.eq_false_iff.mpr c107
                             subst c107
                             rw [if_neg (show ¬ (false = true) by decide)] at H
                             have H' := Aside0.mk H
                             clear H
                             go_wp2
                             go_loopg [274] kj103 (fun kq vs274 w' => ∃ (x274_9 : Int), vs274 = .int .i64 x274_9 ∧ Aside0 (gamehalllaw1_SymmMaps.l2 kq a0 a1 a2 t152 l4 (l4.length : Int) x274_9 = some r) ∧ Aside0 (kq ≤ kj103) ∧ Aside0 (Kd.R (Kd.int .i64) 3 w' w.heap.size (fun _ => True) v154 t152) ∧ Aside0 (Below w.heap.size w w'))
                             case atStart => exact ⟨(0), (xrf), H', ⟨Nat.le_refl _⟩, ⟨by (with_reducible repeat (first | apply Kd.R_alloc | apply Kd.R_drewN | apply Kd.R_drew)); exact HO_19.out⟩, ⟨xW HB⟩⟩
                             case round =>
                              clear H'; (try clear p1); (try clear q1); (try clear hx1); (try clear p2); (try clear p6); (try clear p16); (try clear q16); (try clear hx16); (try clear p64); (try clear hx167_0); (try clear p1); (try clear p16); (try clear p167); (try clear p2); (try clear p6); (try clear p64); (try clear q1); (try clear q16); (try clear q167)
                              obtain ⟨x274_9, rfl, HA, HK9, HO_19, HB⟩ := hrel
                              cases gk with
                              | zero => exact absurd HA.out (by simp [gamehalllaw1_SymmMaps.l2])
                              | succ k9 =>
                               have H := HA.out; clear HA
                               simp only [gamehalllaw1_SymmMaps.l2] at H
                               by_cases c108 : x274_9 < (l4.length : Int)
                               ·refine box_ ?g23;letI i:type_of% ?g23:=⟨by
                                rw [if_pos c108] at H
                                have c108b0 : decide (x274_9 < (l4.length : Int)) = true := decide_eq_true c108
                                clear c108
                                by_cases c109 : 0 ≤ x274_9
                                ·refine box_ ?g24;letI i:type_of% ?g24:=⟨by
                                 rw [if_pos c109] at H
                                 have c109b0 : decide (0 ≤ x274_9) = true := decide_eq_true c109
                                 clear c109
                                 by_cases c110 : x274_9 < (l4.length : Int)
                                 ·refine box_ ?g25;letI i:type_of% ?g25:=⟨by
                                  rw [if_pos c110] at H
                                  have c110b0 : decide (x274_9 < (l4.length : Int)) = true := decide_eq_true c110
                                  clear c110; replace H := Option.bind_eq_some_iff.mp H
                                  obtain ⟨t171, A1110, H⟩ := H
                                  try dsimp only at H
                                  have A111 := Aside0.mk A1110; clear A1110
                                  by_cases c112 : 0 ≤ t171
                                  ·refine box_ ?g26;letI i:type_of% ?g26:=⟨by
                                   rw [if_pos c112] at H
                                   have c112b0 : decide (0 ≤ t171) = true := decide_eq_true c112
                                   clear c112
                                   by_cases c113 : t171 < (t152.length : Int)
                                   ·refine box_ ?g27;letI i:type_of% ?g27:=⟨by
                                    rw [if_pos c113] at H
                                    have c113b0 : decide (t171 < (t152.length : Int)) = true := decide_eq_true c113
                                    clear c113
                                    by_cases c114 : (rd t152 t171) = (rd l4 x274_9)
                                    ·rw [if_pos c114] at H
                                     have c114b0 : ((rd t152 t171) == (rd l4 x274_9)) = true := beq_iff_eq.mpr c114
                                     have c114b1 : ((rd t152 t171) != (rd l4 x274_9)) = false := bne_eq_false_iff_eq.mpr c114
                                     clear c114
                                     have H' := Aside0.mk H
                                     clear H
                                     have p170 : 0 ≤ (x274_9 : Int) := of_decide_eq_true (by first | (with_reducible assumption) | assumption)
                                     have q170 : x274_9 < (l4.length : Int) := of_decide_eq_true (by first | (with_reducible assumption) | assumption)
                                     obtain ⟨ad170, e170, hx170_0⟩ := Kd.at_int HR4.out x274_9 p170 q170
                                     cases e170
                                     replace hx170_0 := (HB.out.cell (World.block_lt_of_cell? w _ hx170_0)).trans hx170_0; replace p170 := eq_true p170; replace q170 := eq_true q170
                                     go_wp2_with (first | ((with_reducible refine gate_callee (f := 22) rfl ?_); refine goesL_ (some 284) rfl rfl Try.func22 kr_ rfl #[.int .i64 a0, .int .i64 a1, .int .i64 a2, .int .i64 x274_9] rfl (by (try simp only [List.map_toArray, List.map_cons, List.map_nil]); first | done | rfl | (simp only [List.length_drop, List.length_take]; rfl)) ?_; (with_reducible refine (gamehallref1_Moved.calls k9 a0 a1 a2 x274_9 t171 _ A111.out).mono ?_); rintro e w' ⟨rfl, ⟨nd, rfl⟩⟩; refine ⟨_, rfl, ?_⟩; obtain ⟨Ao115, co115, eo115⟩ := Kd.R_slice HO_19.out; subst eo115; have p172 : 0 ≤ (t171 : Int) := of_decide_eq_true (by first | (with_reducible assumption) | assumption); have q172 : t171 < (t152.length : Int) := of_decide_eq_true (by first | (with_reducible assumption) | assumption); obtain ⟨ad172, e172, hx172_0⟩ := Kd.at_int (Kd.R_reads' HO_19.out).2.2 t171 p172 q172; cases e172; replace p172 := eq_true p172; replace q172 := eq_true q172))
                                     go_roundg k9
                                     case measure => have := HJ6.out; have := HJ10.out; have := HJ20.out; have := HJ64.out; have := HJ72.out; have := HK6.out; have := HJ94.out; have := HJ103.out; have := HK9.out; omega
                                     case rel => exact ⟨(wrap64 (x274_9 + 1)), (xrf), H', ⟨by have := HJ6.out; have := HJ10.out; have := HJ20.out; have := HJ64.out; have := HJ72.out; have := HK6.out; have := HJ94.out; have := HJ103.out; have := HK9.out; omega⟩, ⟨by (with_reducible repeat (first | apply Kd.R_alloc | apply Kd.R_drewN | apply Kd.R_drew)); exact HO_19.out⟩, ⟨xW HB⟩⟩
                                    ·rw [if_neg c114] at H
                                     have c114b0 : ((rd t152 t171) == (rd l4 x274_9)) = false := beq_eq_false_iff_ne.mpr c114
                                     have c114b1 : ((rd t152 t171) != (rd l4 x274_9)) = true := bne_iff_ne.mpr c114; clear c114
                                     obtain rfl := Option.some.inj H
                                     have p170 : 0 ≤ (x274_9 : Int) := of_decide_eq_true (by first | (with_reducible assumption) | assumption)
                                     have q170 : x274_9 < (l4.length : Int) := of_decide_eq_true (by first | (with_reducible assumption) | assumption)
                                     obtain ⟨ad170, e170, hx170_0⟩ := Kd.at_int HR4.out x274_9 p170 q170
                                     cases e170
                                     replace hx170_0 := (HB.out.cell (World.block_lt_of_cell? w _ hx170_0)).trans hx170_0; replace p170 := eq_true p170; replace q170 := eq_true q170
                                     go_wp2_with (first | ((with_reducible refine gate_callee (f := 22) rfl ?_); refine goesL_ (some 284) rfl rfl Try.func22 kr_ rfl #[.int .i64 a0, .int .i64 a1, .int .i64 a2, .int .i64 x274_9] rfl (by (try simp only [List.map_toArray, List.map_cons, List.map_nil]); first | done | rfl | (simp only [List.length_drop, List.length_take]; rfl)) ?_; (with_reducible refine (gamehallref1_Moved.calls k9 a0 a1 a2 x274_9 t171 _ A111.out).mono ?_); rintro e w' ⟨rfl, ⟨nd, rfl⟩⟩; refine ⟨_, rfl, ?_⟩; obtain ⟨Ao116, co116, eo116⟩ := Kd.R_slice HO_19.out; subst eo116; have p172 : 0 ≤ (t171 : Int) := of_decide_eq_true (by first | (with_reducible assumption) | assumption); have q172 : t171 < (t152.length : Int) := of_decide_eq_true (by first | (with_reducible assumption) | assumption); obtain ⟨ad172, e172, hx172_0⟩ := Kd.at_int (Kd.R_reads' HO_19.out).2.2 t171 p172 q172; cases e172; replace p172 := eq_true p172; replace q172 := eq_true q172))
                                     go_ret
                                     exact ⟨xer, xW HB⟩⟩
                                    exact inferInstanceAs _
                                   ·rw [if_neg c113] at H
                                    exact absurd H (by simp)⟩
                                   exact inferInstanceAs _
                                  ·rw [if_neg c112] at H
                                   exact absurd H (by simp)⟩
                                  exact inferInstanceAs _
                                 ·rw [if_neg c110] at H
                                  exact absurd H (by simp)⟩
                                 exact inferInstanceAs _
                                ·rw [if_neg c109] at H
                                 exact absurd H (by simp)⟩
                                exact inferInstanceAs _
                               ·rw [if_neg c108] at H
                                have c108b0 : decide (x274_9 < (l4.length : Int)) = false := decide_eq_false c108
                                clear c108
                                obtain rfl := Option.some.inj H
                                go_wp2
                                go_ret
                                exact ⟨xer, xW HB⟩⟩
                           exact inferInstanceAs _⟩
                          exact inferInstanceAs _
                         ·rw [if_neg c103] at H
                          have c103b0 : ((l4.length : Int) == (wrap64 (a0 * a1))) = false := beq_eq_false_iff_ne.mpr c103
                          have c103b1 : ((l4.length : Int) != (wrap64 (a0 * a1))) = true := bne_iff_ne.mpr c103; clear c103
                          by_cases c117 : t153 = 3
                          ·rw [if_pos c117] at H
                           have c117b0 : (t153 == 3) = true := beq_iff_eq.mpr c117
                           have c117b1 : (t153 != 3) = false := bne_eq_false_iff_eq.mpr c117
                           clear c117
                           obtain rfl := Option.some.inj H
                           obtain ⟨Ao118, co118, eo118⟩ := Kd.R_slice HO_19.out
                           subst eo118
                           go_wp2
                           go_ret
                           exact ⟨xer, xW HB⟩
                          ·rw [if_neg c117] at H
                           have c117b0 : (t153 == 3) = false := beq_eq_false_iff_ne.mpr c117
                           have c117b1 : (t153 != 3) = true := bne_iff_ne.mpr c117; clear c117
                           obtain rfl := Option.some.inj H
                           go_wp2
                           go_ret
                           exact ⟨xer, xW HB⟩⟩
                       exact inferInstanceAs _
                     ·replace c94 := Bool.eq_false_iff.mpr c94
                      subst c94
                      rw [if_neg (show ¬ (false = true) by decide)] at H
                      by_cases c119 : t151 = 8
                      ·refine box_ ?g28;letI i:type_of% ?g28:=⟨by
                       rw [if_pos c119] at H
                       have c119b0 : (t151 == 8) = true := beq_iff_eq.mpr c119
                       have c119b1 : (t151 != 8) = false := bne_eq_false_iff_eq.mpr c119
                       clear c119
                       by_cases c120 : t153 = 8
                       ·rw [if_pos c120] at H
                        have c120b0 : (t153 == 8) = true := beq_iff_eq.mpr c120
                        have c120b1 : (t153 != 8) = false := bne_eq_false_iff_eq.mpr c120
                        clear c120
                        by_cases c121 : t150 = 0
                        ·rw [if_pos c121] at H
                         have c121b0 : (t150 == 0) = true := beq_iff_eq.mpr c121
                         have c121b1 : (t150 != 0) = false := bne_eq_false_iff_eq.mpr c121
                         clear c121
                         obtain rfl := Option.some.inj H
                         obtain ⟨Ao122, co122, eo122⟩ := Kd.R_slice HO_21.out
                         subst eo122
                         go_wp2_with (first | ((with_reducible refine gate_callee (f := 21) rfl ?_); refine goesL_ (some 207) rfl rfl Try.func21 kr_ rfl #[.int .i64 a2, .int .i64 0, .int .i64 (wrap64 (t164 - 1))] rfl (by (try simp only [List.map_toArray, List.map_cons, List.map_nil]); first | done | rfl | (simp only [List.length_drop, List.length_take]; rfl)) ?_; (with_reducible refine (gamehallref1_In.calls a2 0 (wrap64 (t164 - 1)) false _ A93.out).mono ?_); rintro e w' ⟨rfl, ⟨nd, rfl⟩⟩; refine ⟨_, rfl, ?_⟩; obtain ⟨Ao123, co123, eo123⟩ := Kd.R_slice HO_19.out; subst eo123))
                         go_ret
                         exact ⟨xer, xW HB⟩
                        ·rw [if_neg c121] at H
                         have c121b0 : (t150 == 0) = false := beq_eq_false_iff_ne.mpr c121
                         have c121b1 : (t150 != 0) = true := bne_iff_ne.mpr c121; clear c121
                         obtain rfl := Option.some.inj H
                         obtain ⟨Ao124, co124, eo124⟩ := Kd.R_slice HO_21.out
                         subst eo124
                         go_wp2_with (first | ((with_reducible refine gate_callee (f := 21) rfl ?_); refine goesL_ (some 207) rfl rfl Try.func21 kr_ rfl #[.int .i64 a2, .int .i64 0, .int .i64 (wrap64 (t164 - 1))] rfl (by (try simp only [List.map_toArray, List.map_cons, List.map_nil]); first | done | rfl | (simp only [List.length_drop, List.length_take]; rfl)) ?_; (with_reducible refine (gamehallref1_In.calls a2 0 (wrap64 (t164 - 1)) false _ A93.out).mono ?_); rintro e w' ⟨rfl, ⟨nd, rfl⟩⟩; refine ⟨_, rfl, ?_⟩))
                         go_ret
                         exact ⟨xer, xW HB⟩
                       ·rw [if_neg c120] at H
                        have c120b0 : (t153 == 8) = false := beq_eq_false_iff_ne.mpr c120
                        have c120b1 : (t153 != 8) = true := bne_iff_ne.mpr c120; clear c120
                        obtain rfl := Option.some.inj H
                        obtain ⟨Ao125, co125, eo125⟩ := Kd.R_slice HO_21.out
                        subst eo125
                        go_wp2_with (first | ((with_reducible refine gate_callee (f := 21) rfl ?_); refine goesL_ (some 207) rfl rfl Try.func21 kr_ rfl #[.int .i64 a2, .int .i64 0, .int .i64 (wrap64 (t164 - 1))] rfl (by (try simp only [List.map_toArray, List.map_cons, List.map_nil]); first | done | rfl | (simp only [List.length_drop, List.length_take]; rfl)) ?_; (with_reducible refine (gamehallref1_In.calls a2 0 (wrap64 (t164 - 1)) false _ A93.out).mono ?_); rintro e w' ⟨rfl, ⟨nd, rfl⟩⟩; refine ⟨_, rfl, ?_⟩))
                        go_ret
                        exact ⟨xer, xW HB⟩⟩
                       exact inferInstanceAs _
                      ·rw [if_neg c119] at H
                       have c119b0 : (t151 == 8) = false := beq_eq_false_iff_ne.mpr c119
                       have c119b1 : (t151 != 8) = true := bne_iff_ne.mpr c119; clear c119
                       obtain rfl := Option.some.inj H
                       obtain ⟨Ao126, co126, eo126⟩ := Kd.R_slice HO_21.out
                       subst eo126
                       go_wp2_with (first | ((with_reducible refine gate_callee (f := 21) rfl ?_); refine goesL_ (some 207) rfl rfl Try.func21 kr_ rfl #[.int .i64 a2, .int .i64 0, .int .i64 (wrap64 (t164 - 1))] rfl (by (try simp only [List.map_toArray, List.map_cons, List.map_nil]); first | done | rfl | (simp only [List.length_drop, List.length_take]; rfl)) ?_; (with_reducible refine (gamehallref1_In.calls a2 0 (wrap64 (t164 - 1)) false _ A93.out).mono ?_); rintro e w' ⟨rfl, ⟨nd, rfl⟩⟩; refine ⟨_, rfl, ?_⟩))
                       go_ret
                       exact ⟨xer, xW HB⟩⟩
                     exact inferInstanceAs _
                    ·rw [if_neg c92] at H
                     have c92b0 : (x27_6 == (t156.length : Int)) = false := beq_eq_false_iff_ne.mpr c92
                     have c92b1 : (x27_6 != (t156.length : Int)) = true := bne_iff_ne.mpr c92; clear c92
                     obtain rfl := Option.some.inj H
                     obtain ⟨Ao127, co127, eo127⟩ := Kd.R_slice HO_21.out
                     subst eo127
                     go_wp2
                     go_ret
                     exact ⟨xer, xW HB⟩⟩
                    exact inferInstanceAs _⟩
               exact inferInstanceAs _⟩
            exact inferInstanceAs _⟩
           exact inferInstanceAs _⟩
        exact inferInstanceAs _⟩
     exact inferInstanceAs _⟩
  exact inferInstanceAs _

/-- THE ONE PURE STATEMENT of gamehalllaw1_SymmMaps: yours. -/
def gamehalllaw1_SymmMaps.Pure : Prop := ∀ (a0 : Int) (a1 : Int) (a2 : Int) (a3 : Int) (l4 : List Int), ((Lit.int .i64 a0).wf = true) → ((Lit.int .i64 a1).wf = true) → ((Lit.int .i64 a2).wf = true) → ((Lit.int .i64 a3).wf = true) → (l4.length * 8 ≤ 140737488351232 ∧ ∀ y_ ∈ l4, (Lit.int .i64 y_).wf = true) → ∃ k, gamehalllaw1_SymmMaps.f k a0 a1 a2 a3 l4 = some true
theorem gamehalllaw1_SymmMaps.walk (P : gamehalllaw1_SymmMaps.Pure) (a0 : Int) (a1 : Int) (a2 : Int) (a3 : Int) (l4 : List Int) (A4 : Option Addr) (c4 : Nat) (w : World) (w0 : (Lit.int .i64 a0).wf = true) (w1 : (Lit.int .i64 a1).wf = true) (w2 : (Lit.int .i64 a2).wf = true) (w3 : (Lit.int .i64 a3).wf = true) (hr4 : Kd.C (Kd.int .i64) w A4 l4.length l4) (hc4 : l4.length ≤ c4) (w4 : l4.length * 8 ≤ 140737488351232 ∧ ∀ y_ ∈ l4, (Lit.int .i64 y_).wf = true) :
  Calls Try.prog 4 #[.int .i64 a0, .int .i64 a1, .int .i64 a2, .int .i64 a3, .slice A4 l4.length c4] w fun e w' => e = .returned (.bool true) ∧ Below w.heap.size w w' := by
 obtain ⟨k, h⟩ := P a0 a1 a2 a3 l4 w0 w1 w2 w3 w4
 refine (gamehalllaw1_SymmMaps.calls k a0 a1 a2 a3 A4 c4 l4 true w hr4 hc4 h).mono ?_
 rintro e w' ⟨rfl, hd⟩
 exact ⟨rfl, hd⟩

end Go.Proofs.Ytikijopbgjncbaa.PSymmMaps
