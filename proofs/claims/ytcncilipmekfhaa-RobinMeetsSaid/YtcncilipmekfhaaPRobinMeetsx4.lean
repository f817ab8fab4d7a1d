-- Printed by a program of this claim's writer (wip/ext): an extension of the kit's print.
import Derived.Test.YtcncilipmekfhaaPRobinMeetsx0
import Derived.Test.YtcncilipmekfhaaPRobinMeetsx1
import Derived.Test.YtcncilipmekfhaaPRobinMeetsx2
import Derived.Test.YtcncilipmekfhaaPRobinMeetsx3
namespace Go.Proofs.Ytcncilipmekfhaa.PRobinMeets
open Go.RowKit Go.Proofs.YtcncilipmekfhaaW.PrintWords Go.Proofs.YtcncilipmekfhaaW.PrintLast Go.Proofs.YtcncilipmekfhaaW.PrintMore
attribute [local go_sem] max2_int min2_int max_two min_two max_three min_three max_four min_four   -- for this text's walks alone
set_option linter.unusedVariables false
set_option linter.unusedSimpArgs false

/-! ### gamehalllaw3_RobinMeets: function 8 -/
mutual
def gamehalllaw3_RobinMeets.j0 : Nat → Int → Bool → Int → Int → Int → Int → Int → List (S61) → Int → Int → Int → Int → Int → Bool → Option (Bool)
  | 0, _, _, _, _, _, _, _, _, _, _, _, _, _, _ => none
  | k + 1, x0, x1, x2, x3, x4, x11, x12, x13, x14, x15, x16, x17, x18, x64 => if x64 = true then (if x12 = 4 then (if x14 = x12 then (if x16 = x12 then (if x18 = x12 then (some ((wrap64 ((wrap64 ((wrap64 (x11 + (x13.length : Int))) + x15)) + x17)) == 0)) else (some false)) else (some false)) else (some false)) else (some false)) else (if x1 = true then (gamehalllaw3_RobinMeets.j1 k x0 x1 x2 x3 x4 x11 x12 x13 x14 x15 x16 x17 x18 (wrap64 (x0 + (Int.tmod x0 2))) (wrap64 ((wrap64 ((wrap64 (x0 + (Int.tmod x0 2))) - 1)) + (wrap64 ((wrap64 (x0 + (Int.tmod x0 2))) - 1))))) else (gamehalllaw3_RobinMeets.j1 k x0 x1 x2 x3 x4 x11 x12 x13 x14 x15 x16 x17 x18 (wrap64 (x0 + (Int.tmod x0 2))) (wrap64 ((wrap64 (x0 + (Int.tmod x0 2))) - 1))))
def gamehalllaw3_RobinMeets.j1 : Nat → Int → Bool → Int → Int → Int → Int → Int → List (S61) → Int → Int → Int → Int → Int → Int → Int → Option (Bool)
  | 0, _, _, _, _, _, _, _, _, _, _, _, _, _, _, _ => none
  | k + 1, x0, x1, x2, x3, x4, x11, x12, x13, x14, x15, x16, x17, x18, x19, x20 => if x12 = 0 then (gamehalllaw3_RobinMeets.j2 k x0 x1 x2 x3 x4 x11 x13 x14 x15 x16 x17 x18 x19 (x11 != x20)) else (gamehalllaw3_RobinMeets.j2 k x0 x1 x2 x3 x4 x11 x13 x14 x15 x16 x17 x18 x19 true)
def gamehalllaw3_RobinMeets.j2 : Nat → Int → Bool → Int → Int → Int → Int → List (S61) → Int → Int → Int → Int → Int → Int → Bool → Option (Bool)
  | 0, _, _, _, _, _, _, _, _, _, _, _, _, _, _ => none
  | k + 1, x0, x1, x2, x3, x4, x11, x13, x14, x15, x16, x17, x18, x19, x110 => if x110 = true then (some false) else (if x4 < 0 then (gamehalllaw3_RobinMeets.j3 k x0 x1 x2 x3 x4 x13 x14 x15 x16 x17 x18 x19 true) else (gamehalllaw3_RobinMeets.j3 k x0 x1 x2 x3 x4 x13 x14 x15 x16 x17 x18 x19 (decide (x4 ≥ x11))))
def gamehalllaw3_RobinMeets.j3 : Nat → Int → Bool → Int → Int → Int → List (S61) → Int → Int → Int → Int → Int → Int → Bool → Option (Bool)
  | 0, _, _, _, _, _, _, _, _, _, _, _, _, _ => none
  | k + 1, x0, x1, x2, x3, x4, x13, x14, x15, x16, x17, x18, x19, x117 => if x117 = true then (if x14 = 1 then (if x16 = 1 then (if (wrap64 ((x13.length : Int) + x15)) = 0 then (gamehalllaw3_RobinMeets.j6 k x0 x1 x2 x3 x17 x18 x19) else (some false)) else (some false)) else (some false)) else (if x14 = 0 then (if x16 = 0 then (if (x13.length : Int) = (wrap64 (Int.tdiv x0 2)) then (gamehalllaw3_RobinMeets.j4 k x0 x1 x2 x3 x4 x13 x15 x17 x18 x19 (((Int.tmod x0 2) == 0) != (x15 == (-1)))) else (gamehalllaw3_RobinMeets.j4 k x0 x1 x2 x3 x4 x13 x15 x17 x18 x19 true)) else (gamehalllaw3_RobinMeets.j4 k x0 x1 x2 x3 x4 x13 x15 x17 x18 x19 true)) else (gamehalllaw3_RobinMeets.j4 k x0 x1 x2 x3 x4 x13 x15 x17 x18 x19 true))
def gamehalllaw3_RobinMeets.j6 : Nat → Int → Bool → Int → Int → Int → Int → Int → Option (Bool)
  | 0, _, _, _, _, _, _, _ => none
  | k + 1, x0, x1, x2, x3, x17, x18, x19 => if (mn x2 x3) < 0 then (gamehalllaw3_RobinMeets.j7 k x1 x2 x3 x17 x18 x19 true) else (if (mx x2 x3) ≥ x0 then (gamehalllaw3_RobinMeets.j7 k x1 x2 x3 x17 x18 x19 true) else (gamehalllaw3_RobinMeets.j7 k x1 x2 x3 x17 x18 x19 (x2 == x3)))
def gamehalllaw3_RobinMeets.j7 : Nat → Bool → Int → Int → Int → Int → Int → Bool → Option (Bool)
  | 0, _, _, _, _, _, _, _ => none
  | k + 1, x1, x2, x3, x17, x18, x19, x214 => if x214 = true then (if x18 = 1 then (some (x17 == 0)) else (some false)) else ((gamehallref3_Round.f k x19 x2 x3).bind fun bt163 => (if x1 = true then (if bt163.2 = true then (if x18 = 0 then (some (x17 == bt163.1)) else (some false)) else (if x18 = 0 then (some (x17 == (wrap64 (bt163.1 + (wrap64 (x19 - 1)))))) else (some false))) else (if x18 = 0 then (some (x17 == bt163.1)) else (some false))))
def gamehalllaw3_RobinMeets.j4 : Nat → Int → Bool → Int → Int → Int → List (S61) → Int → Int → Int → Int → Bool → Option (Bool)
  | 0, _, _, _, _, _, _, _, _, _, _, _ => none
  | k + 1, x0, x1, x2, x3, x4, x13, x15, x17, x18, x19, x151 => if x151 = true then (some false) else (gamehalllaw3_RobinMeets.l0 k x0 x1 x2 x3 x4 x13 x15 x17 x18 x19 (x13.length : Int) 0)
def gamehalllaw3_RobinMeets.l0 : Nat → Int → Bool → Int → Int → Int → List (S61) → Int → Int → Int → Int → Int → Int → Option (Bool)
  | 0, _, _, _, _, _, _, _, _, _, _, _, _ => none
  | k + 1, x0, x1, x2, x3, x4, x13, x15, x17, x18, x19, x153, x154 => if x154 < x153 then (if 0 ≤ x154 then (if x154 < (x13.length : Int) then ((gamehallref3_Round.f k x19 ((rd_T61 x13 x154).f0) ((rd_T61 x13 x154).f1)).bind fun bt159 => (if (wrap64 (x19 - 1)) = 0 then (none) else (if bt159.1 = (Int.tmod x4 (wrap64 (x19 - 1))) then (if (bt159.2 != (decide (x4 < (wrap64 (x19 - 1))))) = true then (some false) else (gamehalllaw3_RobinMeets.l0 k x0 x1 x2 x3 x4 x13 x15 x17 x18 x19 x153 (wrap64 (x154 + 1)))) else (some false)))) else (none)) else (none)) else (if (Int.tmod x0 2) = 1 then ((gamehallref3_Round.f k x19 x15 (wrap64 (x19 - 1))).bind fun bt161 => (if (wrap64 (x19 - 1)) = 0 then (none) else (if bt161.1 = (Int.tmod x4 (wrap64 (x19 - 1))) then (gamehalllaw3_RobinMeets.j6 k x0 x1 x2 x3 x17 x18 x19) else (some false)))) else (gamehalllaw3_RobinMeets.j6 k x0 x1 x2 x3 x17 x18 x19))
end
def gamehalllaw3_RobinMeets.f (k : Nat) (a0 : Int) (a1 : Bool) (a2 : Int) (a3 : Int) (a4 : Int) : Option (Bool) := (gamehalllaw3_rounds.f k).bind fun t146 => (if t146 = true then ((robin_Rounds.f k a0 a1).bind fun bt147 => ((robin_Round.f k a0 a1 a4).bind fun bt149 => ((robin_Bye.f k a0 a1 a4).bind fun bt153 => ((robin_When.f k a0 a1 a2 a3).bind fun bt155 => (if a0 < 2 then (gamehalllaw3_RobinMeets.j0 k a0 a1 a2 a3 a4 bt147.1 bt147.2 bt149.1 bt149.2 bt153.1 bt153.2 bt155.1 bt155.2 true) else (gamehalllaw3_RobinMeets.j0 k a0 a1 a2 a3 a4 bt147.1 bt147.2 bt149.1 bt149.2 bt153.1 bt153.2 bt155.1 bt155.2 (decide (a0 > 32)))))))) else (some false))
theorem gamehalllaw3_RobinMeets.mono_l : ∀ k, (∀ y0 y1 y2 y3 y4 y5 y6 y7 y8 y9 y10 y11 y12 y13, LeO (gamehalllaw3_RobinMeets.j0 k y0 y1 y2 y3 y4 y5 y6 y7 y8 y9 y10 y11 y12 y13) (gamehalllaw3_RobinMeets.j0 (k + 1) y0 y1 y2 y3 y4 y5 y6 y7 y8 y9 y10 y11 y12 y13)) ∧ (∀ y0 y1 y2 y3 y4 y5 y6 y7 y8 y9 y10 y11 y12 y13 y14, LeO (gamehalllaw3_RobinMeets.j1 k y0 y1 y2 y3 y4 y5 y6 y7 y8 y9 y10 y11 y12 y13 y14) (gamehalllaw3_RobinMeets.j1 (k + 1) y0 y1 y2 y3 y4 y5 y6 y7 y8 y9 y10 y11 y12 y13 y14)) ∧ (∀ y0 y1 y2 y3 y4 y5 y6 y7 y8 y9 y10 y11 y12 y13, LeO (gamehalllaw3_RobinMeets.j2 k y0 y1 y2 y3 y4 y5 y6 y7 y8 y9 y10 y11 y12 y13) (gamehalllaw3_RobinMeets.j2 (k + 1) y0 y1 y2 y3 y4 y5 y6 y7 y8 y9 y10 y11 y12 y13)) ∧ (∀ y0 y1 y2 y3 y4 y5 y6 y7 y8 y9 y10 y11 y12, LeO (gamehalllaw3_RobinMeets.j3 k y0 y1 y2 y3 y4 y5 y6 y7 y8 y9 y10 y11 y12) (gamehalllaw3_RobinMeets.j3 (k + 1) y0 y1 y2 y3 y4 y5 y6 y7 y8 y9 y10 y11 y12)) ∧ (∀ y0 y1 y2 y3 y4 y5 y6, LeO (gamehalllaw3_RobinMeets.j6 k y0 y1 y2 y3 y4 y5 y6) (gamehalllaw3_RobinMeets.j6 (k + 1) y0 y1 y2 y3 y4 y5 y6)) ∧ (∀ y0 y1 y2 y3 y4 y5 y6, LeO (gamehalllaw3_RobinMeets.j7 k y0 y1 y2 y3 y4 y5 y6) (gamehalllaw3_RobinMeets.j7 (k + 1) y0 y1 y2 y3 y4 y5 y6)) ∧ (∀ y0 y1 y2 y3 y4 y5 y6 y7 y8 y9 y10, LeO (gamehalllaw3_RobinMeets.j4 k y0 y1 y2 y3 y4 y5 y6 y7 y8 y9 y10) (gamehalllaw3_RobinMeets.j4 (k + 1) y0 y1 y2 y3 y4 y5 y6 y7 y8 y9 y10)) ∧ (∀ y0 y1 y2 y3 y4 y5 y6 y7 y8 y9 y10 y11, LeO (gamehalllaw3_RobinMeets.l0 k y0 y1 y2 y3 y4 y5 y6 y7 y8 y9 y10 y11) (gamehalllaw3_RobinMeets.l0 (k + 1) y0 y1 y2 y3 y4 y5 y6 y7 y8 y9 y10 y11))
  | 0 => ⟨fun _ _ _ _ _ _ _ _ _ _ _ _ _ _ r h => by simp [gamehalllaw3_RobinMeets.j0] at h, fun _ _ _ _ _ _ _ _ _ _ _ _ _ _ _ r h => by simp [gamehalllaw3_RobinMeets.j1] at h, fun _ _ _ _ _ _ _ _ _ _ _ _ _ _ r h => by simp [gamehalllaw3_RobinMeets.j2] at h, fun _ _ _ _ _ _ _ _ _ _ _ _ _ r h => by simp [gamehalllaw3_RobinMeets.j3] at h, fun _ _ _ _ _ _ _ r h => by simp [gamehalllaw3_RobinMeets.j6] at h, fun _ _ _ _ _ _ _ r h => by simp [gamehalllaw3_RobinMeets.j7] at h, fun _ _ _ _ _ _ _ _ _ _ _ r h => by simp [gamehalllaw3_RobinMeets.j4] at h, fun _ _ _ _ _ _ _ _ _ _ _ _ r h => by simp [gamehalllaw3_RobinMeets.l0] at h⟩
  | k + 1 => by
    obtain ⟨ih0, ih1, ih2, ih3, ih4, ih5, ih6, ih7⟩ := gamehalllaw3_RobinMeets.mono_l k
    refine ⟨?_, ?_, ?_, ?_, ?_, ?_, ?_, ?_⟩
    · intro y0 y1 y2 y3 y4 y5 y6 y7 y8 y9 y10 y11 y12 y13
      unfold gamehalllaw3_RobinMeets.j0
      repeat' first
      | (with_reducible exact ih0 _ _ _ _ _ _ _ _ _ _ _ _ _ _)
      | (with_reducible exact ih1 _ _ _ _ _ _ _ _ _ _ _ _ _ _ _)
      | (with_reducible exact ih2 _ _ _ _ _ _ _ _ _ _ _ _ _ _)
      | (with_reducible exact ih3 _ _ _ _ _ _ _ _ _ _ _ _ _)
      | (with_reducible exact ih4 _ _ _ _ _ _ _)
      | (with_reducible exact ih5 _ _ _ _ _ _ _)
      | (with_reducible exact ih6 _ _ _ _ _ _ _ _ _ _ _)
      | (with_reducible exact ih7 _ _ _ _ _ _ _ _ _ _ _ _)
      | (with_reducible exact gamehalllaw3_rounds.mono _)
      | (with_reducible exact gamehallref3_Round.mono _ _ _ _)
      | (with_reducible exact robin_Bye.mono _ _ _ _)
      | (with_reducible exact robin_Round.mono _ _ _ _)
      | (with_reducible exact robin_Rounds.mono _ _ _)
      | (with_reducible exact robin_When.mono _ _ _ _ _)
      | (with_reducible exact LeO.refl _)
      | (with_reducible exact LeO.none _)
      | (with_reducible refine LeO.ite ?_ ?_)
      | (with_reducible refine LeO.bind ?_ (fun _ => ?_))
      | exact ih0 _ _ _ _ _ _ _ _ _ _ _ _ _ _
      | exact ih1 _ _ _ _ _ _ _ _ _ _ _ _ _ _ _
      | exact ih2 _ _ _ _ _ _ _ _ _ _ _ _ _ _
      | exact ih3 _ _ _ _ _ _ _ _ _ _ _ _ _
      | exact ih4 _ _ _ _ _ _ _
      | exact ih5 _ _ _ _ _ _ _
      | exact ih6 _ _ _ _ _ _ _ _ _ _ _
      | exact ih7 _ _ _ _ _ _ _ _ _ _ _ _
      | exact gamehalllaw3_rounds.mono _
      | exact gamehallref3_Round.mono _ _ _ _
      | exact robin_Bye.mono _ _ _ _
      | exact robin_Round.mono _ _ _ _
      | exact robin_Rounds.mono _ _ _
      | exact robin_When.mono _ _ _ _ _
      | exact LeO.none _
      | refine LeO.ite ?_ ?_
      | refine LeO.bind ?_ (fun _ => ?_)
    · intro y0 y1 y2 y3 y4 y5 y6 y7 y8 y9 y10 y11 y12 y13 y14
      unfold gamehalllaw3_RobinMeets.j1
      repeat' first
      | (with_reducible exact ih0 _ _ _ _ _ _ _ _ _ _ _ _ _ _)
      | (with_reducible exact ih1 _ _ _ _ _ _ _ _ _ _ _ _ _ _ _)
      | (with_reducible exact ih2 _ _ _ _ _ _ _ _ _ _ _ _ _ _)
      | (with_reducible exact ih3 _ _ _ _ _ _ _ _ _ _ _ _ _)
      | (with_reducible exact ih4 _ _ _ _ _ _ _)
      | (with_reducible exact ih5 _ _ _ _ _ _ _)
      | (with_reducible exact ih6 _ _ _ _ _ _ _ _ _ _ _)
      | (with_reducible exact ih7 _ _ _ _ _ _ _ _ _ _ _ _)
      | (with_reducible exact gamehalllaw3_rounds.mono _)
      | (with_reducible exact gamehallref3_Round.mono _ _ _ _)
      | (with_reducible exact robin_Bye.mono _ _ _ _)
      | (with_reducible exact robin_Round.mono _ _ _ _)
      | (with_reducible exact robin_Rounds.mono _ _ _)
      | (with_reducible exact robin_When.mono _ _ _ _ _)
      | (with_reducible exact LeO.refl _)
      | (with_reducible exact LeO.none _)
      | (with_reducible refine LeO.ite ?_ ?_)
      | (with_reducible refine LeO.bind ?_ (fun _ => ?_))
      | exact ih0 _ _ _ _ _ _ _ _ _ _ _ _ _ _
      | exact ih1 _ _ _ _ _ _ _ _ _ _ _ _ _ _ _
      | exact ih2 _ _ _ _ _ _ _ _ _ _ _ _ _ _
      | exact ih3 _ _ _ _ _ _ _ _ _ _ _ _ _
      | exact ih4 _ _ _ _ _ _ _
      | exact ih5 _ _ _ _ _ _ _
      | exact ih6 _ _ _ _ _ _ _ _ _ _ _
      | exact ih7 _ _ _ _ _ _ _ _ _ _ _ _
      | exact gamehalllaw3_rounds.mono _
      | exact gamehallref3_Round.mono _ _ _ _
      | exact robin_Bye.mono _ _ _ _
      | exact robin_Round.mono _ _ _ _
      | exact robin_Rounds.mono _ _ _
      | exact robin_When.mono _ _ _ _ _
      | exact LeO.none _
      | refine LeO.ite ?_ ?_
      | refine LeO.bind ?_ (fun _ => ?_)
    · intro y0 y1 y2 y3 y4 y5 y6 y7 y8 y9 y10 y11 y12 y13
      unfold gamehalllaw3_RobinMeets.j2
      repeat' first
      | (with_reducible exact ih0 _ _ _ _ _ _ _ _ _ _ _ _ _ _)
      | (with_reducible exact ih1 _ _ _ _ _ _ _ _ _ _ _ _ _ _ _)
      | (with_reducible exact ih2 _ _ _ _ _ _ _ _ _ _ _ _ _ _)
      | (with_reducible exact ih3 _ _ _ _ _ _ _ _ _ _ _ _ _)
      | (with_reducible exact ih4 _ _ _ _ _ _ _)
      | (with_reducible exact ih5 _ _ _ _ _ _ _)
      | (with_reducible exact ih6 _ _ _ _ _ _ _ _ _ _ _)
      | (with_reducible exact ih7 _ _ _ _ _ _ _ _ _ _ _ _)
      | (with_reducible exact gamehalllaw3_rounds.mono _)
      | (with_reducible exact gamehallref3_Round.mono _ _ _ _)
      | (with_reducible exact robin_Bye.mono _ _ _ _)
      | (with_reducible exact robin_Round.mono _ _ _ _)
      | (with_reducible exact robin_Rounds.mono _ _ _)
      | (with_reducible exact robin_When.mono _ _ _ _ _)
      | (with_reducible exact LeO.refl _)
      | (with_reducible exact LeO.none _)
      | (with_reducible refine LeO.ite ?_ ?_)
      | (with_reducible refine LeO.bind ?_ (fun _ => ?_))
      | exact ih0 _ _ _ _ _ _ _ _ _ _ _ _ _ _
      | exact ih1 _ _ _ _ _ _ _ _ _ _ _ _ _ _ _
      | exact ih2 _ _ _ _ _ _ _ _ _ _ _ _ _ _
      | exact ih3 _ _ _ _ _ _ _ _ _ _ _ _ _
      | exact ih4 _ _ _ _ _ _ _
      | exact ih5 _ _ _ _ _ _ _
      | exact ih6 _ _ _ _ _ _ _ _ _ _ _
      | exact ih7 _ _ _ _ _ _ _ _ _ _ _ _
      | exact gamehalllaw3_rounds.mono _
      | exact gamehallref3_Round.mono _ _ _ _
      | exact robin_Bye.mono _ _ _ _
      | exact robin_Round.mono _ _ _ _
      | exact robin_Rounds.mono _ _ _
      | exact robin_When.mono _ _ _ _ _
      | exact LeO.none _
      | refine LeO.ite ?_ ?_
      | refine LeO.bind ?_ (fun _ => ?_)
    · intro y0 y1 y2 y3 y4 y5 y6 y7 y8 y9 y10 y11 y12
      unfold gamehalllaw3_RobinMeets.j3
      repeat' first
      | (with_reducible exact ih0 _ _ _ _ _ _ _ _ _ _ _ _ _ _)
      | (with_reducible exact ih1 _ _ _ _ _ _ _ _ _ _ _ _ _ _ _)
      | (with_reducible exact ih2 _ _ _ _ _ _ _ _ _ _ _ _ _ _)
      | (with_reducible exact ih3 _ _ _ _ _ _ _ _ _ _ _ _ _)
      | (with_reducible exact ih4 _ _ _ _ _ _ _)
      | (with_reducible exact ih5 _ _ _ _ _ _ _)
      | (with_reducible exact ih6 _ _ _ _ _ _ _ _ _ _ _)
      | (with_reducible exact ih7 _ _ _ _ _ _ _ _ _ _ _ _)
      | (with_reducible exact gamehalllaw3_rounds.mono _)
      | (with_reducible exact gamehallref3_Round.mono _ _ _ _)
      | (with_reducible exact robin_Bye.mono _ _ _ _)
      | (with_reducible exact robin_Round.mono _ _ _ _)
      | (with_reducible exact robin_Rounds.mono _ _ _)
      | (with_reducible exact robin_When.mono _ _ _ _ _)
      | (with_reducible exact LeO.refl _)
      | (with_reducible exact LeO.none _)
      | (with_reducible refine LeO.ite ?_ ?_)
      | (with_reducible refine LeO.bind ?_ (fun _ => ?_))
      | exact ih0 _ _ _ _ _ _ _ _ _ _ _ _ _ _
      | exact ih1 _ _ _ _ _ _ _ _ _ _ _ _ _ _ _
      | exact ih2 _ _ _ _ _ _ _ _ _ _ _ _ _ _
      | exact ih3 _ _ _ _ _ _ _ _ _ _ _ _ _
      | exact ih4 _ _ _ _ _ _ _
      | exact ih5 _ _ _ _ _ _ _
      | exact ih6 _ _ _ _ _ _ _ _ _ _ _
      | exact ih7 _ _ _ _ _ _ _ _ _ _ _ _
      | exact gamehalllaw3_rounds.mono _
      | exact gamehallref3_Round.mono _ _ _ _
      | exact robin_Bye.mono _ _ _ _
      | exact robin_Round.mono _ _ _ _
      | exact robin_Rounds.mono _ _ _
      | exact robin_When.mono _ _ _ _ _
      | exact LeO.none _
      | refine LeO.ite ?_ ?_
      | refine LeO.bind ?_ (fun _ => ?_)
    · intro y0 y1 y2 y3 y4 y5 y6
      unfold gamehalllaw3_RobinMeets.j6
      repeat' first
      | (with_reducible exact ih0 _ _ _ _ _ _ _ _ _ _ _ _ _ _)
      | (with_reducible exact ih1 _ _ _ _ _ _ _ _ _ _ _ _ _ _ _)
      | (with_reducible exact ih2 _ _ _ _ _ _ _ _ _ _ _ _ _ _)
      | (with_reducible exact ih3 _ _ _ _ _ _ _ _ _ _ _ _ _)
      | (with_reducible exact ih4 _ _ _ _ _ _ _)
      | (with_reducible exact ih5 _ _ _ _ _ _ _)
      | (with_reducible exact ih6 _ _ _ _ _ _ _ _ _ _ _)
      | (with_reducible exact ih7 _ _ _ _ _ _ _ _ _ _ _ _)
      | (with_reducible exact gamehalllaw3_rounds.mono _)
      | (with_reducible exact gamehallref3_Round.mono _ _ _ _)
      | (with_reducible exact robin_Bye.mono _ _ _ _)
      | (with_reducible exact robin_Round.mono _ _ _ _)
      | (with_reducible exact robin_Rounds.mono _ _ _)
      | (with_reducible exact robin_When.mono _ _ _ _ _)
      | (with_reducible exact LeO.refl _)
      | (with_reducible exact LeO.none _)
      | (with_reducible refine LeO.ite ?_ ?_)
      | (with_reducible refine LeO.bind ?_ (fun _ => ?_))
      | exact ih0 _ _ _ _ _ _ _ _ _ _ _ _ _ _
      | exact ih1 _ _ _ _ _ _ _ _ _ _ _ _ _ _ _
      | exact ih2 _ _ _ _ _ _ _ _ _ _ _ _ _ _
      | exact ih3 _ _ _ _ _ _ _ _ _ _ _ _ _
      | exact ih4 _ _ _ _ _ _ _
      | exact ih5 _ _ _ _ _ _ _
      | exact ih6 _ _ _ _ _ _ _ _ _ _ _
      | exact ih7 _ _ _ _ _ _ _ _ _ _ _ _
      | exact gamehalllaw3_rounds.mono _
      | exact gamehallref3_Round.mono _ _ _ _
      | exact robin_Bye.mono _ _ _ _
      | exact robin_Round.mono _ _ _ _
      | exact robin_Rounds.mono _ _ _
      | exact robin_When.mono _ _ _ _ _
      | exact LeO.none _
      | refine LeO.ite ?_ ?_
      | refine LeO.bind ?_ (fun _ => ?_)
    · intro y0 y1 y2 y3 y4 y5 y6
      unfold gamehalllaw3_RobinMeets.j7
      repeat' first
      | (with_reducible exact ih0 _ _ _ _ _ _ _ _ _ _ _ _ _ _)
      | (with_reducible exact ih1 _ _ _ _ _ _ _ _ _ _ _ _ _ _ _)
      | (with_reducible exact ih2 _ _ _ _ _ _ _ _ _ _ _ _ _ _)
      | (with_reducible exact ih3 _ _ _ _ _ _ _ _ _ _ _ _ _)
      | (with_reducible exact ih4 _ _ _ _ _ _ _)
      | (with_reducible exact ih5 _ _ _ _ _ _ _)
      | (with_reducible exact ih6 _ _ _ _ _ _ _ _ _ _ _)
      | (with_reducible exact ih7 _ _ _ _ _ _ _ _ _ _ _ _)
      | (with_reducible exact gamehalllaw3_rounds.mono _)
      | (with_reducible exact gamehallref3_Round.mono _ _ _ _)
      | (with_reducible exact robin_Bye.mono _ _ _ _)
      | (with_reducible exact robin_Round.mono _ _ _ _)
      | (with_reducible exact robin_Rounds.mono _ _ _)
      | (with_reducible exact robin_When.mono _ _ _ _ _)
      | (with_reducible exact LeO.refl _)
      | (with_reducible exact LeO.none _)
      | (with_reducible refine LeO.ite ?_ ?_)
      | (with_reducible refine LeO.bind ?_ (fun _ => ?_))
      | exact ih0 _ _ _ _ _ _ _ _ _ _ _ _ _ _
      | exact ih1 _ _ _ _ _ _ _ _ _ _ _ _ _ _ _
      | exact ih2 _ _ _ _ _ _ _ _ _ _ _ _ _ _
      | exact ih3 _ _ _ _ _ _ _ _ _ _ _ _ _
      | exact ih4 _ _ _ _ _ _ _
      | exact ih5 _ _ _ _ _ _ _
      | exact ih6 _ _ _ _ _ _ _ _ _ _ _
      | exact ih7 _ _ _ _ _ _ _ _ _ _ _ _
      | exact gamehalllaw3_rounds.mono _
      | exact gamehallref3_Round.mono _ _ _ _
      | exact robin_Bye.mono _ _ _ _
      | exact robin_Round.mono _ _ _ _
      | exact robin_Rounds.mono _ _ _
      | exact robin_When.mono _ _ _ _ _
      | exact LeO.none _
      | refine LeO.ite ?_ ?_
      | refine LeO.bind ?_ (fun _ => ?_)
    · intro y0 y1 y2 y3 y4 y5 y6 y7 y8 y9 y10
      unfold gamehalllaw3_RobinMeets.j4
      repeat' first
      | (with_reducible exact ih0 _ _ _ _ _ _ _ _ _ _ _ _ _ _)
      | (with_reducible exact ih1 _ _ _ _ _ _ _ _ _ _ _ _ _ _ _)
      | (with_reducible exact ih2 _ _ _ _ _ _ _ _ _ _ _ _ _ _)
      | (with_reducible exact ih3 _ _ _ _ _ _ _ _ _ _ _ _ _)
      | (with_reducible exact ih4 _ _ _ _ _ _ _)
      | (with_reducible exact ih5 _ _ _ _ _ _ _)
      | (with_reducible exact ih6 _ _ _ _ _ _ _ _ _ _ _)
      | (with_reducible exact ih7 _ _ _ _ _ _ _ _ _ _ _ _)
      | (with_reducible exact gamehalllaw3_rounds.mono _)
      | (with_reducible exact gamehallref3_Round.mono _ _ _ _)
      | (with_reducible exact robin_Bye.mono _ _ _ _)
      | (with_reducible exact robin_Round.mono _ _ _ _)
      | (with_reducible exact robin_Rounds.mono _ _ _)
      | (with_reducible exact robin_When.mono _ _ _ _ _)
      | (with_reducible exact LeO.refl _)
      | (with_reducible exact LeO.none _)
      | (with_reducible refine LeO.ite ?_ ?_)
      | (with_reducible refine LeO.bind ?_ (fun _ => ?_))
      | exact ih0 _ _ _ _ _ _ _ _ _ _ _ _ _ _
      | exact ih1 _ _ _ _ _ _ _ _ _ _ _ _ _ _ _
      | exact ih2 _ _ _ _ _ _ _ _ _ _ _ _ _ _
      | exact ih3 _ _ _ _ _ _ _ _ _ _ _ _ _
      | exact ih4 _ _ _ _ _ _ _
      | exact ih5 _ _ _ _ _ _ _
      | exact ih6 _ _ _ _ _ _ _ _ _ _ _
      | exact ih7 _ _ _ _ _ _ _ _ _ _ _ _
      | exact gamehalllaw3_rounds.mono _
      | exact gamehallref3_Round.mono _ _ _ _
      | exact robin_Bye.mono _ _ _ _
      | exact robin_Round.mono _ _ _ _
      | exact robin_Rounds.mono _ _ _
      | exact robin_When.mono _ _ _ _ _
      | exact LeO.none _
      | refine LeO.ite ?_ ?_
      | refine LeO.bind ?_ (fun _ => ?_)
    · intro y0 y1 y2 y3 y4 y5 y6 y7 y8 y9 y10 y11
      unfold gamehalllaw3_RobinMeets.l0
      repeat' first
      | (with_reducible exact ih0 _ _ _ _ _ _ _ _ _ _ _ _ _ _)
      | (with_reducible exact ih1 _ _ _ _ _ _ _ _ _ _ _ _ _ _ _)
      | (with_reducible exact ih2 _ _ _ _ _ _ _ _ _ _ _ _ _ _)
      | (with_reducible exact ih3 _ _ _ _ _ _ _ _ _ _ _ _ _)
      | (with_reducible exact ih4 _ _ _ _ _ _ _)
      | (with_reducible exact ih5 _ _ _ _ _ _ _)
      | (with_reducible exact ih6 _ _ _ _ _ _ _ _ _ _ _)
      | (with_reducible exact ih7 _ _ _ _ _ _ _ _ _ _ _ _)
      | (with_reducible exact gamehalllaw3_rounds.mono _)
      | (with_reducible exact gamehallref3_Round.mono _ _ _ _)
      | (with_reducible exact robin_Bye.mono _ _ _ _)
      | (with_reducible exact robin_Round.mono _ _ _ _)
      | (with_reducible exact robin_Rounds.mono _ _ _)
      | (with_reducible exact robin_When.mono _ _ _ _ _)
      | (with_reducible exact LeO.refl _)
      | (with_reducible exact LeO.none _)
      | (with_reducible refine LeO.ite ?_ ?_)
      | (with_reducible refine LeO.bind ?_ (fun _ => ?_))
      | exact ih0 _ _ _ _ _ _ _ _ _ _ _ _ _ _
      | exact ih1 _ _ _ _ _ _ _ _ _ _ _ _ _ _ _
      | exact ih2 _ _ _ _ _ _ _ _ _ _ _ _ _ _
      | exact ih3 _ _ _ _ _ _ _ _ _ _ _ _ _
      | exact ih4 _ _ _ _ _ _ _
      | exact ih5 _ _ _ _ _ _ _
      | exact ih6 _ _ _ _ _ _ _ _ _ _ _
      | exact ih7 _ _ _ _ _ _ _ _ _ _ _ _
      | exact gamehalllaw3_rounds.mono _
      | exact gamehallref3_Round.mono _ _ _ _
      | exact robin_Bye.mono _ _ _ _
      | exact robin_Round.mono _ _ _ _
      | exact robin_Rounds.mono _ _ _
      | exact robin_When.mono _ _ _ _ _
      | exact LeO.none _
      | refine LeO.ite ?_ ?_
      | refine LeO.bind ?_ (fun _ => ?_)
theorem gamehalllaw3_RobinMeets.mono : ∀ a0 a1 a2 a3 a4 k, LeO (gamehalllaw3_RobinMeets.f k a0 a1 a2 a3 a4) (gamehalllaw3_RobinMeets.f (k + 1) a0 a1 a2 a3 a4) := by
  intro a0 a1 a2 a3 a4 k
  obtain ⟨ih0, ih1, ih2, ih3, ih4, ih5, ih6, ih7⟩ := gamehalllaw3_RobinMeets.mono_l k
  unfold gamehalllaw3_RobinMeets.f
  repeat' first
      | (with_reducible exact ih0 _ _ _ _ _ _ _ _ _ _ _ _ _ _)
      | (with_reducible exact ih1 _ _ _ _ _ _ _ _ _ _ _ _ _ _ _)
      | (with_reducible exact ih2 _ _ _ _ _ _ _ _ _ _ _ _ _ _)
      | (with_reducible exact ih3 _ _ _ _ _ _ _ _ _ _ _ _ _)
      | (with_reducible exact ih4 _ _ _ _ _ _ _)
      | (with_reducible exact ih5 _ _ _ _ _ _ _)
      | (with_reducible exact ih6 _ _ _ _ _ _ _ _ _ _ _)
      | (with_reducible exact ih7 _ _ _ _ _ _ _ _ _ _ _ _)
      | (with_reducible exact gamehalllaw3_rounds.mono _)
      | (with_reducible exact gamehallref3_Round.mono _ _ _ _)
      | (with_reducible exact robin_Bye.mono _ _ _ _)
      | (with_reducible exact robin_Round.mono _ _ _ _)
      | (with_reducible exact robin_Rounds.mono _ _ _)
      | (with_reducible exact robin_When.mono _ _ _ _ _)
      | (with_reducible exact LeO.refl _)
      | (with_reducible exact LeO.none _)
      | (with_reducible refine LeO.ite ?_ ?_)
      | (with_reducible refine LeO.bind ?_ (fun _ => ?_))
      | exact ih0 _ _ _ _ _ _ _ _ _ _ _ _ _ _
      | exact ih1 _ _ _ _ _ _ _ _ _ _ _ _ _ _ _
      | exact ih2 _ _ _ _ _ _ _ _ _ _ _ _ _ _
      | exact ih3 _ _ _ _ _ _ _ _ _ _ _ _ _
      | exact ih4 _ _ _ _ _ _ _
      | exact ih5 _ _ _ _ _ _ _
      | exact ih6 _ _ _ _ _ _ _ _ _ _ _
      | exact ih7 _ _ _ _ _ _ _ _ _ _ _ _
      | exact gamehalllaw3_rounds.mono _
      | exact gamehallref3_Round.mono _ _ _ _
      | exact robin_Bye.mono _ _ _ _
      | exact robin_Round.mono _ _ _ _
      | exact robin_Rounds.mono _ _ _
      | exact robin_When.mono _ _ _ _ _
      | exact LeO.none _
      | refine LeO.ite ?_ ?_
      | refine LeO.bind ?_ (fun _ => ?_)
set_option maxHeartbeats 8000000 in
set_option maxRecDepth 100000 in
theorem gamehalllaw3_RobinMeets.calls (k : Nat) (a0 : Int) (a1 : Bool) (a2 : Int) (a3 : Int) (a4 : Int) (r : Bool) (w : World) (h : gamehalllaw3_RobinMeets.f k a0 a1 a2 a3 a4 = some r) :
    Calls Try.prog 8 #[.int .i64 a0, .bool a1, .int .i64 a2, .int .i64 a3, .int .i64 a4] w fun e w' => e = .returned (.bool r) ∧ Below w.heap.size w w' := by
 have hu61 := Try.underlying61
 have HB := Aside0.mk (Below.refl w.heap.size w)
 have hss_ := @isSome_setCell
 have H : ((gamehalllaw3_rounds.f k).bind fun t146 => (if t146 = true then ((robin_Rounds.f k a0 a1).bind fun bt147 => ((robin_Round.f k a0 a1 a4).bind fun bt149 => ((robin_Bye.f k a0 a1 a4).bind fun bt153 => ((robin_When.f k a0 a1 a2 a3).bind fun bt155 => (if a0 < 2 then (gamehalllaw3_RobinMeets.j0 k a0 a1 a2 a3 a4 bt147.1 bt147.2 bt149.1 bt149.2 bt153.1 bt153.2 bt155.1 bt155.2 true) else (gamehalllaw3_RobinMeets.j0 k a0 a1 a2 a3 a4 bt147.1 bt147.2 bt149.1 bt149.2 bt153.1 bt153.2 bt155.1 bt155.2 (decide (a0 > 32)))))))) else (some false))) = some r := h
 clear h
 replace H := Option.bind_eq_some_iff.mp H
 obtain ⟨t146, A60, H⟩ := H
 replace H : (if t146 = true then ((robin_Rounds.f k a0 a1).bind fun bt147 => ((robin_Round.f k a0 a1 a4).bind fun bt149 => ((robin_Bye.f k a0 a1 a4).bind fun bt153 => ((robin_When.f k a0 a1 a2 a3).bind fun bt155 => (if a0 < 2 then (gamehalllaw3_RobinMeets.j0 k a0 a1 a2 a3 a4 bt147.1 bt147.2 bt149.1 bt149.2 bt153.1 bt153.2 bt155.1 bt155.2 true) else (gamehalllaw3_RobinMeets.j0 k a0 a1 a2 a3 a4 bt147.1 bt147.2 bt149.1 bt149.2 bt153.1 bt153.2 bt155.1 bt155.2 (decide (a0 > 32)))))))) else (some false)) = some r := H
 have A6 := Aside0.mk A60
 clear A60
 by_cases c7 : t146 = true
 ·subst c7
  have H1 : ((robin_Rounds.f k a0 a1).bind fun bt147 => ((robin_Round.f k a0 a1 a4).bind fun bt149 => ((robin_Bye.f k a0 a1 a4).bind fun bt153 => ((robin_When.f k a0 a1 a2 a3).bind fun bt155 => (if a0 < 2 then (gamehalllaw3_RobinMeets.j0 k a0 a1 a2 a3 a4 bt147.1 bt147.2 bt149.1 bt149.2 bt153.1 bt153.2 bt155.1 bt155.2 true) else (gamehalllaw3_RobinMeets.j0 k a0 a1 a2 a3 a4 bt147.1 bt147.2 bt149.1 bt149.2 bt153.1 bt153.2 bt155.1 bt155.2 (decide (a0 > 32)))))))) = some r := by rw [if_pos rfl] at H; exact H
  clear H
  have H := H1
  clear H1
  replace H := Option.bind_eq_some_iff.mp H
  obtain ⟨⟨t147, t148⟩, A80, H⟩ := H
  replace H : ((robin_Round.f k a0 a1 a4).bind fun bt149 => ((robin_Bye.f k a0 a1 a4).bind fun bt153 => ((robin_When.f k a0 a1 a2 a3).bind fun bt155 => (if a0 < 2 then (gamehalllaw3_RobinMeets.j0 k a0 a1 a2 a3 a4 t147 t148 bt149.1 bt149.2 bt153.1 bt153.2 bt155.1 bt155.2 true) else (gamehalllaw3_RobinMeets.j0 k a0 a1 a2 a3 a4 t147 t148 bt149.1 bt149.2 bt153.1 bt153.2 bt155.1 bt155.2 (decide (a0 > 32))))))) = some r := H
  have A8 := Aside0.mk A80
  clear A80
  replace H := Option.bind_eq_some_iff.mp H
  obtain ⟨⟨t149, t150⟩, A90, H⟩ := H
  replace H : ((robin_Bye.f k a0 a1 a4).bind fun bt153 => ((robin_When.f k a0 a1 a2 a3).bind fun bt155 => (if a0 < 2 then (gamehalllaw3_RobinMeets.j0 k a0 a1 a2 a3 a4 t147 t148 t149 t150 bt153.1 bt153.2 bt155.1 bt155.2 true) else (gamehalllaw3_RobinMeets.j0 k a0 a1 a2 a3 a4 t147 t148 t149 t150 bt153.1 bt153.2 bt155.1 bt155.2 (decide (a0 > 32)))))) = some r := H
  have A9 := Aside0.mk A90
  clear A90
  replace H := Option.bind_eq_some_iff.mp H
  obtain ⟨⟨t153, t154⟩, A100, H⟩ := H
  replace H : ((robin_When.f k a0 a1 a2 a3).bind fun bt155 => (if a0 < 2 then (gamehalllaw3_RobinMeets.j0 k a0 a1 a2 a3 a4 t147 t148 t149 t150 t153 t154 bt155.1 bt155.2 true) else (gamehalllaw3_RobinMeets.j0 k a0 a1 a2 a3 a4 t147 t148 t149 t150 t153 t154 bt155.1 bt155.2 (decide (a0 > 32))))) = some r := H
  have A10 := Aside0.mk A100
  clear A100
  replace H := Option.bind_eq_some_iff.mp H
  obtain ⟨⟨t155, t156⟩, A110, H⟩ := H
  replace H : (if a0 < 2 then (gamehalllaw3_RobinMeets.j0 k a0 a1 a2 a3 a4 t147 t148 t149 t150 t153 t154 t155 t156 true) else (gamehalllaw3_RobinMeets.j0 k a0 a1 a2 a3 a4 t147 t148 t149 t150 t153 t154 t155 t156 (decide (a0 > 32)))) = some r := H
  have A11 := Aside0.mk A110
  clear A110
  have HC12 := Aside0.mk H
  clear H
  go_enter Try.func8, Try.ntmps8
  go_upto_region 7 with (first | ((with_reducible refine gate_callee (f := 29) rfl ?_); refine goesL_ (some 29) rfl rfl Try.func29 (by kernel_rfl) rfl #[] rfl (by (try simp only [List.map_toArray, List.map_cons, List.map_nil]); first | done | rfl | (simp only [List.length_drop, List.length_take]; rfl)) ?_; (with_reducible refine (gamehalllaw3_rounds.calls k  true _ A6.out).mono ?_); rintro e w' ⟨rfl, ⟨nd, rfl⟩⟩; refine ⟨_, rfl, ?_⟩) | ((with_reducible refine gate_callee (f := 30) rfl ?_); refine goesL_ (some 34) rfl rfl Try.func30 (by kernel_rfl) rfl #[.int .i64 a0, .bool a1] rfl (by (try simp only [List.map_toArray, List.map_cons, List.map_nil]); first | done | rfl | (simp only [List.length_drop, List.length_take]; rfl)) ?_; (with_reducible refine (robin_Rounds.calls k a0 a1 t147 t148 _ A8.out).mono ?_); rintro e w' ⟨rfl, ⟨nd, rfl⟩⟩; refine ⟨_, rfl, ?_⟩) | ((with_reducible refine gate_callee (f := 31) rfl ?_); refine goesL_ (some 41) rfl rfl Try.func31 (by kernel_rfl) rfl #[.int .i64 a0, .bool a1, .int .i64 a4] rfl (by (try simp only [List.map_toArray, List.map_cons, List.map_nil]); first | done | rfl | (simp only [List.length_drop, List.length_take]; rfl)) ?_; (with_reducible refine (robin_Round.calls k a0 a1 a4 t149 t150 _ A9.out).mono ?_); rintro e w13 ⟨v151, rfl, ho0, hb⟩; refine ⟨_, rfl, ?_⟩; have HO152 := Aside0.mk (Kd.R_lower ho0 (below_size (xW HB))); replace HB := Aside0.mk (xS HB hb); (try clear hb); (try clear hb2); (try clear hk); (try clear hi); (try clear ho0)) | ((with_reducible refine gate_callee (f := 32) rfl ?_); refine goesL_ (some 48) rfl rfl Try.func32 (by kernel_rfl) rfl #[.int .i64 a0, .bool a1, .int .i64 a4] rfl (by (try simp only [List.map_toArray, List.map_cons, List.map_nil]); first | done | rfl | (simp only [List.length_drop, List.length_take]; rfl)) ?_; (with_reducible refine (robin_Bye.calls k a0 a1 a4 t153 t154 _ A10.out).mono ?_); rintro e w' ⟨rfl, ⟨nd, rfl⟩⟩; refine ⟨_, rfl, ?_⟩) | ((with_reducible refine gate_callee (f := 33) rfl ?_); refine goesL_ (some 56) rfl rfl Try.func33 (by kernel_rfl) rfl #[.int .i64 a0, .bool a1, .int .i64 a2, .int .i64 a3] rfl (by (try simp only [List.map_toArray, List.map_cons, List.map_nil]); first | done | rfl | (simp only [List.length_drop, List.length_take]; rfl)) ?_; (with_reducible refine (robin_When.calls k a0 a1 a2 a3 t155 t156 _ A11.out).mono ?_); rintro e w14 ⟨rfl, hb⟩; refine ⟨_, rfl, ?_⟩; replace HO152 := Aside0.mk (Kd.R_below (by (with_reducible repeat (first | apply Kd.R_alloc | apply Kd.R_drewN | apply Kd.R_drew)); exact HO152.out) hb); replace HB := Aside0.mk (xS HB hb); (try clear hb); (try clear hb2); (try clear hk); (try clear hi)))
  (try simp only [Act.put, List.setIfInBounds_toArray, List.set_cons_zero, List.set_cons_succ])
  go_cut [64] (fun vs64 wc => ∃ (kq : Nat) (x64_11 : Bool), vs64 = .bool x64_11 ∧ Aside0 (gamehalllaw3_RobinMeets.j0 kq a0 a1 a2 a3 a4 t147 t148 t149 t150 t153 t154 t155 t156 x64_11 = some r) ∧ Aside0 (kq ≤ k) ∧ Aside0 (Kd.R k61 61 wc w.heap.size (fun _ => True) v151 t149) ∧ Aside0 (Below w.heap.size w wc))
  case first =>
   have H := HC12.out
   clear HC12
   by_cases c15 : a0 < 2
   ·rw [if_pos c15] at H
    have c15b0 : decide (a0 < 2) = true := decide_eq_true c15
    clear c15
    (first | rw [c15b0] | (simp only [i64_w, i32_w]; rw [c15b0]) | skip)
    as_aux_lemma =>
     have H' := Aside0.mk H
     clear H
     go_wp2
     go_meet
     case rel => exact ⟨_, (true), (xrf), H', ⟨by first | omega | exact Nat.le_refl _⟩, ⟨by (with_reducible repeat (first | apply Kd.R_alloc | apply Kd.R_drewN | apply Kd.R_drew)); exact HO152.out⟩, ⟨xW HB⟩⟩
   ·rw [if_neg c15] at H
    have c15b0 : decide (a0 < 2) = false := decide_eq_false c15
    clear c15
    (first | rw [c15b0] | (simp only [i64_w, i32_w]; rw [c15b0]) | skip)
    as_aux_lemma =>
     have H' := Aside0.mk H
     clear H
     go_wp2
     go_meet
     case rel => exact ⟨_, (decide (a0 > 32)), (xrf), H', ⟨by first | omega | exact Nat.le_refl _⟩, ⟨by (with_reducible repeat (first | apply Kd.R_alloc | apply Kd.R_drewN | apply Kd.R_drew)); exact HO152.out⟩, ⟨xW HB⟩⟩
  case rest =>
   as_aux_lemma =>
   clear HC12
   try clear c1
   try clear c2
   try clear p2
   try clear c3
   try clear c7
   try clear c8
   try clear c15
   try clear c15b0
   obtain ⟨kq, x64_11, rfl, HA, HJ11, HO_13, HB⟩ := hcut
   cases kq with
   | zero => exact absurd HA.out (by simp [gamehalllaw3_RobinMeets.j0])
   | succ kj11 =>
    have H := HA.out
    clear HA
    simp only [gamehalllaw3_RobinMeets.j0] at H
    by_cases c16 : x64_11 = true
    ·subst c16
     have H1 : (if t148 = 4 then (if t150 = t148 then (if t154 = t148 then (if t156 = t148 then (some ((wrap64 ((wrap64 ((wrap64 (t147 + (t149.length : Int))) + t153)) + t155)) == 0)) else (some false)) else (some false)) else (some false)) else (some false)) = some r := by rw [if_pos rfl] at H; exact H
     clear H
     have H := H1
     clear H1
     by_cases c17 : t148 = 4
     ·as_aux_lemma =>
      rw [if_pos c17] at H
      have c17b0 : (t148 == 4) = true := beq_iff_eq.mpr c17
      have c17b1 : (t148 != 4) = false := bne_eq_false_iff_eq.mpr c17
      clear c17
      by_cases c18 : t150 = t148
      ·as_aux_lemma =>
       rw [if_pos c18] at H
       have c18b0 : (t150 == t148) = true := beq_iff_eq.mpr c18
       have c18b1 : (t150 != t148) = false := bne_eq_false_iff_eq.mpr c18
       clear c18
       by_cases c19 : t154 = t148
       ·rw [if_pos c19] at H
        have c19b0 : (t154 == t148) = true := beq_iff_eq.mpr c19
        have c19b1 : (t154 != t148) = false := bne_eq_false_iff_eq.mpr c19
        clear c19
        by_cases c20 : t156 = t148
        ·rw [if_pos c20] at H
         have c20b0 : (t156 == t148) = true := beq_iff_eq.mpr c20
         have c20b1 : (t156 != t148) = false := bne_eq_false_iff_eq.mpr c20
         clear c20
         as_aux_lemma =>
          obtain rfl := Option.some.inj H
          obtain ⟨Ao21, co21, eo21⟩ := Kd.R_slice HO_13.out
          subst eo21
          go_wp2
          go_ret
          exact ⟨xer, xW HB⟩
        ·rw [if_neg c20] at H
         have c20b0 : (t156 == t148) = false := beq_eq_false_iff_ne.mpr c20
         have c20b1 : (t156 != t148) = true := bne_iff_ne.mpr c20
         as_aux_lemma =>
          obtain rfl := Option.some.inj H
          go_wp2
          go_ret
          exact ⟨xer, xW HB⟩
       ·rw [if_neg c19] at H
        have c19b0 : (t154 == t148) = false := beq_eq_false_iff_ne.mpr c19
        have c19b1 : (t154 != t148) = true := bne_iff_ne.mpr c19
        as_aux_lemma =>
         obtain rfl := Option.some.inj H
         go_wp2
         go_ret
         exact ⟨xer, xW HB⟩
      ·rw [if_neg c18] at H
       have c18b0 : (t150 == t148) = false := beq_eq_false_iff_ne.mpr c18
       have c18b1 : (t150 != t148) = true := bne_iff_ne.mpr c18
       as_aux_lemma =>
        obtain rfl := Option.some.inj H
        go_wp2
        go_ret
        exact ⟨xer, xW HB⟩
     ·rw [if_neg c17] at H
      have c17b0 : (t148 == 4) = false := beq_eq_false_iff_ne.mpr c17
      have c17b1 : (t148 != 4) = true := bne_iff_ne.mpr c17
      as_aux_lemma =>
       obtain rfl := Option.some.inj H
       go_wp2
       go_ret
       exact ⟨xer, xW HB⟩
    ·replace c16 := Bool.eq_false_iff.mpr c16
     subst c16
     have H1 : (if a1 = true then (gamehalllaw3_RobinMeets.j1 kj11 a0 a1 a2 a3 a4 t147 t148 t149 t150 t153 t154 t155 t156 (wrap64 (a0 + (Int.tmod a0 2))) (wrap64 ((wrap64 ((wrap64 (a0 + (Int.tmod a0 2))) - 1)) + (wrap64 ((wrap64 (a0 + (Int.tmod a0 2))) - 1))))) else (gamehalllaw3_RobinMeets.j1 kj11 a0 a1 a2 a3 a4 t147 t148 t149 t150 t153 t154 t155 t156 (wrap64 (a0 + (Int.tmod a0 2))) (wrap64 ((wrap64 (a0 + (Int.tmod a0 2))) - 1)))) = some r := by rw [if_neg (show ¬ (false = true) by decide)] at H; exact H
     clear H
     have H := H1
     clear H1
     have HC22 := Aside0.mk H
     clear H
     go_upto_if 99 with (fail)
     go_cut [20] (fun vs20 wc => ∃ (kq : Nat) (x20_21 : Int), vs20 = .int .i64 x20_21 ∧ Aside0 (gamehalllaw3_RobinMeets.j1 kq a0 a1 a2 a3 a4 t147 t148 t149 t150 t153 t154 t155 t156 (wrap64 (a0 + (Int.tmod a0 2))) x20_21 = some r) ∧ Aside0 (kq ≤ kj11) ∧ Aside0 (Kd.R k61 61 wc w.heap.size (fun _ => True) v151 t149) ∧ Aside0 (Below w.heap.size w wc))
     case first =>
      as_aux_lemma =>
      have H := HC22.out
      clear HC22
      by_cases c23 : a1 = true
      ·subst c23
       have H1 : (gamehalllaw3_RobinMeets.j1 kj11 a0 true a2 a3 a4 t147 t148 t149 t150 t153 t154 t155 t156 (wrap64 (a0 + (Int.tmod a0 2))) (wrap64 ((wrap64 ((wrap64 (a0 + (Int.tmod a0 2))) - 1)) + (wrap64 ((wrap64 (a0 + (Int.tmod a0 2))) - 1))))) = some r := by rw [if_pos rfl] at H; exact H
       clear H
       have H := H1
       clear H1
       as_aux_lemma =>
        have H' := Aside0.mk H
        clear H
        go_wp2
        go_meet
        case rel => exact ⟨_, (wrap64 ((wrap64 ((wrap64 (a0 + (Int.tmod a0 2))) - 1)) + (wrap64 ((wrap64 (a0 + (Int.tmod a0 2))) - 1)))), (xrf), H', ⟨by have := HJ11.out; first | omega | exact Nat.le_refl _⟩, ⟨by (with_reducible repeat (first | apply Kd.R_alloc | apply Kd.R_drewN | apply Kd.R_drew)); exact HO_13.out⟩, ⟨xW HB⟩⟩
      ·replace c23 := Bool.eq_false_iff.mpr c23
       subst c23
       have H1 : (gamehalllaw3_RobinMeets.j1 kj11 a0 false a2 a3 a4 t147 t148 t149 t150 t153 t154 t155 t156 (wrap64 (a0 + (Int.tmod a0 2))) (wrap64 ((wrap64 (a0 + (Int.tmod a0 2))) - 1))) = some r := by rw [if_neg (show ¬ (false = true) by decide)] at H; exact H
       clear H
       have H := H1
       clear H1
       as_aux_lemma =>
        have H' := Aside0.mk H
        clear H
        go_wp2
        go_meet
        case rel => exact ⟨_, (wrap64 ((wrap64 (a0 + (Int.tmod a0 2))) - 1)), (xrf), H', ⟨by have := HJ11.out; first | omega | exact Nat.le_refl _⟩, ⟨by (with_reducible repeat (first | apply Kd.R_alloc | apply Kd.R_drewN | apply Kd.R_drew)); exact HO_13.out⟩, ⟨xW HB⟩⟩
     case rest =>
      as_aux_lemma =>
      clear HC22
      try clear c1
      try clear c2
      try clear p2
      try clear c3
      try clear p6
      try clear c7
      try clear c8
      try clear c15
      try clear c15b0
      try clear c16
      try clear c17
      try clear c17b0
      try clear c17b1
      try clear c18
      try clear c18b0
      try clear c18b1
      try clear c19
      try clear c19b0
      try clear c19b1
      try clear c20
      try clear c20b0
      try clear c20b1
      try clear c23
      try clear p2
      obtain ⟨kq, x20_21, rfl, HA, HJ21, HO_13, HB⟩ := hcut
      cases kq with
      | zero => exact absurd HA.out (by simp [gamehalllaw3_RobinMeets.j1])
      | succ kj21 =>
       have H := HA.out
       clear HA
       simp only [gamehalllaw3_RobinMeets.j1] at H
       have HC24 := Aside0.mk H
       clear H
       go_upto_region 13 with (fail)
       go_cut [110] (fun vs110 wc => ∃ (kq : Nat) (x110_23 : Bool), vs110 = .bool x110_23 ∧ Aside0 (gamehalllaw3_RobinMeets.j2 kq a0 a1 a2 a3 a4 t147 t149 t150 t153 t154 t155 t156 (wrap64 (a0 + (Int.tmod a0 2))) x110_23 = some r) ∧ Aside0 (kq ≤ kj21) ∧ Aside0 (Kd.R k61 61 wc w.heap.size (fun _ => True) v151 t149) ∧ Aside0 (Below w.heap.size w wc))
       case first =>
        as_aux_lemma =>
        have H := HC24.out
        clear HC24
        by_cases c25 : t148 = 0
        ·rw [if_pos c25] at H
         have c25b0 : (t148 == 0) = true := beq_iff_eq.mpr c25
         have c25b1 : (t148 != 0) = false := bne_eq_false_iff_eq.mpr c25
         clear c25
         (first | rw [c25b0] | (simp only [i64_w, i32_w]; rw [c25b0]) | skip)
         as_aux_lemma =>
          have H' := Aside0.mk H
          clear H
          go_wp2
          go_meet
          case rel => exact ⟨_, ((t147 != x20_21)), (xrf), H', ⟨by have := HJ11.out; have := HJ21.out; first | omega | exact Nat.le_refl _⟩, ⟨by (with_reducible repeat (first | apply Kd.R_alloc | apply Kd.R_drewN | apply Kd.R_drew)); exact HO_13.out⟩, ⟨xW HB⟩⟩
        ·rw [if_neg c25] at H
         have c25b0 : (t148 == 0) = false := beq_eq_false_iff_ne.mpr c25
         have c25b1 : (t148 != 0) = true := bne_iff_ne.mpr c25
         (first | rw [c25b0] | (simp only [i64_w, i32_w]; rw [c25b0]) | skip)
         as_aux_lemma =>
          have H' := Aside0.mk H
          clear H
          go_wp2
          go_meet
          case rel => exact ⟨_, (true), (xrf), H', ⟨by have := HJ11.out; have := HJ21.out; first | omega | exact Nat.le_refl _⟩, ⟨by (with_reducible repeat (first | apply Kd.R_alloc | apply Kd.R_drewN | apply Kd.R_drew)); exact HO_13.out⟩, ⟨xW HB⟩⟩
       case rest =>
        as_aux_lemma =>
        clear HC24
        try clear c1
        try clear c2
        try clear p2
        try clear c3
        try clear p6
        try clear c7
        try clear c8
        try clear c15
        try clear c15b0
        try clear c16
        try clear c17
        try clear c17b0
        try clear c17b1
        try clear c18
        try clear c18b0
        try clear c18b1
        try clear c19
        try clear c19b0
        try clear c19b1
        try clear c20
        try clear c20b0
        try clear c20b1
        try clear c23
        try clear c25
        try clear c25b0
        try clear c25b1
        try clear p2
        try clear p6
        obtain ⟨kq, x110_23, rfl, HA, HJ23, HO_13, HB⟩ := hcut
        cases kq with
        | zero => exact absurd HA.out (by simp [gamehalllaw3_RobinMeets.j2])
        | succ kj23 =>
         have H := HA.out
         clear HA
         simp only [gamehalllaw3_RobinMeets.j2] at H
         by_cases c26 : x110_23 = true
         ·subst c26
          have H1 : (some false) = some r := by rw [if_pos rfl] at H; exact H
          clear H
          have H := H1
          clear H1
          as_aux_lemma =>
           obtain rfl := Option.some.inj H
           go_wp2
           go_ret
           exact ⟨xer, xW HB⟩
         ·replace c26 := Bool.eq_false_iff.mpr c26
          subst c26
          have H1 : (if a4 < 0 then (gamehalllaw3_RobinMeets.j3 kj23 a0 a1 a2 a3 a4 t149 t150 t153 t154 t155 t156 (wrap64 (a0 + (Int.tmod a0 2))) true) else (gamehalllaw3_RobinMeets.j3 kj23 a0 a1 a2 a3 a4 t149 t150 t153 t154 t155 t156 (wrap64 (a0 + (Int.tmod a0 2))) (decide (a4 ≥ t147)))) = some r := by rw [if_neg (show ¬ (false = true) by decide)] at H; exact H
          clear H
          have H := H1
          clear H1
          have HC27 := Aside0.mk H
          clear H
          go_upto_region 15 with (fail)
          go_cut [117] (fun vs117 wc => ∃ (kq : Nat) (x117_26 : Bool), vs117 = .bool x117_26 ∧ Aside0 (gamehalllaw3_RobinMeets.j3 kq a0 a1 a2 a3 a4 t149 t150 t153 t154 t155 t156 (wrap64 (a0 + (Int.tmod a0 2))) x117_26 = some r) ∧ Aside0 (kq ≤ kj23) ∧ Aside0 (Kd.R k61 61 wc w.heap.size (fun _ => True) v151 t149) ∧ Aside0 (Below w.heap.size w wc))
          case first =>
           have H := HC27.out
           clear HC27
           by_cases c28 : a4 < 0
           ·rw [if_pos c28] at H
            have c28b0 : decide (a4 < 0) = true := decide_eq_true c28
            clear c28
            (first | rw [c28b0] | (simp only [i64_w, i32_w]; rw [c28b0]) | skip)
            as_aux_lemma =>
             have H' := Aside0.mk H
             clear H
             go_wp2
             go_meet
             case rel => exact ⟨_, (true), (xrf), H', ⟨by have := HJ11.out; have := HJ21.out; have := HJ23.out; first | omega | exact Nat.le_refl _⟩, ⟨by (with_reducible repeat (first | apply Kd.R_alloc | apply Kd.R_drewN | apply Kd.R_drew)); exact HO_13.out⟩, ⟨xW HB⟩⟩
           ·rw [if_neg c28] at H
            have c28b0 : decide (a4 < 0) = false := decide_eq_false c28
            clear c28
            (first | rw [c28b0] | (simp only [i64_w, i32_w]; rw [c28b0]) | skip)
            as_aux_lemma =>
             have H' := Aside0.mk H
             clear H
             go_wp2
             go_meet
             case rel => exact ⟨_, (decide (a4 ≥ t147)), (xrf), H', ⟨by have := HJ11.out; have := HJ21.out; have := HJ23.out; first | omega | exact Nat.le_refl _⟩, ⟨by (with_reducible repeat (first | apply Kd.R_alloc | apply Kd.R_drewN | apply Kd.R_drew)); exact HO_13.out⟩, ⟨xW HB⟩⟩
          case rest =>
           as_aux_lemma =>
           clear HC27
           try clear c1
           try clear c2
           try clear p2
           try clear c3
           try clear p6
           try clear c7
           try clear c8
           try clear c15
           try clear c15b0
           try clear c16
           try clear c17
           try clear c17b0
           try clear c17b1
           try clear c18
           try clear c18b0
           try clear c18b1
           try clear c19
           try clear c19b0
           try clear c19b1
           try clear c20
           try clear c20b0
           try clear c20b1
           try clear c23
           try clear c25
           try clear c25b0
           try clear c25b1
           try clear c26
           try clear c28
           try clear c28b0
           try clear p2
           try clear p6
           obtain ⟨kq, x117_26, rfl, HA, HJ26, HO_13, HB⟩ := hcut
           cases kq with
           | zero => exact absurd HA.out (by simp [gamehalllaw3_RobinMeets.j3])
           | succ kj26 =>
            have H := HA.out
            clear HA
            simp only [gamehalllaw3_RobinMeets.j3] at H
            have HC29 := Aside0.mk H
            clear H
            go_upto_if 117 with (fail)
            go_cut [] (fun wc => ∃ (kq : Nat), Aside0 (gamehalllaw3_RobinMeets.j6 kq a0 a1 a2 a3 t155 t156 (wrap64 (a0 + (Int.tmod a0 2))) = some r) ∧ Aside0 (kq ≤ kj26) ∧ Aside0 (Below w.heap.size w wc))
            case first =>
             as_aux_lemma =>
             have H := HC29.out
             clear HC29
             by_cases c30 : x117_26 = true
             ·subst c30
              have H1 : (if t150 = 1 then (if t154 = 1 then (if (wrap64 ((t149.length : Int) + t153)) = 0 then (gamehalllaw3_RobinMeets.j6 kj26 a0 a1 a2 a3 t155 t156 (wrap64 (a0 + (Int.tmod a0 2)))) else (some false)) else (some false)) else (some false)) = some r := by rw [if_pos rfl] at H; exact H
              clear H
              have H := H1
              clear H1
              by_cases c31 : t150 = 1
              ·as_aux_lemma =>
               rw [if_pos c31] at H
               have c31b0 : (t150 == 1) = true := beq_iff_eq.mpr c31
               have c31b1 : (t150 != 1) = false := bne_eq_false_iff_eq.mpr c31
               clear c31
               (first | rw [c31b0] | (simp only [i64_w, i32_w]; rw [c31b0]) | skip)
               by_cases c32 : t154 = 1
               ·as_aux_lemma =>
                rw [if_pos c32] at H
                have c32b0 : (t154 == 1) = true := beq_iff_eq.mpr c32
                have c32b1 : (t154 != 1) = false := bne_eq_false_iff_eq.mpr c32
                clear c32
                by_cases c33 : (wrap64 ((t149.length : Int) + t153)) = 0
                ·rw [if_pos c33] at H
                 have c33b0 : ((wrap64 ((t149.length : Int) + t153)) == 0) = true := beq_iff_eq.mpr c33
                 have c33b1 : ((wrap64 ((t149.length : Int) + t153)) != 0) = false := bne_eq_false_iff_eq.mpr c33
                 clear c33
                 as_aux_lemma =>
                  have H' := Aside0.mk H
                  clear H
                  obtain ⟨Ao34, co34, eo34⟩ := Kd.R_slice HO_13.out
                  subst eo34
                  go_wp2
                  go_meet
                  case rel => exact ⟨_, H', ⟨by have := HJ11.out; have := HJ21.out; have := HJ23.out; have := HJ26.out; first | omega | exact Nat.le_refl _⟩, ⟨xW HB⟩⟩
                ·rw [if_neg c33] at H
                 have c33b0 : ((wrap64 ((t149.length : Int) + t153)) == 0) = false := beq_eq_false_iff_ne.mpr c33
                 have c33b1 : ((wrap64 ((t149.length : Int) + t153)) != 0) = true := bne_iff_ne.mpr c33
                 as_aux_lemma =>
                  obtain rfl := Option.some.inj H
                  obtain ⟨Ao35, co35, eo35⟩ := Kd.R_slice HO_13.out
                  subst eo35
                  go_wp2
                  go_ret
                  exact ⟨xer, xW HB⟩
               ·rw [if_neg c32] at H
                have c32b0 : (t154 == 1) = false := beq_eq_false_iff_ne.mpr c32
                have c32b1 : (t154 != 1) = true := bne_iff_ne.mpr c32
                as_aux_lemma =>
                 obtain rfl := Option.some.inj H
                 go_wp2
                 go_ret
                 exact ⟨xer, xW HB⟩
              ·rw [if_neg c31] at H
               have c31b0 : (t150 == 1) = false := beq_eq_false_iff_ne.mpr c31
               have c31b1 : (t150 != 1) = true := bne_iff_ne.mpr c31
               (first | rw [c31b0] | (simp only [i64_w, i32_w]; rw [c31b0]) | skip)
               as_aux_lemma =>
                obtain rfl := Option.some.inj H
                go_wp2
                go_ret
                exact ⟨xer, xW HB⟩
             ·replace c30 := Bool.eq_false_iff.mpr c30
              subst c30
              have H1 : (if t150 = 0 then (if t154 = 0 then (if (t149.length : Int) = (wrap64 (Int.tdiv a0 2)) then (gamehalllaw3_RobinMeets.j4 kj26 a0 a1 a2 a3 a4 t149 t153 t155 t156 (wrap64 (a0 + (Int.tmod a0 2))) (((Int.tmod a0 2) == 0) != (t153 == (-1)))) else (gamehalllaw3_RobinMeets.j4 kj26 a0 a1 a2 a3 a4 t149 t153 t155 t156 (wrap64 (a0 + (Int.tmod a0 2))) true)) else (gamehalllaw3_RobinMeets.j4 kj26 a0 a1 a2 a3 a4 t149 t153 t155 t156 (wrap64 (a0 + (Int.tmod a0 2))) true)) else (gamehalllaw3_RobinMeets.j4 kj26 a0 a1 a2 a3 a4 t149 t153 t155 t156 (wrap64 (a0 + (Int.tmod a0 2))) true)) = some r := by rw [if_neg (show ¬ (false = true) by decide)] at H; exact H
              clear H
              have H := H1
              clear H1
              have HC36 := Aside0.mk H
              clear H
              go_upto_region 18 with (fail)
              go_cut [151] (fun vs151 wc => ∃ (kq : Nat) (x151_35 : Bool), vs151 = .bool x151_35 ∧ Aside0 (gamehalllaw3_RobinMeets.j4 kq a0 a1 a2 a3 a4 t149 t153 t155 t156 (wrap64 (a0 + (Int.tmod a0 2))) x151_35 = some r) ∧ Aside0 (kq ≤ kj26) ∧ Aside0 (Kd.R k61 61 wc w.heap.size (fun _ => True) v151 t149) ∧ Aside0 (Below w.heap.size w wc))
              case first =>
               as_aux_lemma =>
               have H := HC36.out
               clear HC36
               by_cases c37 : t150 = 0
               ·as_aux_lemma =>
                rw [if_pos c37] at H
                have c37b0 : (t150 == 0) = true := beq_iff_eq.mpr c37
                have c37b1 : (t150 != 0) = false := bne_eq_false_iff_eq.mpr c37
                clear c37
                (first | rw [c37b0] | (simp only [i64_w, i32_w]; rw [c37b0]) | skip)
                by_cases c38 : t154 = 0
                ·as_aux_lemma =>
                 rw [if_pos c38] at H
                 have c38b0 : (t154 == 0) = true := beq_iff_eq.mpr c38
                 have c38b1 : (t154 != 0) = false := bne_eq_false_iff_eq.mpr c38
                 clear c38
                 by_cases c39 : (t149.length : Int) = (wrap64 (Int.tdiv a0 2))
                 ·rw [if_pos c39] at H
                  have c39b0 : ((t149.length : Int) == (wrap64 (Int.tdiv a0 2))) = true := beq_iff_eq.mpr c39
                  have c39b1 : ((t149.length : Int) != (wrap64 (Int.tdiv a0 2))) = false := bne_eq_false_iff_eq.mpr c39
                  clear c39
                  as_aux_lemma =>
                   have H' := Aside0.mk H
                   clear H
                   obtain ⟨Ao40, co40, eo40⟩ := Kd.R_slice HO_13.out
                   subst eo40
                   go_wp2
                   go_meet
                   case rel => exact ⟨_, ((((Int.tmod a0 2) == 0) != (t153 == (-1)))), (xrf), H', ⟨by have := HJ11.out; have := HJ21.out; have := HJ23.out; have := HJ26.out; first | omega | exact Nat.le_refl _⟩, ⟨by (with_reducible repeat (first | apply Kd.R_alloc | apply Kd.R_drewN | apply Kd.R_drew)); exact HO_13.out⟩, ⟨xW HB⟩⟩
                 ·rw [if_neg c39] at H
                  have c39b0 : ((t149.length : Int) == (wrap64 (Int.tdiv a0 2))) = false := beq_eq_false_iff_ne.mpr c39
                  have c39b1 : ((t149.length : Int) != (wrap64 (Int.tdiv a0 2))) = true := bne_iff_ne.mpr c39
                  as_aux_lemma =>
                   have H' := Aside0.mk H
                   clear H
                   obtain ⟨Ao41, co41, eo41⟩ := Kd.R_slice HO_13.out
                   subst eo41
                   go_wp2
                   go_meet
                   case rel => exact ⟨_, (true), (xrf), H', ⟨by have := HJ11.out; have := HJ21.out; have := HJ23.out; have := HJ26.out; first | omega | exact Nat.le_refl _⟩, ⟨by (with_reducible repeat (first | apply Kd.R_alloc | apply Kd.R_drewN | apply Kd.R_drew)); exact HO_13.out⟩, ⟨xW HB⟩⟩
                ·rw [if_neg c38] at H
                 have c38b0 : (t154 == 0) = false := beq_eq_false_iff_ne.mpr c38
                 have c38b1 : (t154 != 0) = true := bne_iff_ne.mpr c38
                 as_aux_lemma =>
                  have H' := Aside0.mk H
                  clear H
                  go_wp2
                  go_meet
                  case rel => exact ⟨_, (true), (xrf), H', ⟨by have := HJ11.out; have := HJ21.out; have := HJ23.out; have := HJ26.out; first | omega | exact Nat.le_refl _⟩, ⟨by (with_reducible repeat (first | apply Kd.R_alloc | apply Kd.R_drewN | apply Kd.R_drew)); exact HO_13.out⟩, ⟨xW HB⟩⟩
               ·rw [if_neg c37] at H
                have c37b0 : (t150 == 0) = false := beq_eq_false_iff_ne.mpr c37
                have c37b1 : (t150 != 0) = true := bne_iff_ne.mpr c37
                (first | rw [c37b0] | (simp only [i64_w, i32_w]; rw [c37b0]) | skip)
                as_aux_lemma =>
                 have H' := Aside0.mk H
                 clear H
                 go_wp2
                 go_meet
                 case rel => exact ⟨_, (true), (xrf), H', ⟨by have := HJ11.out; have := HJ21.out; have := HJ23.out; have := HJ26.out; first | omega | exact Nat.le_refl _⟩, ⟨by (with_reducible repeat (first | apply Kd.R_alloc | apply Kd.R_drewN | apply Kd.R_drew)); exact HO_13.out⟩, ⟨xW HB⟩⟩
              case rest =>
               as_aux_lemma =>
               clear HC36
               try clear c1
               try clear c2
               try clear p2
               try clear c3
               try clear p6
               try clear c7
               try clear c8
               try clear c15
               try clear c15b0
               try clear c16
               try clear c17
               try clear c17b0
               try clear c17b1
               try clear c18
               try clear c18b0
               try clear c18b1
               try clear c19
               try clear c19b0
               try clear c19b1
               try clear c20
               try clear c20b0
               try clear c20b1
               try clear c23
               try clear c25
               try clear c25b0
               try clear c25b1
               try clear c26
               try clear c28
               try clear c28b0
               try clear c29
               try clear c30
               try clear c31
               try clear c31b0
               try clear c31b1
               try clear c32
               try clear c32b0
               try clear c32b1
               try clear c33
               try clear c33b0
               try clear c33b1
               try clear c37
               try clear c37b0
               try clear c37b1
               try clear c38
               try clear c38b0
               try clear c38b1
               try clear c39
               try clear c39b0
               try clear c39b1
               try clear p2
               try clear p6
               obtain ⟨kq, x151_35, rfl, HA, HJ35, HO_13, HB⟩ := hcut
               cases kq with
               | zero => exact absurd HA.out (by simp [gamehalllaw3_RobinMeets.j4])
               | succ kj35 =>
                have H := HA.out
                clear HA
                simp only [gamehalllaw3_RobinMeets.j4] at H
                by_cases c42 : x151_35 = true
                ·subst c42
                 have H1 : (some false) = some r := by rw [if_pos rfl] at H; exact H
                 clear H
                 have H := H1
                 clear H1
                 as_aux_lemma =>
                  obtain rfl := Option.some.inj H
                  go_wp2
                  go_ret
                  exact ⟨xer, xW HB⟩
                ·replace c42 := Bool.eq_false_iff.mpr c42
                 subst c42
                 have H1 : (gamehalllaw3_RobinMeets.l0 kj35 a0 a1 a2 a3 a4 t149 t153 t155 t156 (wrap64 (a0 + (Int.tmod a0 2))) (t149.length : Int) 0) = some r := by rw [if_neg (show ¬ (false = true) by decide)] at H; exact H
                 clear H
                 have H := H1
                 clear H1
                 have H' := Aside0.mk H
                 clear H
                 obtain ⟨Ao43, co43, eo43⟩ := Kd.R_slice HO_13.out
                 subst eo43
                 go_wp2
                 go_loopg [154] kj35 (fun kq vs154 w' => ∃ (x154_6 : Int), vs154 = .int .i64 x154_6 ∧ Aside0 (gamehalllaw3_RobinMeets.l0 kq a0 a1 a2 a3 a4 t149 t153 t155 t156 (wrap64 (a0 + (Int.tmod a0 2))) (t149.length : Int) x154_6 = some r) ∧ Aside0 (kq ≤ kj35) ∧ Aside0 (Kd.R k61 61 w' w.heap.size (fun _ => True) (.slice Ao43 t149.length co43) t149) ∧ Aside0 (Below w.heap.size w w'))
                 case atStart => exact ⟨(0), (xrf), H', ⟨Nat.le_refl _⟩, ⟨by (with_reducible repeat (first | apply Kd.R_alloc | apply Kd.R_drewN | apply Kd.R_drew)); exact HO_13.out⟩, ⟨xW HB⟩⟩
                 case round =>
                  clear H'
                  try clear c1
                  try clear c2
                  try clear p2
                  try clear c3
                  try clear c4
                  try clear p6
                  try clear c7
                  try clear c8
                  try clear c15
                  try clear c15b0
                  try clear c16
                  try clear c17
                  try clear c17b0
                  try clear c17b1
                  try clear c18
                  try clear c18b0
                  try clear c18b1
                  try clear c19
                  try clear c19b0
                  try clear c19b1
                  try clear c20
                  try clear c20b0
                  try clear c20b1
                  try clear c23
                  try clear c25
                  try clear c25b0
                  try clear c25b1
                  try clear c26
                  try clear c28
                  try clear c28b0
                  try clear c29
                  try clear c30
                  try clear c31
                  try clear c31b0
                  try clear c31b1
                  try clear c32
                  try clear c32b0
                  try clear c32b1
                  try clear c33
                  try clear c33b0
                  try clear c33b1
                  try clear c37
                  try clear c37b0
                  try clear c37b1
                  try clear c38
                  try clear c38b0
                  try clear c38b1
                  try clear c39
                  try clear c39b0
                  try clear c39b1
                  try clear c42
                  try clear p2
                  try clear p6
                  obtain ⟨x154_6, rfl, HA, HK6, HO_13, HB⟩ := hrel
                  cases gk with
                  | zero => exact absurd HA.out (by simp [gamehalllaw3_RobinMeets.l0])
                  | succ k6 =>
                   have H := HA.out
                   clear HA
                   simp only [gamehalllaw3_RobinMeets.l0] at H
                   by_cases c44 : x154_6 < (t149.length : Int)
                   ·as_aux_lemma =>
                    rw [if_pos c44] at H
                    have c44b0 : decide (x154_6 < (t149.length : Int)) = true := decide_eq_true c44
                    clear c44
                    by_cases c45 : 0 ≤ x154_6
                    ·as_aux_lemma =>
                     rw [if_pos c45] at H
                     have c45b0 : decide (0 ≤ x154_6) = true := decide_eq_true c45
                     clear c45
                     by_cases c46 : x154_6 < (t149.length : Int)
                     ·as_aux_lemma =>
                      rw [if_pos c46] at H
                      have c46b0 : decide (x154_6 < (t149.length : Int)) = true := decide_eq_true c46
                      clear c46
                      replace H := Option.bind_eq_some_iff.mp H
                      obtain ⟨⟨t159, t160⟩, A470, H⟩ := H
                      replace H : (if (wrap64 ((wrap64 (a0 + (Int.tmod a0 2))) - 1)) = 0 then (none) else (if t159 = (Int.tmod a4 (wrap64 ((wrap64 (a0 + (Int.tmod a0 2))) - 1))) then (if (t160 != (decide (a4 < (wrap64 ((wrap64 (a0 + (Int.tmod a0 2))) - 1))))) = true then (some false) else (gamehalllaw3_RobinMeets.l0 k6 a0 a1 a2 a3 a4 t149 t153 t155 t156 (wrap64 (a0 + (Int.tmod a0 2))) (t149.length : Int) (wrap64 (x154_6 + 1)))) else (some false))) = some r := H
                      have A47 := Aside0.mk A470
                      clear A470
                      by_cases c48 : (wrap64 ((wrap64 (a0 + (Int.tmod a0 2))) - 1)) = 0
                      ·rw [if_pos c48] at H
                       exact absurd H (by simp)
                      ·as_aux_lemma =>
                       rw [if_neg c48] at H
                       have c48b0 : ((wrap64 ((wrap64 (a0 + (Int.tmod a0 2))) - 1)) == 0) = false := beq_eq_false_iff_ne.mpr c48
                       have c48b1 : ((wrap64 ((wrap64 (a0 + (Int.tmod a0 2))) - 1)) != 0) = true := bne_iff_ne.mpr c48
                       by_cases c49 : t159 = (Int.tmod a4 (wrap64 ((wrap64 (a0 + (Int.tmod a0 2))) - 1)))
                       ·as_aux_lemma =>
                        rw [if_pos c49] at H
                        have c49b0 : (t159 == (Int.tmod a4 (wrap64 ((wrap64 (a0 + (Int.tmod a0 2))) - 1)))) = true := beq_iff_eq.mpr c49
                        have c49b1 : (t159 != (Int.tmod a4 (wrap64 ((wrap64 (a0 + (Int.tmod a0 2))) - 1)))) = false := bne_eq_false_iff_eq.mpr c49
                        clear c49
                        by_cases c50 : (t160 != (decide (a4 < (wrap64 ((wrap64 (a0 + (Int.tmod a0 2))) - 1))))) = true
                        ·rw [if_pos c50] at H
                         have c50b0 : (t160 != (decide (a4 < (wrap64 ((wrap64 (a0 + (Int.tmod a0 2))) - 1))))) = true := c50
                         (try (have c50b1 : decide (t160 = (decide (a4 < (wrap64 ((wrap64 (a0 + (Int.tmod a0 2))) - 1))))) = false := by simpa using c50))
                         (try (have c50b2 : (t160 == (decide (a4 < (wrap64 ((wrap64 (a0 + (Int.tmod a0 2))) - 1))))) = false := by simpa using c50))
                         (try (have c50b3 : ¬ (t160 = (decide (a4 < (wrap64 ((wrap64 (a0 + (Int.tmod a0 2))) - 1))))) := by simpa using c50))
                         clear c50
                         as_aux_lemma =>
                          obtain rfl := Option.some.inj H
                          have p157 : 0 ≤ (x154_6 : Int) := of_decide_eq_true (by first | (with_reducible assumption) | assumption)
                          have q157 : x154_6 < (t149.length : Int) := of_decide_eq_true (by first | (with_reducible assumption) | assumption)
                          obtain ⟨ad157, e157, hx157_0, hx157_1⟩ := at_T61 (Kd.R_reads' HO_13.out).2.2 x154_6 p157 q157
                          cases e157
                          replace p157 := eq_true p157
                          replace q157 := eq_true q157
                          go_wp2_with (first | ((with_reducible refine gate_dst (N := 22) rfl ?_); (try (refine gate_guard (by rfl) ?_; dsimp only)); refine box_event ?hg (N := 22) ?hd (cs := #[.int .i64 0, .int .i64 0]) (t := 61) ?hr ?_; (case hd => rfl); (case hg => rfl); (case hr => first | (go_simp; done) | (go_simp; rfl)); intro gb158 hg w51 hbox hb; have BK158 := Aside0.mk (hbox); have GW158 := Aside0.mk (xZ HB hg); have GE158 := Aside0.mk (xZ HB hg); replace HO_13 := Aside0.mk (Kd.R_below (Kd.R_elderB (by (with_reducible repeat (first | apply Kd.R_alloc | apply Kd.R_drewN | apply Kd.R_drew)); exact HO_13.out) gb158 (Nat.le_of_eq hg.symm)) hb); replace HB := Aside0.mk (xS HB hb); clear hb hbox hg; have hcz52_0 := blkc2 BK158.out) | ((with_reducible refine gate_callee (f := 34) rfl ?_); refine goesL_ (some 164) rfl rfl Try.func34 (by kernel_rfl) rfl #[.int .i64 (wrap64 (a0 + (Int.tmod a0 2))), .int .i64 ((rd_T61 t149 x154_6).f0), .int .i64 ((rd_T61 t149 x154_6).f1)] rfl (by (try simp only [List.map_toArray, List.map_cons, List.map_nil]); first | done | rfl | (simp only [List.length_drop, List.length_take]; rfl)) ?_; (with_reducible refine (gamehallref3_Round.calls k6 (wrap64 (a0 + (Int.tmod a0 2))) ((rd_T61 t149 x154_6).f0) ((rd_T61 t149 x154_6).f1) t159 t160 _ A47.out).mono ?_); rintro e w' ⟨rfl, ⟨nd, rfl⟩⟩; refine ⟨_, rfl, ?_⟩))
                          go_ret
                          exact ⟨xer, xW HB⟩
                        ·rw [if_neg c50] at H
                         have c50b0 : (t160 != (decide (a4 < (wrap64 ((wrap64 (a0 + (Int.tmod a0 2))) - 1))))) = false := by simpa using c50
                         (try (have c50b1 : decide (t160 = (decide (a4 < (wrap64 ((wrap64 (a0 + (Int.tmod a0 2))) - 1))))) = true := by simpa using c50))
                         (try (have c50b2 : (t160 == (decide (a4 < (wrap64 ((wrap64 (a0 + (Int.tmod a0 2))) - 1))))) = true := by simpa using c50))
                         clear c50
                         as_aux_lemma =>
                          have H' := Aside0.mk H
                          clear H
                          have p157 : 0 ≤ (x154_6 : Int) := of_decide_eq_true (by first | (with_reducible assumption) | assumption)
                          have q157 : x154_6 < (t149.length : Int) := of_decide_eq_true (by first | (with_reducible assumption) | assumption)
                          obtain ⟨ad157, e157, hx157_0, hx157_1⟩ := at_T61 (Kd.R_reads' HO_13.out).2.2 x154_6 p157 q157
                          cases e157
                          replace p157 := eq_true p157
                          replace q157 := eq_true q157
                          go_wp2_with (first | ((with_reducible refine gate_dst (N := 22) rfl ?_); (try (refine gate_guard (by rfl) ?_; dsimp only)); refine box_event ?hg (N := 22) ?hd (cs := #[.int .i64 0, .int .i64 0]) (t := 61) ?hr ?_; (case hd => rfl); (case hg => rfl); (case hr => first | (go_simp; done) | (go_simp; rfl)); intro gb158 hg w53 hbox hb; have BK158 := Aside0.mk (hbox); have GW158 := Aside0.mk (xZ HB hg); have GE158 := Aside0.mk (xZ HB hg); replace HO_13 := Aside0.mk (Kd.R_below (Kd.R_elderB (by (with_reducible repeat (first | apply Kd.R_alloc | apply Kd.R_drewN | apply Kd.R_drew)); exact HO_13.out) gb158 (Nat.le_of_eq hg.symm)) hb); replace HB := Aside0.mk (xS HB hb); clear hb hbox hg; have hcz54_0 := blkc2 BK158.out) | ((with_reducible refine gate_callee (f := 34) rfl ?_); refine goesL_ (some 164) rfl rfl Try.func34 (by kernel_rfl) rfl #[.int .i64 (wrap64 (a0 + (Int.tmod a0 2))), .int .i64 ((rd_T61 t149 x154_6).f0), .int .i64 ((rd_T61 t149 x154_6).f1)] rfl (by (try simp only [List.map_toArray, List.map_cons, List.map_nil]); first | done | rfl | (simp only [List.length_drop, List.length_take]; rfl)) ?_; (with_reducible refine (gamehallref3_Round.calls k6 (wrap64 (a0 + (Int.tmod a0 2))) ((rd_T61 t149 x154_6).f0) ((rd_T61 t149 x154_6).f1) t159 t160 _ A47.out).mono ?_); rintro e w' ⟨rfl, ⟨nd, rfl⟩⟩; refine ⟨_, rfl, ?_⟩))
                          go_roundg k6
                          case measure => have := HJ11.out; have := HJ21.out; have := HJ23.out; have := HJ26.out; have := HJ35.out; have := HK6.out; omega
                          case rel => exact ⟨(wrap64 (x154_6 + 1)), (xrf), H', ⟨by have := HJ11.out; have := HJ21.out; have := HJ23.out; have := HJ26.out; have := HJ35.out; have := HK6.out; omega⟩, ⟨by (with_reducible repeat (first | apply Kd.R_alloc | apply Kd.R_drewN | apply Kd.R_drew)); exact Kd.R_mono (Kd.R_far (p := ⟨gb158, 1, none⟩) (Kd.R_far (p := ⟨gb158, 0, none⟩) (Kd.R_mono HO_13.out (fun k_ hk => (⟨hk, hk.2⟩ : _ ∧ k_ ≠ gb158))) (fun _ hk => hk.2) (.int .i64 ((rd_T61 t149 x154_6).f0))) (fun _ hk => hk.2) (.int .i64 ((rd_T61 t149 x154_6).f1))) (fun _ hk => trivial)⟩, ⟨xW HB⟩⟩
                       ·rw [if_neg c49] at H
                        have c49b0 : (t159 == (Int.tmod a4 (wrap64 ((wrap64 (a0 + (Int.tmod a0 2))) - 1)))) = false := beq_eq_false_iff_ne.mpr c49
                        have c49b1 : (t159 != (Int.tmod a4 (wrap64 ((wrap64 (a0 + (Int.tmod a0 2))) - 1)))) = true := bne_iff_ne.mpr c49
                        as_aux_lemma =>
                         obtain rfl := Option.some.inj H
                         have p157 : 0 ≤ (x154_6 : Int) := of_decide_eq_true (by first | (with_reducible assumption) | assumption)
                         have q157 : x154_6 < (t149.length : Int) := of_decide_eq_true (by first | (with_reducible assumption) | assumption)
                         obtain ⟨ad157, e157, hx157_0, hx157_1⟩ := at_T61 (Kd.R_reads' HO_13.out).2.2 x154_6 p157 q157
                         cases e157
                         replace p157 := eq_true p157
                         replace q157 := eq_true q157
                         go_wp2_with (first | ((with_reducible refine gate_dst (N := 22) rfl ?_); (try (refine gate_guard (by rfl) ?_; dsimp only)); refine box_event ?hg (N := 22) ?hd (cs := #[.int .i64 0, .int .i64 0]) (t := 61) ?hr ?_; (case hd => rfl); (case hg => rfl); (case hr => first | (go_simp; done) | (go_simp; rfl)); intro gb158 hg w55 hbox hb; have BK158 := Aside0.mk (hbox); have GW158 := Aside0.mk (xZ HB hg); have GE158 := Aside0.mk (xZ HB hg); replace HO_13 := Aside0.mk (Kd.R_below (Kd.R_elderB (by (with_reducible repeat (first | apply Kd.R_alloc | apply Kd.R_drewN | apply Kd.R_drew)); exact HO_13.out) gb158 (Nat.le_of_eq hg.symm)) hb); replace HB := Aside0.mk (xS HB hb); clear hb hbox hg; have hcz56_0 := blkc2 BK158.out) | ((with_reducible refine gate_callee (f := 34) rfl ?_); refine goesL_ (some 164) rfl rfl Try.func34 (by kernel_rfl) rfl #[.int .i64 (wrap64 (a0 + (Int.tmod a0 2))), .int .i64 ((rd_T61 t149 x154_6).f0), .int .i64 ((rd_T61 t149 x154_6).f1)] rfl (by (try simp only [List.map_toArray, List.map_cons, List.map_nil]); first | done | rfl | (simp only [List.length_drop, List.length_take]; rfl)) ?_; (with_reducible refine (gamehallref3_Round.calls k6 (wrap64 (a0 + (Int.tmod a0 2))) ((rd_T61 t149 x154_6).f0) ((rd_T61 t149 x154_6).f1) t159 t160 _ A47.out).mono ?_); rintro e w' ⟨rfl, ⟨nd, rfl⟩⟩; refine ⟨_, rfl, ?_⟩))
                         go_ret
                         exact ⟨xer, xW HB⟩
                     ·rw [if_neg c46] at H
                      exact absurd H (by simp)
                    ·rw [if_neg c45] at H
                     exact absurd H (by simp)
                   ·as_aux_lemma =>
                    rw [if_neg c44] at H
                    have c44b0 : decide (x154_6 < (t149.length : Int)) = false := decide_eq_false c44
                    clear c44
                    by_cases c57 : (Int.tmod a0 2) = 1
                    ·as_aux_lemma =>
                     rw [if_pos c57] at H
                     have c57b0 : ((Int.tmod a0 2) == 1) = true := beq_iff_eq.mpr c57
                     have c57b1 : ((Int.tmod a0 2) != 1) = false := bne_eq_false_iff_eq.mpr c57
                     clear c57
                     replace H := Option.bind_eq_some_iff.mp H
                     obtain ⟨⟨t161, t162⟩, A580, H⟩ := H
                     replace H : (if (wrap64 ((wrap64 (a0 + (Int.tmod a0 2))) - 1)) = 0 then (none) else (if t161 = (Int.tmod a4 (wrap64 ((wrap64 (a0 + (Int.tmod a0 2))) - 1))) then (gamehalllaw3_RobinMeets.j6 k6 a0 a1 a2 a3 t155 t156 (wrap64 (a0 + (Int.tmod a0 2)))) else (some false))) = some r := H
                     have A58 := Aside0.mk A580
                     clear A580
                     by_cases c59 : (wrap64 ((wrap64 (a0 + (Int.tmod a0 2))) - 1)) = 0
                     ·rw [if_pos c59] at H
                      exact absurd H (by simp)
                     ·rw [if_neg c59] at H
                      have c59b0 : ((wrap64 ((wrap64 (a0 + (Int.tmod a0 2))) - 1)) == 0) = false := beq_eq_false_iff_ne.mpr c59
                      have c59b1 : ((wrap64 ((wrap64 (a0 + (Int.tmod a0 2))) - 1)) != 0) = true := bne_iff_ne.mpr c59
                      by_cases c60 : t161 = (Int.tmod a4 (wrap64 ((wrap64 (a0 + (Int.tmod a0 2))) - 1)))
                      ·rw [if_pos c60] at H
                       have c60b0 : (t161 == (Int.tmod a4 (wrap64 ((wrap64 (a0 + (Int.tmod a0 2))) - 1)))) = true := beq_iff_eq.mpr c60
                       have c60b1 : (t161 != (Int.tmod a4 (wrap64 ((wrap64 (a0 + (Int.tmod a0 2))) - 1)))) = false := bne_eq_false_iff_eq.mpr c60
                       clear c60
                       as_aux_lemma =>
                        have H' := Aside0.mk H
                        clear H
                        go_wp2_with (first | ((with_reducible refine gate_callee (f := 34) rfl ?_); refine goesL_ (some 190) rfl rfl Try.func34 (by kernel_rfl) rfl #[.int .i64 (wrap64 (a0 + (Int.tmod a0 2))), .int .i64 t153, .int .i64 (wrap64 ((wrap64 (a0 + (Int.tmod a0 2))) - 1))] rfl (by (try simp only [List.map_toArray, List.map_cons, List.map_nil]); first | done | rfl | (simp only [List.length_drop, List.length_take]; rfl)) ?_; (with_reducible refine (gamehallref3_Round.calls k6 (wrap64 (a0 + (Int.tmod a0 2))) t153 (wrap64 ((wrap64 (a0 + (Int.tmod a0 2))) - 1)) t161 t162 _ A58.out).mono ?_); rintro e w' ⟨rfl, ⟨nd, rfl⟩⟩; refine ⟨_, rfl, ?_⟩))
                        go_meet
                        case rel => exact ⟨_, H', ⟨by have := HJ11.out; have := HJ21.out; have := HJ23.out; have := HJ26.out; have := HJ35.out; have := HK6.out; first | omega | exact Nat.le_refl _⟩, ⟨xW HB⟩⟩
                      ·rw [if_neg c60] at H
                       have c60b0 : (t161 == (Int.tmod a4 (wrap64 ((wrap64 (a0 + (Int.tmod a0 2))) - 1)))) = false := beq_eq_false_iff_ne.mpr c60
                       have c60b1 : (t161 != (Int.tmod a4 (wrap64 ((wrap64 (a0 + (Int.tmod a0 2))) - 1)))) = true := bne_iff_ne.mpr c60
                       as_aux_lemma =>
                        obtain rfl := Option.some.inj H
                        go_wp2_with (first | ((with_reducible refine gate_callee (f := 34) rfl ?_); refine goesL_ (some 190) rfl rfl Try.func34 (by kernel_rfl) rfl #[.int .i64 (wrap64 (a0 + (Int.tmod a0 2))), .int .i64 t153, .int .i64 (wrap64 ((wrap64 (a0 + (Int.tmod a0 2))) - 1))] rfl (by (try simp only [List.map_toArray, List.map_cons, List.map_nil]); first | done | rfl | (simp only [List.length_drop, List.length_take]; rfl)) ?_; (with_reducible refine (gamehallref3_Round.calls k6 (wrap64 (a0 + (Int.tmod a0 2))) t153 (wrap64 ((wrap64 (a0 + (Int.tmod a0 2))) - 1)) t161 t162 _ A58.out).mono ?_); rintro e w' ⟨rfl, ⟨nd, rfl⟩⟩; refine ⟨_, rfl, ?_⟩))
                        go_ret
                        exact ⟨xer, xW HB⟩
                    ·rw [if_neg c57] at H
                     have c57b0 : ((Int.tmod a0 2) == 1) = false := beq_eq_false_iff_ne.mpr c57
                     have c57b1 : ((Int.tmod a0 2) != 1) = true := bne_iff_ne.mpr c57
                     as_aux_lemma =>
                      have H' := Aside0.mk H
                      clear H
                      go_wp2
                      go_meet
                      case rel => exact ⟨_, H', ⟨by have := HJ11.out; have := HJ21.out; have := HJ23.out; have := HJ26.out; have := HJ35.out; have := HK6.out; first | omega | exact Nat.le_refl _⟩, ⟨xW HB⟩⟩
            case rest =>
             as_aux_lemma =>
             clear HC29
             try clear c1
             try clear p1
             try clear q1
             try clear hx1
             try clear c2
             try clear p2
             try clear c3
             try clear c4
             try clear c5
             try clear c6
             try clear p6
             try clear c7
             try clear c8
             try clear c15
             try clear c15b0
             try clear p15
             try clear q15
             try clear hx15
             try clear c16
             try clear c17
             try clear c17b0
             try clear c17b1
             try clear c18
             try clear c18b0
             try clear c18b1
             try clear c19
             try clear c19b0
             try clear c19b1
             try clear c20
             try clear c20b0
             try clear c20b1
             try clear c23
             try clear c25
             try clear c25b0
             try clear c25b1
             try clear c26
             try clear c28
             try clear c28b0
             try clear c29
             try clear c30
             try clear c31
             try clear c31b0
             try clear c31b1
             try clear c32
             try clear c32b0
             try clear c32b1
             try clear c33
             try clear c33b0
             try clear c33b1
             try clear c34
             try clear c37
             try clear c37b0
             try clear c37b1
             try clear c38
             try clear c38b0
             try clear c38b1
             try clear c39
             try clear c39b0
             try clear c39b1
             try clear c42
             try clear c44
             try clear c44b0
             try clear c45
             try clear c45b0
             try clear c46
             try clear c46b0
             try clear c48
             try clear c48b0
             try clear c48b1
             try clear c49
             try clear c49b0
             try clear c49b1
             try clear c50
             try clear c50b0
             try clear c50b1
             try clear c50b2
             try clear c57
             try clear c57b0
             try clear c57b1
             try clear c59
             try clear c59b0
             try clear c59b1
             try clear c60
             try clear c60b0
             try clear c60b1
             try clear hcz52_0
             try clear hcz54_0
             try clear hcz56_0
             try clear hx157_0
             try clear hx157_1
             try clear p157
             try clear p2
             try clear p6
             try clear q157
             obtain ⟨kq, HA, HJ28, HB⟩ := hcut
             cases kq with
             | zero => exact absurd HA.out (by simp [gamehalllaw3_RobinMeets.j6])
             | succ kj28 =>
              have H := HA.out
              clear HA
              simp only [gamehalllaw3_RobinMeets.j6] at H
              have HC61 := Aside0.mk H
              clear H
              go_upto_region 31 with (fail)
              go_cut [214] (fun vs214 wc => ∃ (kq : Nat) (x214_60 : Bool), vs214 = .bool x214_60 ∧ Aside0 (gamehalllaw3_RobinMeets.j7 kq a1 a2 a3 t155 t156 (wrap64 (a0 + (Int.tmod a0 2))) x214_60 = some r) ∧ Aside0 (kq ≤ kj28) ∧ Aside0 (Below w.heap.size w wc))
              case first =>
               as_aux_lemma =>
               have H := HC61.out
               clear HC61
               obtain ⟨ji62, hji62⟩ : ∃ j_ : Int, (mn a2 a3) = j_ := ⟨_, rfl⟩
               replace H : (if (ji62) < 0 then (gamehalllaw3_RobinMeets.j7 kj28 a1 a2 a3 t155 t156 (wrap64 (a0 + (Int.tmod a0 2))) true) else (if (mx a2 a3) ≥ a0 then (gamehalllaw3_RobinMeets.j7 kj28 a1 a2 a3 t155 t156 (wrap64 (a0 + (Int.tmod a0 2))) true) else (gamehalllaw3_RobinMeets.j7 kj28 a1 a2 a3 t155 t156 (wrap64 (a0 + (Int.tmod a0 2))) (a2 == a3)))) = some r := by first | (rw [hji62] at H; exact H) | (simp only [hji62] at H ⊢; exact H)
               have hji62_ : (if a3 < a2 then a3 else a2) = ji62 := hji62
               by_cases c63 : (ji62) < 0
               ·rw [if_pos c63] at H
                have c63b0 : decide ((ji62) < 0) = true := decide_eq_true c63
                clear c63
                (first | rw [c63b0] | (simp only [i64_w, i32_w]; rw [c63b0]) | skip)
                as_aux_lemma =>
                 have H' := Aside0.mk H
                 clear H
                 go_wp2
                 go_meet
                 case rel => exact ⟨_, (true), (xrf), H', ⟨by have := HJ11.out; have := HJ21.out; have := HJ23.out; have := HJ26.out; have := HJ28.out; first | omega | exact Nat.le_refl _⟩, ⟨xW HB⟩⟩
               ·as_aux_lemma =>
                rw [if_neg c63] at H
                have c63b0 : decide ((ji62) < 0) = false := decide_eq_false c63
                clear c63
                (first | rw [c63b0] | (simp only [i64_w, i32_w]; rw [c63b0]) | skip)
                obtain ⟨ji64, hji64⟩ : ∃ j_ : Int, (mx a2 a3) = j_ := ⟨_, rfl⟩
                replace H : (if (ji64) ≥ a0 then (gamehalllaw3_RobinMeets.j7 kj28 a1 a2 a3 t155 t156 (wrap64 (a0 + (Int.tmod a0 2))) true) else (gamehalllaw3_RobinMeets.j7 kj28 a1 a2 a3 t155 t156 (wrap64 (a0 + (Int.tmod a0 2))) (a2 == a3))) = some r := by first | (rw [hji64] at H; exact H) | (simp only [hji64] at H ⊢; exact H)
                have hji64_ : (if a2 < a3 then a3 else a2) = ji64 := hji64
                by_cases c65 : (ji64) ≥ a0
                ·rw [if_pos c65] at H
                 have c65b0 : decide (a0 ≤ (ji64)) = true := decide_eq_true c65
                 clear c65
                 as_aux_lemma =>
                  have H' := Aside0.mk H
                  clear H
                  go_wp2
                  go_meet
                  case rel => exact ⟨_, (true), (xrf), H', ⟨by have := HJ11.out; have := HJ21.out; have := HJ23.out; have := HJ26.out; have := HJ28.out; first | omega | exact Nat.le_refl _⟩, ⟨xW HB⟩⟩
                ·rw [if_neg c65] at H
                 have c65b0 : decide (a0 ≤ (ji64)) = false := decide_eq_false c65
                 clear c65
                 as_aux_lemma =>
                  have H' := Aside0.mk H
                  clear H
                  go_wp2
                  go_meet
                  case rel => exact ⟨_, ((a2 == a3)), (xrf), H', ⟨by have := HJ11.out; have := HJ21.out; have := HJ23.out; have := HJ26.out; have := HJ28.out; first | omega | exact Nat.le_refl _⟩, ⟨xW HB⟩⟩
              case rest =>
               as_aux_lemma =>
               clear HC61
               try clear c1
               try clear p1
               try clear q1
               try clear hx1
               try clear c2
               try clear p2
               try clear c3
               try clear c4
               try clear c5
               try clear c6
               try clear p6
               try clear c7
               try clear c8
               try clear c15
               try clear c15b0
               try clear p15
               try clear q15
               try clear hx15
               try clear c16
               try clear c17
               try clear c17b0
               try clear c17b1
               try clear c18
               try clear c18b0
               try clear c18b1
               try clear c19
               try clear c19b0
               try clear c19b1
               try clear c20
               try clear c20b0
               try clear c20b1
               try clear c23
               try clear c25
               try clear c25b0
               try clear c25b1
               try clear c26
               try clear c28
               try clear c28b0
               try clear c29
               try clear c30
               try clear c31
               try clear c31b0
               try clear c31b1
               try clear c32
               try clear c32b0
               try clear c32b1
               try clear c33
               try clear c33b0
               try clear c33b1
               try clear c34
               try clear c37
               try clear c37b0
               try clear c37b1
               try clear c38
               try clear c38b0
               try clear c38b1
               try clear c39
               try clear c39b0
               try clear c39b1
               try clear c42
               try clear c44
               try clear c44b0
               try clear c45
               try clear c45b0
               try clear c46
               try clear c46b0
               try clear c48
               try clear c48b0
               try clear c48b1
               try clear c49
               try clear c49b0
               try clear c49b1
               try clear c50
               try clear c50b0
               try clear c50b1
               try clear c50b2
               try clear c57
               try clear c57b0
               try clear c57b1
               try clear c59
               try clear c59b0
               try clear c59b1
               try clear c60
               try clear c60b0
               try clear c60b1
               try clear c63
               try clear c63b0
               try clear p64
               try clear c65
               try clear c65b0
               try clear hcz52_0
               try clear hcz54_0
               try clear hcz56_0
               try clear hx157_0
               try clear hx157_1
               try clear p1
               try clear p15
               try clear p157
               try clear p2
               try clear p6
               try clear q1
               try clear q15
               try clear q157
               obtain ⟨kq, x214_60, rfl, HA, HJ60, HB⟩ := hcut
               cases kq with
               | zero => exact absurd HA.out (by simp [gamehalllaw3_RobinMeets.j7])
               | succ kj60 =>
                have H := HA.out
                clear HA
                simp only [gamehalllaw3_RobinMeets.j7] at H
                by_cases c66 : x214_60 = true
                ·subst c66
                 have H1 : (if t156 = 1 then (some (t155 == 0)) else (some false)) = some r := by rw [if_pos rfl] at H; exact H
                 clear H
                 have H := H1
                 clear H1
                 by_cases c67 : t156 = 1
                 ·rw [if_pos c67] at H
                  have c67b0 : (t156 == 1) = true := beq_iff_eq.mpr c67
                  have c67b1 : (t156 != 1) = false := bne_eq_false_iff_eq.mpr c67
                  clear c67
                  as_aux_lemma =>
                   obtain rfl := Option.some.inj H
                   go_wp2
                   go_ret
                   exact ⟨xer, xW HB⟩
                 ·rw [if_neg c67] at H
                  have c67b0 : (t156 == 1) = false := beq_eq_false_iff_ne.mpr c67
                  have c67b1 : (t156 != 1) = true := bne_iff_ne.mpr c67
                  as_aux_lemma =>
                   obtain rfl := Option.some.inj H
                   go_wp2
                   go_ret
                   exact ⟨xer, xW HB⟩
                ·replace c66 := Bool.eq_false_iff.mpr c66
                 subst c66
                 have H1 : ((gamehallref3_Round.f kj60 (wrap64 (a0 + (Int.tmod a0 2))) a2 a3).bind fun bt163 => (if a1 = true then (if bt163.2 = true then (if t156 = 0 then (some (t155 == bt163.1)) else (some false)) else (if t156 = 0 then (some (t155 == (wrap64 (bt163.1 + (wrap64 ((wrap64 (a0 + (Int.tmod a0 2))) - 1)))))) else (some false))) else (if t156 = 0 then (some (t155 == bt163.1)) else (some false)))) = some r := by rw [if_neg (show ¬ (false = true) by decide)] at H; exact H
                 clear H
                 have H := H1
                 clear H1
                 replace H := Option.bind_eq_some_iff.mp H
                 obtain ⟨⟨t163, t164⟩, A680, H⟩ := H
                 replace H : (if a1 = true then (if t164 = true then (if t156 = 0 then (some (t155 == t163)) else (some false)) else (if t156 = 0 then (some (t155 == (wrap64 (t163 + (wrap64 ((wrap64 (a0 + (Int.tmod a0 2))) - 1)))))) else (some false))) else (if t156 = 0 then (some (t155 == t163)) else (some false))) = some r := H
                 have A68 := Aside0.mk A680
                 clear A680
                 by_cases c69 : a1 = true
                 ·subst c69
                  have H1 : (if t164 = true then (if t156 = 0 then (some (t155 == t163)) else (some false)) else (if t156 = 0 then (some (t155 == (wrap64 (t163 + (wrap64 ((wrap64 (a0 + (Int.tmod a0 2))) - 1)))))) else (some false))) = some r := by rw [if_pos rfl] at H; exact H
                  clear H
                  have H := H1
                  clear H1
                  by_cases c70 : t164 = true
                  ·subst c70
                   have H1 : (if t156 = 0 then (some (t155 == t163)) else (some false)) = some r := by rw [if_pos rfl] at H; exact H
                   clear H
                   have H := H1
                   clear H1
                   by_cases c71 : t156 = 0
                   ·rw [if_pos c71] at H
                    have c71b0 : (t156 == 0) = true := beq_iff_eq.mpr c71
                    have c71b1 : (t156 != 0) = false := bne_eq_false_iff_eq.mpr c71
                    clear c71
                    as_aux_lemma =>
                     obtain rfl := Option.some.inj H
                     go_wp2_with (first | ((with_reducible refine gate_callee (f := 34) rfl ?_); refine goesL_ (some 225) rfl rfl Try.func34 (by kernel_rfl) rfl #[.int .i64 (wrap64 (a0 + (Int.tmod a0 2))), .int .i64 a2, .int .i64 a3] rfl (by (try simp only [List.map_toArray, List.map_cons, List.map_nil]); first | done | rfl | (simp only [List.length_drop, List.length_take]; rfl)) ?_; (with_reducible refine (gamehallref3_Round.calls kj60 (wrap64 (a0 + (Int.tmod a0 2))) a2 a3 t163 true _ A68.out).mono ?_); rintro e w' ⟨rfl, ⟨nd, rfl⟩⟩; refine ⟨_, rfl, ?_⟩))
                     go_ret
                     exact ⟨xer, xW HB⟩
                   ·rw [if_neg c71] at H
                    have c71b0 : (t156 == 0) = false := beq_eq_false_iff_ne.mpr c71
                    have c71b1 : (t156 != 0) = true := bne_iff_ne.mpr c71
                    as_aux_lemma =>
                     obtain rfl := Option.some.inj H
                     go_wp2_with (first | ((with_reducible refine gate_callee (f := 34) rfl ?_); refine goesL_ (some 225) rfl rfl Try.func34 (by kernel_rfl) rfl #[.int .i64 (wrap64 (a0 + (Int.tmod a0 2))), .int .i64 a2, .int .i64 a3] rfl (by (try simp only [List.map_toArray, List.map_cons, List.map_nil]); first | done | rfl | (simp only [List.length_drop, List.length_take]; rfl)) ?_; (with_reducible refine (gamehallref3_Round.calls kj60 (wrap64 (a0 + (Int.tmod a0 2))) a2 a3 t163 true _ A68.out).mono ?_); rintro e w' ⟨rfl, ⟨nd, rfl⟩⟩; refine ⟨_, rfl, ?_⟩))
                     go_ret
                     exact ⟨xer, xW HB⟩
                  ·replace c70 := Bool.eq_false_iff.mpr c70
                   subst c70
                   have H1 : (if t156 = 0 then (some (t155 == (wrap64 (t163 + (wrap64 ((wrap64 (a0 + (Int.tmod a0 2))) - 1)))))) else (some false)) = some r := by rw [if_neg (show ¬ (false = true) by decide)] at H; exact H
                   clear H
                   have H := H1
                   clear H1
                   by_cases c72 : t156 = 0
                   ·rw [if_pos c72] at H
                    have c72b0 : (t156 == 0) = true := beq_iff_eq.mpr c72
                    have c72b1 : (t156 != 0) = false := bne_eq_false_iff_eq.mpr c72
                    clear c72
                    as_aux_lemma =>
                     obtain rfl := Option.some.inj H
                     go_wp2_with (first | ((with_reducible refine gate_callee (f := 34) rfl ?_); refine goesL_ (some 225) rfl rfl Try.func34 (by kernel_rfl) rfl #[.int .i64 (wrap64 (a0 + (Int.tmod a0 2))), .int .i64 a2, .int .i64 a3] rfl (by (try simp only [List.map_toArray, List.map_cons, List.map_nil]); first | done | rfl | (simp only [List.length_drop, List.length_take]; rfl)) ?_; (with_reducible refine (gamehallref3_Round.calls kj60 (wrap64 (a0 + (Int.tmod a0 2))) a2 a3 t163 false _ A68.out).mono ?_); rintro e w' ⟨rfl, ⟨nd, rfl⟩⟩; refine ⟨_, rfl, ?_⟩))
                     go_ret
                     exact ⟨xer, xW HB⟩
                   ·rw [if_neg c72] at H
                    have c72b0 : (t156 == 0) = false := beq_eq_false_iff_ne.mpr c72
                    have c72b1 : (t156 != 0) = true := bne_iff_ne.mpr c72
                    as_aux_lemma =>
                     obtain rfl := Option.some.inj H
                     go_wp2_with (first | ((with_reducible refine gate_callee (f := 34) rfl ?_); refine goesL_ (some 225) rfl rfl Try.func34 (by kernel_rfl) rfl #[.int .i64 (wrap64 (a0 + (Int.tmod a0 2))), .int .i64 a2, .int .i64 a3] rfl (by (try simp only [List.map_toArray, List.map_cons, List.map_nil]); first | done | rfl | (simp only [List.length_drop, List.length_take]; rfl)) ?_; (with_reducible refine (gamehallref3_Round.calls kj60 (wrap64 (a0 + (Int.tmod a0 2))) a2 a3 t163 false _ A68.out).mono ?_); rintro e w' ⟨rfl, ⟨nd, rfl⟩⟩; refine ⟨_, rfl, ?_⟩))
                     go_ret
                     exact ⟨xer, xW HB⟩
                 ·replace c69 := Bool.eq_false_iff.mpr c69
                  subst c69
                  have H1 : (if t156 = 0 then (some (t155 == t163)) else (some false)) = some r := by rw [if_neg (show ¬ (false = true) by decide)] at H; exact H
                  clear H
                  have H := H1
                  clear H1
                  by_cases c73 : t156 = 0
                  ·rw [if_pos c73] at H
                   have c73b0 : (t156 == 0) = true := beq_iff_eq.mpr c73
                   have c73b1 : (t156 != 0) = false := bne_eq_false_iff_eq.mpr c73
                   clear c73
                   as_aux_lemma =>
                    obtain rfl := Option.some.inj H
                    go_wp2_with (first | ((with_reducible refine gate_callee (f := 34) rfl ?_); refine goesL_ (some 225) rfl rfl Try.func34 (by kernel_rfl) rfl #[.int .i64 (wrap64 (a0 + (Int.tmod a0 2))), .int .i64 a2, .int .i64 a3] rfl (by (try simp only [List.map_toArray, List.map_cons, List.map_nil]); first | done | rfl | (simp only [List.length_drop, List.length_take]; rfl)) ?_; (with_reducible refine (gamehallref3_Round.calls kj60 (wrap64 (a0 + (Int.tmod a0 2))) a2 a3 t163 t164 _ A68.out).mono ?_); rintro e w' ⟨rfl, ⟨nd, rfl⟩⟩; refine ⟨_, rfl, ?_⟩))
                    go_ret
                    exact ⟨xer, xW HB⟩
                  ·rw [if_neg c73] at H
                   have c73b0 : (t156 == 0) = false := beq_eq_false_iff_ne.mpr c73
                   have c73b1 : (t156 != 0) = true := bne_iff_ne.mpr c73
                   as_aux_lemma =>
                    obtain rfl := Option.some.inj H
                    go_wp2_with (first | ((with_reducible refine gate_callee (f := 34) rfl ?_); refine goesL_ (some 225) rfl rfl Try.func34 (by kernel_rfl) rfl #[.int .i64 (wrap64 (a0 + (Int.tmod a0 2))), .int .i64 a2, .int .i64 a3] rfl (by (try simp only [List.map_toArray, List.map_cons, List.map_nil]); first | done | rfl | (simp only [List.length_drop, List.length_take]; rfl)) ?_; (with_reducible refine (gamehallref3_Round.calls kj60 (wrap64 (a0 + (Int.tmod a0 2))) a2 a3 t163 t164 _ A68.out).mono ?_); rintro e w' ⟨rfl, ⟨nd, rfl⟩⟩; refine ⟨_, rfl, ?_⟩))
                    go_ret
                    exact ⟨xer, xW HB⟩
 ·replace c7 := Bool.eq_false_iff.mpr c7
  subst c7
  have H1 : (some false) = some r := by rw [if_neg (show ¬ (false = true) by decide)] at H; exact H
  clear H
  have H := H1
  clear H1
  as_aux_lemma =>
   obtain rfl := Option.some.inj H
   go_enter Try.func8, Try.ntmps8
   go_wp2_with (first | ((with_reducible refine gate_callee (f := 29) rfl ?_); refine goesL_ (some 29) rfl rfl Try.func29 (by kernel_rfl) rfl #[] rfl (by (try simp only [List.map_toArray, List.map_cons, List.map_nil]); first | done | rfl | (simp only [List.length_drop, List.length_take]; rfl)) ?_; (with_reducible refine (gamehalllaw3_rounds.calls k  false _ A6.out).mono ?_); rintro e w' ⟨rfl, ⟨nd, rfl⟩⟩; refine ⟨_, rfl, ?_⟩))
   go_ret
   exact ⟨xer, xW HB⟩

/-- THE ONE PURE STATEMENT of gamehalllaw3_RobinMeets: yours. -/
def gamehalllaw3_RobinMeets.Pure : Prop := ∀ (a0 : Int) (a1 : Bool) (a2 : Int) (a3 : Int) (a4 : Int), (Lit.int .i64 a0).wf = true → (Lit.int .i64 a2).wf = true → (Lit.int .i64 a3).wf = true → (Lit.int .i64 a4).wf = true → ∃ k, gamehalllaw3_RobinMeets.f k a0 a1 a2 a3 a4 = some true
theorem gamehalllaw3_RobinMeets.walk (P : gamehalllaw3_RobinMeets.Pure) (a0 : Int) (a1 : Bool) (a2 : Int) (a3 : Int) (a4 : Int) (w : World) (w0 : (Lit.int .i64 a0).wf = true) (w2 : (Lit.int .i64 a2).wf = true) (w3 : (Lit.int .i64 a3).wf = true) (w4 : (Lit.int .i64 a4).wf = true) :
  Calls Try.prog 8 #[.int .i64 a0, .bool a1, .int .i64 a2, .int .i64 a3, .int .i64 a4] w fun e w' => e = .returned (.bool true) ∧ Below w.heap.size w w' := by
 obtain ⟨k, h⟩ := P a0 a1 a2 a3 a4 w0 w2 w3 w4
 refine (gamehalllaw3_RobinMeets.calls k a0 a1 a2 a3 a4 true w h).mono ?_
 rintro e w' ⟨rfl, hd⟩
 exact ⟨rfl, hd⟩

end Go.Proofs.Ytcncilipmekfhaa.PRobinMeets
