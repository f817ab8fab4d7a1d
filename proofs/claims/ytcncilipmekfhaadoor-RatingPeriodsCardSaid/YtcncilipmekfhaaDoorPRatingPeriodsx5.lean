-- Printed by a program of this claim's writer (wip/ext): an extension of the kit's print.
import Derived.Test.YtcncilipmekfhaaDoorPRatingPeriodsx0
import Derived.Test.YtcncilipmekfhaaDoorPRatingPeriodsx1
import Derived.Test.YtcncilipmekfhaaDoorPRatingPeriodsx3
import Derived.Test.YtcncilipmekfhaaDoorPRatingPeriodsx4
namespace Go.Proofs.YtcncilipmekfhaaDoor.PRatingPeriods
open Go.RowKit Go.Proofs.YtcncilipmekfhaaDoorW.PrintWords Go.Proofs.YtcncilipmekfhaaDoorW.PrintLast Go.Proofs.YtcncilipmekfhaaDoorW.PrintMore
attribute [local go_sem] max2_int min2_int max_two min_two max_three min_three max_four min_four   -- for this text's walks alone
set_option linter.unusedVariables false
set_option linter.unusedSimpArgs false

/-! ### gamehalllaw3_RatingPeriods: function 5 -/
mutual
def gamehalllaw3_RatingPeriods.j1 : Nat → List Int → List (S41) → Int → List Int → Int → Option (Bool)
  | 0, _, _, _, _, _ => none
  | k + 1, x0, x1, x2, x9, x10 => (some (([] : List Int) : List Int)).bind fun y174 => (if y174.length + x0.length < 17592186044416 then (gamehalllaw3_RatingPeriods.l0 k x0 x2 x9 x10 (y174 ++ x0) x1 (x1.length : Int) 0) else (none))
def gamehalllaw3_RatingPeriods.l0 : Nat → List Int → Int → List Int → Int → List Int → List (S41) → Int → Int → Option (Bool)
  | 0, _, _, _, _, _, _, _, _ => none
  | k + 1, x0, x2, x9, x10, x14, x118, x119, x120 => if x120 < x119 then (if 0 ≤ x120 then (if x120 < (x118.length : Int) then (if (mn ((rd_T41 x118 x120).f0) ((rd_T41 x118 x120).f1)) < 0 then (gamehalllaw3_RatingPeriods.j3 k x0 x2 x9 x10 x14 x118 x119 x120 true ((rd_T41 x118 x120).f0) ((rd_T41 x118 x120).f1) ((rd_T41 x118 x120).f2)) else (if (mx ((rd_T41 x118 x120).f0) ((rd_T41 x118 x120).f1)) ≥ (x0.length : Int) then (gamehalllaw3_RatingPeriods.j3 k x0 x2 x9 x10 x14 x118 x119 x120 true ((rd_T41 x118 x120).f0) ((rd_T41 x118 x120).f1) ((rd_T41 x118 x120).f2)) else (gamehalllaw3_RatingPeriods.j3 k x0 x2 x9 x10 x14 x118 x119 x120 (((rd_T41 x118 x120).f0) == ((rd_T41 x118 x120).f1)) ((rd_T41 x118 x120).f0) ((rd_T41 x118 x120).f1) ((rd_T41 x118 x120).f2)))) else (none)) else (none)) else ((rating_Check.f k x14).bind fun t189 => (if t189 = 0 then (if x10 = 0 then ((gamehalllaw3_sameInts.f k x9 x14).bind fun t190 => (some t190)) else (some false)) else (if x10 = t189 then (some ((x9.length : Int) == 0)) else (some false))))
def gamehalllaw3_RatingPeriods.j3 : Nat → List Int → Int → List Int → Int → List Int → List (S41) → Int → Int → Bool → Int → Int → Int → Option (Bool)
  | 0, _, _, _, _, _, _, _, _, _, _, _, _ => none
  | k + 1, x0, x2, x9, x10, x14, x118, x119, x120, x124, x182000, x182001, x182002 => if x124 = true then (if x10 = 3 then (some ((x9.length : Int) == 0)) else (some false)) else (if x182002 < 0 then (gamehalllaw3_RatingPeriods.j4 k x0 x2 x9 x10 x14 x118 x119 x120 true x182000 x182001 x182002) else (gamehalllaw3_RatingPeriods.j4 k x0 x2 x9 x10 x14 x118 x119 x120 (decide (x182002 > 2)) x182000 x182001 x182002))
def gamehalllaw3_RatingPeriods.j4 : Nat → List Int → Int → List Int → Int → List Int → List (S41) → Int → Int → Bool → Int → Int → Int → Option (Bool)
  | 0, _, _, _, _, _, _, _, _, _, _, _, _ => none
  | k + 1, x0, x2, x9, x10, x14, x118, x119, x120, x155, x182000, x182001, x182002 => if x155 = true then (if x10 = 1 then (some ((x9.length : Int) == 0)) else (some false)) else (if x2 < 1 then (if x10 = 4 then (some ((x9.length : Int) == 0)) else (some false)) else (if x2 > 64 then (if x10 = 4 then (some ((x9.length : Int) == 0)) else (some false)) else (if 0 ≤ x182000 then (if x182000 < (x0.length : Int) then (if 0 ≤ x182001 then (if x182001 < (x0.length : Int) then ((gamehallref3_Hundredths.f k (wrap64 ((rd x0 x182000) - (rd x0 x182001)))).bind fun t184 => (if x182000 < (x14.length : Int) then ((some (x14.set (x182000 : Int).toNat (wrap64 ((rd x14 x182000) + (wrap64 (x2 * (wrap64 ((wrap64 (50 * x182002)) - t184)))))) : List Int)).bind fun y186 => (if x182001 < (x14.length : Int) then (gamehalllaw3_RatingPeriods.l0 k x0 x2 x9 x10 (y186.set (x182001 : Int).toNat (wrap64 ((rd y186 x182001) - (wrap64 (x2 * (wrap64 ((wrap64 (50 * x182002)) - t184))))))) x118 x119 (wrap64 (x120 + 1))) else (none))) else (none))) else (none)) else (none)) else (none)) else (none))))
def gamehalllaw3_RatingPeriods.j0 : Nat → List Int → List (S41) → Int → Int → List Int → Int → Int → Int → Bool → Option (Bool)
  | 0, _, _, _, _, _, _, _, _, _ => none
  | k + 1, x0, x1, x2, x3, x9, x10, x11, x12, x72 => if x72 = true then (if x12 = 1 then (if x11 = 0 then (gamehalllaw3_RatingPeriods.j1 k x0 x1 x2 x9 x10) else (some false)) else (some false)) else (if x12 = 0 then (if (Int.tmod x11 100) = 0 then ((gamehalllaw3_gets.f k x0 x11).bind fun t171 => (if t171 > (wrap64 (50 * x3)) then (some false) else (if x11 < 1000000 then ((gamehalllaw3_gets.f k x0 (wrap64 (x11 + 100))).bind fun t172 => (if t172 ≤ (wrap64 (50 * x3)) then (some false) else (gamehalllaw3_RatingPeriods.j1 k x0 x1 x2 x9 x10))) else (gamehalllaw3_RatingPeriods.j1 k x0 x1 x2 x9 x10)))) else (some false)) else (if x12 = 8 then ((gamehalllaw3_gets.f k x0 (-1000000)).bind fun t173 => (if t173 ≤ (wrap64 (50 * x3)) then (some false) else (gamehalllaw3_RatingPeriods.j1 k x0 x1 x2 x9 x10))) else (some false)))
end
def gamehalllaw3_RatingPeriods.f (k : Nat) (l0 : List Int) (l1 : List (S41)) (a2 : Int) (a3 : Int) : Option (Bool) := (gamehalllaw3_rates.f k).bind fun t155 => (if t155 = true then (if 0 ≤ (mn (l0.length : Int) 12) then (if (mn (l0.length : Int) 12) ≤ (l0.length : Int) then ((some (l0.take ((mn (l0.length : Int) 12) : Int).toNat : List Int)).bind fun y156 => (if 0 ≤ (mn (l1.length : Int) 30) then (if (mn (l1.length : Int) 30) ≤ (l1.length : Int) then ((some (l1.take ((mn (l1.length : Int) 30) : Int).toNat : List (S41))).bind fun y160 => ((rating_Period.f k y156 y160 a2).bind fun bt164 => ((rating_Performance.f k y156 a3).bind fun bt168 => ((rating_Check.f k y156).bind fun t170 => (if t170 = 0 then (if a3 < 0 then (gamehalllaw3_RatingPeriods.j0 k y156 y160 a2 a3 bt164.1 bt164.2 bt168.1 bt168.2 true) else (gamehalllaw3_RatingPeriods.j0 k y156 y160 a2 a3 bt164.1 bt164.2 bt168.1 bt168.2 (decide (a3 > (wrap64 (2 * (y156.length : Int))))))) else (if bt164.2 = t170 then (if bt168.2 = t170 then (some ((wrap64 ((bt164.1.length : Int) + bt168.1)) == 0)) else (some false)) else (some false))))))) else (none)) else (none))) else (none)) else (none)) else (some false))
theorem gamehalllaw3_RatingPeriods.mono_l : ∀ k, (∀ y0 y1 y2 y3 y4, LeO (gamehalllaw3_RatingPeriods.j1 k y0 y1 y2 y3 y4) (gamehalllaw3_RatingPeriods.j1 (k + 1) y0 y1 y2 y3 y4)) ∧ (∀ y0 y1 y2 y3 y4 y5 y6 y7, LeO (gamehalllaw3_RatingPeriods.l0 k y0 y1 y2 y3 y4 y5 y6 y7) (gamehalllaw3_RatingPeriods.l0 (k + 1) y0 y1 y2 y3 y4 y5 y6 y7)) ∧ (∀ y0 y1 y2 y3 y4 y5 y6 y7 y8 y9 y10 y11, LeO (gamehalllaw3_RatingPeriods.j3 k y0 y1 y2 y3 y4 y5 y6 y7 y8 y9 y10 y11) (gamehalllaw3_RatingPeriods.j3 (k + 1) y0 y1 y2 y3 y4 y5 y6 y7 y8 y9 y10 y11)) ∧ (∀ y0 y1 y2 y3 y4 y5 y6 y7 y8 y9 y10 y11, LeO (gamehalllaw3_RatingPeriods.j4 k y0 y1 y2 y3 y4 y5 y6 y7 y8 y9 y10 y11) (gamehalllaw3_RatingPeriods.j4 (k + 1) y0 y1 y2 y3 y4 y5 y6 y7 y8 y9 y10 y11)) ∧ (∀ y0 y1 y2 y3 y4 y5 y6 y7 y8, LeO (gamehalllaw3_RatingPeriods.j0 k y0 y1 y2 y3 y4 y5 y6 y7 y8) (gamehalllaw3_RatingPeriods.j0 (k + 1) y0 y1 y2 y3 y4 y5 y6 y7 y8))
  | 0 => ⟨fun _ _ _ _ _ r h => by simp [gamehalllaw3_RatingPeriods.j1] at h, fun _ _ _ _ _ _ _ _ r h => by simp [gamehalllaw3_RatingPeriods.l0] at h, fun _ _ _ _ _ _ _ _ _ _ _ _ r h => by simp [gamehalllaw3_RatingPeriods.j3] at h, fun _ _ _ _ _ _ _ _ _ _ _ _ r h => by simp [gamehalllaw3_RatingPeriods.j4] at h, fun _ _ _ _ _ _ _ _ _ r h => by simp [gamehalllaw3_RatingPeriods.j0] at h⟩
  | k + 1 => by
    obtain ⟨ih0, ih1, ih2, ih3, ih4⟩ := gamehalllaw3_RatingPeriods.mono_l k
    refine ⟨?_, ?_, ?_, ?_, ?_⟩
    · intro y0 y1 y2 y3 y4
      unfold gamehalllaw3_RatingPeriods.j1
      repeat' first
      | (with_reducible exact ih0 _ _ _ _ _)
      | (with_reducible exact ih1 _ _ _ _ _ _ _ _)
      | (with_reducible exact ih2 _ _ _ _ _ _ _ _ _ _ _ _)
      | (with_reducible exact ih3 _ _ _ _ _ _ _ _ _ _ _ _)
      | (with_reducible exact ih4 _ _ _ _ _ _ _ _ _)
      | (with_reducible exact gamehalllaw3_gets.mono _ _ _)
      | (with_reducible exact gamehalllaw3_rates.mono _)
      | (with_reducible exact gamehalllaw3_sameInts.mono _ _ _)
      | (with_reducible exact gamehallref3_Hundredths.mono _ _)
      | (with_reducible exact rating_Check.mono _ _)
      | (with_reducible exact rating_Performance.mono _ _ _)
      | (with_reducible exact rating_Period.mono _ _ _ _)
      | (with_reducible exact LeO.refl _)
      | (with_reducible exact LeO.none _)
      | (with_reducible refine LeO.ite ?_ ?_)
      | (with_reducible refine LeO.bind ?_ (fun _ => ?_))
      | exact ih0 _ _ _ _ _
      | exact ih1 _ _ _ _ _ _ _ _
      | exact ih2 _ _ _ _ _ _ _ _ _ _ _ _
      | exact ih3 _ _ _ _ _ _ _ _ _ _ _ _
      | exact ih4 _ _ _ _ _ _ _ _ _
      | exact gamehalllaw3_gets.mono _ _ _
      | exact gamehalllaw3_rates.mono _
      | exact gamehalllaw3_sameInts.mono _ _ _
      | exact gamehallref3_Hundredths.mono _ _
      | exact rating_Check.mono _ _
      | exact rating_Performance.mono _ _ _
      | exact rating_Period.mono _ _ _ _
      | exact LeO.none _
      | refine LeO.ite ?_ ?_
      | refine LeO.bind ?_ (fun _ => ?_)
    · intro y0 y1 y2 y3 y4 y5 y6 y7
      unfold gamehalllaw3_RatingPeriods.l0
      repeat' first
      | (with_reducible exact ih0 _ _ _ _ _)
      | (with_reducible exact ih1 _ _ _ _ _ _ _ _)
      | (with_reducible exact ih2 _ _ _ _ _ _ _ _ _ _ _ _)
      | (with_reducible exact ih3 _ _ _ _ _ _ _ _ _ _ _ _)
      | (with_reducible exact ih4 _ _ _ _ _ _ _ _ _)
      | (with_reducible exact gamehalllaw3_gets.mono _ _ _)
      | (with_reducible exact gamehalllaw3_rates.mono _)
      | (with_reducible exact gamehalllaw3_sameInts.mono _ _ _)
      | (with_reducible exact gamehallref3_Hundredths.mono _ _)
      | (with_reducible exact rating_Check.mono _ _)
      | (with_reducible exact rating_Performance.mono _ _ _)
      | (with_reducible exact rating_Period.mono _ _ _ _)
      | (with_reducible exact LeO.refl _)
      | (with_reducible exact LeO.none _)
      | (with_reducible refine LeO.ite ?_ ?_)
      | (with_reducible refine LeO.bind ?_ (fun _ => ?_))
      | exact ih0 _ _ _ _ _
      | exact ih1 _ _ _ _ _ _ _ _
      | exact ih2 _ _ _ _ _ _ _ _ _ _ _ _
      | exact ih3 _ _ _ _ _ _ _ _ _ _ _ _
      | exact ih4 _ _ _ _ _ _ _ _ _
      | exact gamehalllaw3_gets.mono _ _ _
      | exact gamehalllaw3_rates.mono _
      | exact gamehalllaw3_sameInts.mono _ _ _
      | exact gamehallref3_Hundredths.mono _ _
      | exact rating_Check.mono _ _
      | exact rating_Performance.mono _ _ _
      | exact rating_Period.mono _ _ _ _
      | exact LeO.none _
      | refine LeO.ite ?_ ?_
      | refine LeO.bind ?_ (fun _ => ?_)
    · intro y0 y1 y2 y3 y4 y5 y6 y7 y8 y9 y10 y11
      unfold gamehalllaw3_RatingPeriods.j3
      repeat' first
      | (with_reducible exact ih0 _ _ _ _ _)
      | (with_reducible exact ih1 _ _ _ _ _ _ _ _)
      | (with_reducible exact ih2 _ _ _ _ _ _ _ _ _ _ _ _)
      | (with_reducible exact ih3 _ _ _ _ _ _ _ _ _ _ _ _)
      | (with_reducible exact ih4 _ _ _ _ _ _ _ _ _)
      | (with_reducible exact gamehalllaw3_gets.mono _ _ _)
      | (with_reducible exact gamehalllaw3_rates.mono _)
      | (with_reducible exact gamehalllaw3_sameInts.mono _ _ _)
      | (with_reducible exact gamehallref3_Hundredths.mono _ _)
      | (with_reducible exact rating_Check.mono _ _)
      | (with_reducible exact rating_Performance.mono _ _ _)
      | (with_reducible exact rating_Period.mono _ _ _ _)
      | (with_reducible exact LeO.refl _)
      | (with_reducible exact LeO.none _)
      | (with_reducible refine LeO.ite ?_ ?_)
      | (with_reducible refine LeO.bind ?_ (fun _ => ?_))
      | exact ih0 _ _ _ _ _
      | exact ih1 _ _ _ _ _ _ _ _
      | exact ih2 _ _ _ _ _ _ _ _ _ _ _ _
      | exact ih3 _ _ _ _ _ _ _ _ _ _ _ _
      | exact ih4 _ _ _ _ _ _ _ _ _
      | exact gamehalllaw3_gets.mono _ _ _
      | exact gamehalllaw3_rates.mono _
      | exact gamehalllaw3_sameInts.mono _ _ _
      | exact gamehallref3_Hundredths.mono _ _
      | exact rating_Check.mono _ _
      | exact rating_Performance.mono _ _ _
      | exact rating_Period.mono _ _ _ _
      | exact LeO.none _
      | refine LeO.ite ?_ ?_
      | refine LeO.bind ?_ (fun _ => ?_)
    · intro y0 y1 y2 y3 y4 y5 y6 y7 y8 y9 y10 y11
      unfold gamehalllaw3_RatingPeriods.j4
      repeat' first
      | (with_reducible exact ih0 _ _ _ _ _)
      | (with_reducible exact ih1 _ _ _ _ _ _ _ _)
      | (with_reducible exact ih2 _ _ _ _ _ _ _ _ _ _ _ _)
      | (with_reducible exact ih3 _ _ _ _ _ _ _ _ _ _ _ _)
      | (with_reducible exact ih4 _ _ _ _ _ _ _ _ _)
      | (with_reducible exact gamehalllaw3_gets.mono _ _ _)
      | (with_reducible exact gamehalllaw3_rates.mono _)
      | (with_reducible exact gamehalllaw3_sameInts.mono _ _ _)
      | (with_reducible exact gamehallref3_Hundredths.mono _ _)
      | (with_reducible exact rating_Check.mono _ _)
      | (with_reducible exact rating_Performance.mono _ _ _)
      | (with_reducible exact rating_Period.mono _ _ _ _)
      | (with_reducible exact LeO.refl _)
      | (with_reducible exact LeO.none _)
      | (with_reducible refine LeO.ite ?_ ?_)
      | (with_reducible refine LeO.bind ?_ (fun _ => ?_))
      | exact ih0 _ _ _ _ _
      | exact ih1 _ _ _ _ _ _ _ _
      | exact ih2 _ _ _ _ _ _ _ _ _ _ _ _
      | exact ih3 _ _ _ _ _ _ _ _ _ _ _ _
      | exact ih4 _ _ _ _ _ _ _ _ _
      | exact gamehalllaw3_gets.mono _ _ _
      | exact gamehalllaw3_rates.mono _
      | exact gamehalllaw3_sameInts.mono _ _ _
      | exact gamehallref3_Hundredths.mono _ _
      | exact rating_Check.mono _ _
      | exact rating_Performance.mono _ _ _
      | exact rating_Period.mono _ _ _ _
      | exact LeO.none _
      | refine LeO.ite ?_ ?_
      | refine LeO.bind ?_ (fun _ => ?_)
    · intro y0 y1 y2 y3 y4 y5 y6 y7 y8
      unfold gamehalllaw3_RatingPeriods.j0
      repeat' first
      | (with_reducible exact ih0 _ _ _ _ _)
      | (with_reducible exact ih1 _ _ _ _ _ _ _ _)
      | (with_reducible exact ih2 _ _ _ _ _ _ _ _ _ _ _ _)
      | (with_reducible exact ih3 _ _ _ _ _ _ _ _ _ _ _ _)
      | (with_reducible exact ih4 _ _ _ _ _ _ _ _ _)
      | (with_reducible exact gamehalllaw3_gets.mono _ _ _)
      | (with_reducible exact gamehalllaw3_rates.mono _)
      | (with_reducible exact gamehalllaw3_sameInts.mono _ _ _)
      | (with_reducible exact gamehallref3_Hundredths.mono _ _)
      | (with_reducible exact rating_Check.mono _ _)
      | (with_reducible exact rating_Performance.mono _ _ _)
      | (with_reducible exact rating_Period.mono _ _ _ _)
      | (with_reducible exact LeO.refl _)
      | (with_reducible exact LeO.none _)
      | (with_reducible refine LeO.ite ?_ ?_)
      | (with_reducible refine LeO.bind ?_ (fun _ => ?_))
      | exact ih0 _ _ _ _ _
      | exact ih1 _ _ _ _ _ _ _ _
      | exact ih2 _ _ _ _ _ _ _ _ _ _ _ _
      | exact ih3 _ _ _ _ _ _ _ _ _ _ _ _
      | exact ih4 _ _ _ _ _ _ _ _ _
      | exact gamehalllaw3_gets.mono _ _ _
      | exact gamehalllaw3_rates.mono _
      | exact gamehalllaw3_sameInts.mono _ _ _
      | exact gamehallref3_Hundredths.mono _ _
      | exact rating_Check.mono _ _
      | exact rating_Performance.mono _ _ _
      | exact rating_Period.mono _ _ _ _
      | exact LeO.none _
      | refine LeO.ite ?_ ?_
      | refine LeO.bind ?_ (fun _ => ?_)
theorem gamehalllaw3_RatingPeriods.mono : ∀ a0 a1 a2 a3 k, LeO (gamehalllaw3_RatingPeriods.f k a0 a1 a2 a3) (gamehalllaw3_RatingPeriods.f (k + 1) a0 a1 a2 a3) := by
  intro a0 a1 a2 a3 k
  obtain ⟨ih0, ih1, ih2, ih3, ih4⟩ := gamehalllaw3_RatingPeriods.mono_l k
  unfold gamehalllaw3_RatingPeriods.f
  repeat' first
      | (with_reducible exact ih0 _ _ _ _ _)
      | (with_reducible exact ih1 _ _ _ _ _ _ _ _)
      | (with_reducible exact ih2 _ _ _ _ _ _ _ _ _ _ _ _)
      | (with_reducible exact ih3 _ _ _ _ _ _ _ _ _ _ _ _)
      | (with_reducible exact ih4 _ _ _ _ _ _ _ _ _)
      | (with_reducible exact gamehalllaw3_gets.mono _ _ _)
      | (with_reducible exact gamehalllaw3_rates.mono _)
      | (with_reducible exact gamehalllaw3_sameInts.mono _ _ _)
      | (with_reducible exact gamehallref3_Hundredths.mono _ _)
      | (with_reducible exact rating_Check.mono _ _)
      | (with_reducible exact rating_Performance.mono _ _ _)
      | (with_reducible exact rating_Period.mono _ _ _ _)
      | (with_reducible exact LeO.refl _)
      | (with_reducible exact LeO.none _)
      | (with_reducible refine LeO.ite ?_ ?_)
      | (with_reducible refine LeO.bind ?_ (fun _ => ?_))
      | exact ih0 _ _ _ _ _
      | exact ih1 _ _ _ _ _ _ _ _
      | exact ih2 _ _ _ _ _ _ _ _ _ _ _ _
      | exact ih3 _ _ _ _ _ _ _ _ _ _ _ _
      | exact ih4 _ _ _ _ _ _ _ _ _
      | exact gamehalllaw3_gets.mono _ _ _
      | exact gamehalllaw3_rates.mono _
      | exact gamehalllaw3_sameInts.mono _ _ _
      | exact gamehallref3_Hundredths.mono _ _
      | exact rating_Check.mono _ _
      | exact rating_Performance.mono _ _ _
      | exact rating_Period.mono _ _ _ _
      | exact LeO.none _
      | refine LeO.ite ?_ ?_
      | refine LeO.bind ?_ (fun _ => ?_)
def gamehalllaw3_RatingPeriods.T3 : Bool × List (List Nat × List Nat) := (true, [([], []), ([], []), ([1], [1]), ([2], [2]), ([0, 3], [0, 3]), ([], []), ([], []), ([6], [6]), ([7], [7]), ([5, 8], [5, 8]), ([4, 0, 1, 2, 3, 4], [0, 1, 4]), ([9, 10, 0, 1, 2, 3, 4, 5, 6, 7, 8, 9, 10], [5, 6, 9])])
def gamehalllaw3_RatingPeriods.B3 : List Nat := [0, 0, 2, 6, 15, 0, 0, 64, 192, 480, 31, 2047]
theorem gamehalllaw3_RatingPeriods.tab3 : rtab .any (opsOf Tryd.f5 3) = gamehalllaw3_RatingPeriods.T3 := by kernel_rfl
theorem gamehalllaw3_RatingPeriods.bits3 : waitsOk gamehalllaw3_RatingPeriods.T3.2 gamehalllaw3_RatingPeriods.B3 = true := by kernel_rfl
def gamehalllaw3_RatingPeriods.T27 : Bool × List (List Nat × List Nat) := (true, [([], []), ([], []), ([1], [1]), ([2], [2]), ([], []), ([], []), ([5], [5]), ([4, 6], [4, 6]), ([7], [7]), ([], []), ([], []), ([10], [10]), ([9, 11], [9, 11]), ([12], [12]), ([8, 13], [8, 13]), ([14], [14]), ([3, 15], [3, 15]), ([0, 16], [0, 16]), ([17, 15, 0, 1, 2, 3, 4, 5, 6, 7, 8, 9, 10, 11, 12, 13, 14, 15, 16, 17], [17])])
def gamehalllaw3_RatingPeriods.B27 : List Nat := [0, 0, 2, 6, 0, 0, 32, 112, 240, 0, 0, 1024, 3584, 7680, 16368, 32752, 65534, 131071, 262143]
theorem gamehalllaw3_RatingPeriods.tab27 : rtab .any (opsOf Tryd.f5 27) = gamehalllaw3_RatingPeriods.T27 := by kernel_rfl
theorem gamehalllaw3_RatingPeriods.bits27 : waitsOk gamehalllaw3_RatingPeriods.T27.2 gamehalllaw3_RatingPeriods.B27 = true := by kernel_rfl
set_option maxHeartbeats 80000000 in
set_option maxRecDepth 100000 in
theorem gamehalllaw3_RatingPeriods.calls (k : Nat) (A0 : Option Addr) (c0 : Nat) (l0 : List Int) (A1 : Option Addr) (c1 : Nat) (l1 : List (S41)) (a2 : Int) (a3 : Int) (r : Bool) (w : World) (hr0 : Kd.C (Kd.int .i64) w A0 l0.length l0) (hc0 : l0.length ≤ c0) (hr1 : Kd.C k41 w A1 l1.length l1) (hc1 : l1.length ≤ c1) (h : gamehalllaw3_RatingPeriods.f k l0 l1 a2 a3 = some r) (hlaid : LaidS w) :
    Calls Tryd.prog 5 #[.slice A0 l0.length c0, .slice A1 l1.length c1, .int .i64 a2, .int .i64 a3] w fun e w' => e = .returned (.bool r) ∧ Below w.heap.size w w' := by
 have hu41 := Tryd.underlying41
 have HR0 := Aside0.mk hr0
 have HC0 := Aside0.mk hc0
 clear hr0 hc0
 have HR1 := Aside0.mk hr1
 have HC1 := Aside0.mk hc1
 clear hr1 hc1
 have HB := Aside0.mk (Below.refl w.heap.size w)
 have hss_ := @isSome_setCell
 have H : ((gamehalllaw3_rates.f k).bind fun t155 => (if t155 = true then (if 0 ≤ (mn (l0.length : Int) 12) then (if (mn (l0.length : Int) 12) ≤ (l0.length : Int) then ((some (l0.take ((mn (l0.length : Int) 12) : Int).toNat : List Int)).bind fun y156 => (if 0 ≤ (mn (l1.length : Int) 30) then (if (mn (l1.length : Int) 30) ≤ (l1.length : Int) then ((some (l1.take ((mn (l1.length : Int) 30) : Int).toNat : List (S41))).bind fun y160 => ((rating_Period.f k y156 y160 a2).bind fun bt164 => ((rating_Performance.f k y156 a3).bind fun bt168 => ((rating_Check.f k y156).bind fun t170 => (if t170 = 0 then (if a3 < 0 then (gamehalllaw3_RatingPeriods.j0 k y156 y160 a2 a3 bt164.1 bt164.2 bt168.1 bt168.2 true) else (gamehalllaw3_RatingPeriods.j0 k y156 y160 a2 a3 bt164.1 bt164.2 bt168.1 bt168.2 (decide (a3 > (wrap64 (2 * (y156.length : Int))))))) else (if bt164.2 = t170 then (if bt168.2 = t170 then (some ((wrap64 ((bt164.1.length : Int) + bt168.1)) == 0)) else (some false)) else (some false))))))) else (none)) else (none))) else (none)) else (none)) else (some false))) = some r := h
 clear h
 replace H := Option.bind_eq_some_iff.mp H
 obtain ⟨t155, A50, H⟩ := H
 replace H : (if t155 = true then (if 0 ≤ (mn (l0.length : Int) 12) then (if (mn (l0.length : Int) 12) ≤ (l0.length : Int) then ((some (l0.take ((mn (l0.length : Int) 12) : Int).toNat : List Int)).bind fun y156 => (if 0 ≤ (mn (l1.length : Int) 30) then (if (mn (l1.length : Int) 30) ≤ (l1.length : Int) then ((some (l1.take ((mn (l1.length : Int) 30) : Int).toNat : List (S41))).bind fun y160 => ((rating_Period.f k y156 y160 a2).bind fun bt164 => ((rating_Performance.f k y156 a3).bind fun bt168 => ((rating_Check.f k y156).bind fun t170 => (if t170 = 0 then (if a3 < 0 then (gamehalllaw3_RatingPeriods.j0 k y156 y160 a2 a3 bt164.1 bt164.2 bt168.1 bt168.2 true) else (gamehalllaw3_RatingPeriods.j0 k y156 y160 a2 a3 bt164.1 bt164.2 bt168.1 bt168.2 (decide (a3 > (wrap64 (2 * (y156.length : Int))))))) else (if bt164.2 = t170 then (if bt168.2 = t170 then (some ((wrap64 ((bt164.1.length : Int) + bt168.1)) == 0)) else (some false)) else (some false))))))) else (none)) else (none))) else (none)) else (none)) else (some false)) = some r := H
 have A5 := Aside0.mk A50
 clear A50
 by_cases c6 : t155 = true
 ·subst c6
  have H1 : (if 0 ≤ (mn (l0.length : Int) 12) then (if (mn (l0.length : Int) 12) ≤ (l0.length : Int) then ((some (l0.take ((mn (l0.length : Int) 12) : Int).toNat : List Int)).bind fun y156 => (if 0 ≤ (mn (l1.length : Int) 30) then (if (mn (l1.length : Int) 30) ≤ (l1.length : Int) then ((some (l1.take ((mn (l1.length : Int) 30) : Int).toNat : List (S41))).bind fun y160 => ((rating_Period.f k y156 y160 a2).bind fun bt164 => ((rating_Performance.f k y156 a3).bind fun bt168 => ((rating_Check.f k y156).bind fun t170 => (if t170 = 0 then (if a3 < 0 then (gamehalllaw3_RatingPeriods.j0 k y156 y160 a2 a3 bt164.1 bt164.2 bt168.1 bt168.2 true) else (gamehalllaw3_RatingPeriods.j0 k y156 y160 a2 a3 bt164.1 bt164.2 bt168.1 bt168.2 (decide (a3 > (wrap64 (2 * (y156.length : Int))))))) else (if bt164.2 = t170 then (if bt168.2 = t170 then (some ((wrap64 ((bt164.1.length : Int) + bt168.1)) == 0)) else (some false)) else (some false))))))) else (none)) else (none))) else (none)) else (none)) = some r := by rw [if_pos rfl] at H; exact H
  clear H
  have H := H1
  clear H1
  obtain ⟨ji7, hji7⟩ : ∃ j_ : Int, (mn (l0.length : Int) 12) = j_ := ⟨_, rfl⟩
  replace H : (if 0 ≤ (ji7) then (if (ji7) ≤ (l0.length : Int) then ((some (l0.take ((ji7) : Int).toNat : List Int)).bind fun y156 => (if 0 ≤ (mn (l1.length : Int) 30) then (if (mn (l1.length : Int) 30) ≤ (l1.length : Int) then ((some (l1.take ((mn (l1.length : Int) 30) : Int).toNat : List (S41))).bind fun y160 => ((rating_Period.f k y156 y160 a2).bind fun bt164 => ((rating_Performance.f k y156 a3).bind fun bt168 => ((rating_Check.f k y156).bind fun t170 => (if t170 = 0 then (if a3 < 0 then (gamehalllaw3_RatingPeriods.j0 k y156 y160 a2 a3 bt164.1 bt164.2 bt168.1 bt168.2 true) else (gamehalllaw3_RatingPeriods.j0 k y156 y160 a2 a3 bt164.1 bt164.2 bt168.1 bt168.2 (decide (a3 > (wrap64 (2 * (y156.length : Int))))))) else (if bt164.2 = t170 then (if bt168.2 = t170 then (some ((wrap64 ((bt164.1.length : Int) + bt168.1)) == 0)) else (some false)) else (some false))))))) else (none)) else (none))) else (none)) else (none)) = some r := by first | (rw [hji7] at H; exact H) | (simp only [hji7] at H ⊢; exact H)
  (try rw [hji7] at A5)
  (try (have hji7h : ji7 ≤ 12 := by (rw [← hji7]; unfold mn; (repeat' split) <;> omega)))
  (try (have hji7g : ji7 ≤ 64 := by omega))
  (try (have hji7l : 0 ≤ ji7 := by (rw [← hji7]; unfold mn; (repeat' split) <;> omega)))
  (try (have hji7m : 0 ≤ ji7 := by omega))
  have hji7_ : (if 12 < (l0.length : Int) then 12 else (l0.length : Int)) = ji7 := hji7
  by_cases c8 : 0 ≤ (ji7)
  ·as_aux_lemma =>
   rw [if_pos c8] at H
   have c8b0 := eq_true c8
   have c8b1 : decide (0 ≤ (ji7)) = true := decide_eq_true c8
   clear c8
   by_cases c9 : (ji7) ≤ (l0.length : Int)
   ·as_aux_lemma =>
    rw [if_pos c9] at H
    have c9b0 := eq_true c9
    have c9b1 : decide ((ji7) ≤ (l0.length : Int)) = true := decide_eq_true c9
    clear c9
    obtain ⟨y156, hy156⟩ : ∃ y_ : List Int, y_ = (l0.take ((ji7) : Int).toNat) := ⟨_, rfl⟩
    replace H : (if 0 ≤ (mn (l1.length : Int) 30) then (if (mn (l1.length : Int) 30) ≤ (l1.length : Int) then ((some (l1.take ((mn (l1.length : Int) 30) : Int).toNat : List (S41))).bind fun y160 => ((rating_Period.f k y156 y160 a2).bind fun bt164 => ((rating_Performance.f k y156 a3).bind fun bt168 => ((rating_Check.f k y156).bind fun t170 => (if t170 = 0 then (if a3 < 0 then (gamehalllaw3_RatingPeriods.j0 k y156 y160 a2 a3 bt164.1 bt164.2 bt168.1 bt168.2 true) else (gamehalllaw3_RatingPeriods.j0 k y156 y160 a2 a3 bt164.1 bt164.2 bt168.1 bt168.2 (decide (a3 > (wrap64 (2 * (y156.length : Int))))))) else (if bt164.2 = t170 then (if bt168.2 = t170 then (some ((wrap64 ((bt164.1.length : Int) + bt168.1)) == 0)) else (some false)) else (some false))))))) else (none)) else (none)) = some r := by first | (rw [hy156]; with_reducible exact H) | (have H2_ := (Option.bind_some _ _).symm.trans H; rw [hy156]; with_reducible exact H2_) | (have H2_ := (Option.bind_some _ _).symm.trans H; with_reducible exact H2_) | with_reducible exact H | (rw [hy156]; exact H) | exact H
    have Ny156 := Aside0.mk hy156
    clear hy156
    obtain ⟨ji10, hji10⟩ : ∃ j_ : Int, (mn (l1.length : Int) 30) = j_ := ⟨_, rfl⟩
    replace H : (if 0 ≤ (ji10) then (if (ji10) ≤ (l1.length : Int) then ((some (l1.take ((ji10) : Int).toNat : List (S41))).bind fun y160 => ((rating_Period.f k y156 y160 a2).bind fun bt164 => ((rating_Performance.f k y156 a3).bind fun bt168 => ((rating_Check.f k y156).bind fun t170 => (if t170 = 0 then (if a3 < 0 then (gamehalllaw3_RatingPeriods.j0 k y156 y160 a2 a3 bt164.1 bt164.2 bt168.1 bt168.2 true) else (gamehalllaw3_RatingPeriods.j0 k y156 y160 a2 a3 bt164.1 bt164.2 bt168.1 bt168.2 (decide (a3 > (wrap64 (2 * (y156.length : Int))))))) else (if bt164.2 = t170 then (if bt168.2 = t170 then (some ((wrap64 ((bt164.1.length : Int) + bt168.1)) == 0)) else (some false)) else (some false))))))) else (none)) else (none)) = some r := by first | (rw [hji10] at H; exact H) | (simp only [hji10] at H ⊢; exact H)
    (try rw [hji10] at A5)
    (try (have hji10h : ji10 ≤ 30 := by (rw [← hji10]; unfold mn; (repeat' split) <;> omega)))
    (try (have hji10g : ji10 ≤ 64 := by omega))
    (try (have hji10l : 0 ≤ ji10 := by (rw [← hji10]; unfold mn; (repeat' split) <;> omega)))
    (try (have hji10m : 0 ≤ ji10 := by omega))
    have hji10_ : (if 30 < (l1.length : Int) then 30 else (l1.length : Int)) = ji10 := hji10
    by_cases c11 : 0 ≤ (ji10)
    ·as_aux_lemma =>
     rw [if_pos c11] at H
     have c11b0 := eq_true c11
     have c11b1 : decide (0 ≤ (ji10)) = true := decide_eq_true c11
     clear c11
     by_cases c12 : (ji10) ≤ (l1.length : Int)
     ·as_aux_lemma =>
      rw [if_pos c12] at H
      have c12b0 := eq_true c12
      have c12b1 : decide ((ji10) ≤ (l1.length : Int)) = true := decide_eq_true c12
      clear c12
      obtain ⟨y160, hy160⟩ : ∃ y_ : List (S41), y_ = (l1.take ((ji10) : Int).toNat) := ⟨_, rfl⟩
      replace H : ((rating_Period.f k y156 y160 a2).bind fun bt164 => ((rating_Performance.f k y156 a3).bind fun bt168 => ((rating_Check.f k y156).bind fun t170 => (if t170 = 0 then (if a3 < 0 then (gamehalllaw3_RatingPeriods.j0 k y156 y160 a2 a3 bt164.1 bt164.2 bt168.1 bt168.2 true) else (gamehalllaw3_RatingPeriods.j0 k y156 y160 a2 a3 bt164.1 bt164.2 bt168.1 bt168.2 (decide (a3 > (wrap64 (2 * (y156.length : Int))))))) else (if bt164.2 = t170 then (if bt168.2 = t170 then (some ((wrap64 ((bt164.1.length : Int) + bt168.1)) == 0)) else (some false)) else (some false)))))) = some r := by first | (rw [hy160]; with_reducible exact H) | (have H2_ := (Option.bind_some _ _).symm.trans H; rw [hy160]; with_reducible exact H2_) | (have H2_ := (Option.bind_some _ _).symm.trans H; with_reducible exact H2_) | with_reducible exact H | (rw [hy160]; exact H) | exact H
      have Ny160 := Aside0.mk hy160
      clear hy160
      replace H := Option.bind_eq_some_iff.mp H
      obtain ⟨⟨t164, t165⟩, A130, H⟩ := H
      replace H : ((rating_Performance.f k y156 a3).bind fun bt168 => ((rating_Check.f k y156).bind fun t170 => (if t170 = 0 then (if a3 < 0 then (gamehalllaw3_RatingPeriods.j0 k y156 y160 a2 a3 t164 t165 bt168.1 bt168.2 true) else (gamehalllaw3_RatingPeriods.j0 k y156 y160 a2 a3 t164 t165 bt168.1 bt168.2 (decide (a3 > (wrap64 (2 * (y156.length : Int))))))) else (if t165 = t170 then (if bt168.2 = t170 then (some ((wrap64 ((t164.length : Int) + bt168.1)) == 0)) else (some false)) else (some false))))) = some r := H
      have A13 := Aside0.mk A130
      clear A130
      replace H := Option.bind_eq_some_iff.mp H
      obtain ⟨⟨t168, t169⟩, A140, H⟩ := H
      replace H : ((rating_Check.f k y156).bind fun t170 => (if t170 = 0 then (if a3 < 0 then (gamehalllaw3_RatingPeriods.j0 k y156 y160 a2 a3 t164 t165 t168 t169 true) else (gamehalllaw3_RatingPeriods.j0 k y156 y160 a2 a3 t164 t165 t168 t169 (decide (a3 > (wrap64 (2 * (y156.length : Int))))))) else (if t165 = t170 then (if t169 = t170 then (some ((wrap64 ((t164.length : Int) + t168)) == 0)) else (some false)) else (some false)))) = some r := H
      have A14 := Aside0.mk A140
      clear A140
      replace H := Option.bind_eq_some_iff.mp H
      obtain ⟨t170, A150, H⟩ := H
      replace H : (if t170 = 0 then (if a3 < 0 then (gamehalllaw3_RatingPeriods.j0 k y156 y160 a2 a3 t164 t165 t168 t169 true) else (gamehalllaw3_RatingPeriods.j0 k y156 y160 a2 a3 t164 t165 t168 t169 (decide (a3 > (wrap64 (2 * (y156.length : Int))))))) else (if t165 = t170 then (if t169 = t170 then (some ((wrap64 ((t164.length : Int) + t168)) == 0)) else (some false)) else (some false))) = some r := H
      have A15 := Aside0.mk A150
      clear A150
      by_cases c16 : t170 = 0
      ·as_aux_lemma =>
       rw [if_pos c16] at H
       have c16b0 : (t170 == 0) = true := beq_iff_eq.mpr c16
       have c16b1 : (t170 != 0) = false := bne_eq_false_iff_eq.mpr c16
       clear c16
       have HC17 := Aside0.mk H
       clear H
       go_enter Tryd.func5, Tryd.ntmps5
       try go_wp2_with (first | ((with_reducible refine gate_callee (f := 12) rfl ?_); refine goesL_ (some 19) rfl rfl Tryd.func12 (by kernel_rfl) rfl #[] rfl (by (try simp only [List.map_toArray, List.map_cons, List.map_nil]); first | done | rfl | (simp only [List.length_drop, List.length_take]; rfl)) ?_; (with_reducible refine (gamehalllaw3_rates.calls k  true _ A5.out ?sideL).mono ?_); (case sideL => exact xL hlaid); rintro e w' ⟨rfl, ⟨nd, rfl⟩⟩; refine ⟨_, rfl, ?_⟩))
       have n0_ := Aside0.mk (below_drew1 (pw_below_drewN HB.out nd))
       clear HB
       have HB := n0_
       clear n0_
       have q19 : ((ji7) : Int) ≤ ((l0.length : Int) : Int) := of_decide_eq_true (by first | (with_reducible assumption) | assumption)
       obtain ⟨i019, hi019, _, hsz19, _⟩ := info_parts info3
       have hroom19 : l0.length ≤ c0 := HC0.out
       have hC19 : Kd.C (Kd.int .i64) _ A0 l0.length l0 := HR0.out
       have hcut19 := cut_to (P := Tryd.prog) 22 3 .i64 Tryd.underlying22 hi019 A0 l0.length c0 (ji7) (of_decide_eq_true (by first | (with_reducible assumption) | assumption)) q19 hroom19
       have hr19 := Kd.C_take (m := ((ji7) : Int).toNat) hC19 (by omega)
       have hy19 : y156.length = ((ji7) : Int).toNat := (by rw [Ny156.out, List.length_take]; omega)
       rw [← Ny156.out] at hr19
       rw [← hy19] at hcut19
       have HR159 := Aside0.mk hr19
       have HC159 := Aside0.mk (show y156.length ≤ c0 from by omega)
       clear hr19 hC19 hroom19 hi019 hsz19
       have KY19 := Aside0.mk hy19
       clear hy19
       replace q19 := eq_true q19
       have q20 : ((ji10) : Int) ≤ ((l1.length : Int) : Int) := of_decide_eq_true (by first | (with_reducible assumption) | assumption)
       obtain ⟨i020, hi020, _, hsz20, _⟩ := info_parts info41
       have hroom20 : l1.length ≤ c1 := HC1.out
       have hC20 : Kd.C k41 _ A1 l1.length l1 := HR1.out
       have hcut20 := cut_to (P := Tryd.prog) 34 41 .i64 Tryd.underlying34 hi020 A1 l1.length c1 (ji10) (of_decide_eq_true (by first | (with_reducible assumption) | assumption)) q20 hroom20
       have hr20 := Kd.C_take (m := ((ji10) : Int).toNat) hC20 (by omega)
       have hy20 : y160.length = ((ji10) : Int).toNat := (by rw [Ny160.out, List.length_take]; omega)
       rw [← Ny160.out] at hr20
       rw [← hy20] at hcut20
       have HR163 := Aside0.mk hr20
       have HC163 := Aside0.mk (show y160.length ≤ c1 from by omega)
       clear hr20 hC20 hroom20 hi020 hsz20
       have KY20 := Aside0.mk hy20
       clear hy20
       replace q20 := eq_true q20
       refine start_ (n := 12) (S := fun w' => True) (ds := []) #[false, false, false, false, false, false, false, false, false, false, false, false] (by kernel_rfl) rfl rfl trivial (fun hHeld => ?_); refine with_tabW gamehalllaw3_RatingPeriods.tab3 gamehalllaw3_RatingPeriods.bits3 (fun HT_ HW_ => ?_)
       generalize (w.drewN nd).drew = w18 at HB HR159 HR163 hHeld ⊢
       refine pure_ (i := 0) (N := some 21) (v := ?_) (a' := ?_) #[true, false, false, false, false, false, false, false, false, false, false, false] rfl rfl (any_of HT_.out (by kernel_rfl)) (fun _ _ _ h => h) (Or.inl ⟨by rfl, ?_⟩) ?_ ?_
       rotate_left
       ·intro w'
        go_simp
        with_reducible rfl
       rotate_left
       ·simp only [Act.put, List.setIfInBounds_toArray, List.set_cons_zero, List.set_cons_succ, i64_w, i32_w]
        rfl
       refine pure_ (i := 1) (N := some 22) (v := ?_) (a' := ?_) #[true, true, false, false, false, false, false, false, false, false, false, false] rfl rfl (any_of HT_.out (by kernel_rfl)) (fun _ _ _ h => h) (Or.inl ⟨by rfl, ?_⟩) ?_ ?_
       rotate_left
       ·intro w'
        go_simp
        with_reducible rfl
       rotate_left
       ·simp only [Act.put, List.setIfInBounds_toArray, List.set_cons_zero, List.set_cons_succ, i64_w, i32_w]
        rfl
       refine pure_ (i := 2) (N := some 23) (v := ?_) (a' := ?_) #[true, true, true, false, false, false, false, false, false, false, false, false] rfl rfl (any_of HT_.out (by kernel_rfl)) (fun _ _ _ h => h) (Or.inl ⟨by rfl, ?_⟩) ?_ ?_
       rotate_left
       ·intro w'
        go_simp
        with_reducible rfl
       rotate_left
       ·simp only [Act.put, List.setIfInBounds_toArray, List.set_cons_zero, List.set_cons_succ, i64_w, i32_w]
        rfl
       refine pure_ (i := 3) (N := some 24) (v := ?_) (a' := ?_) #[true, true, true, true, false, false, false, false, false, false, false, false] rfl rfl (any_of HT_.out (by kernel_rfl)) (fun _ _ _ h => h) (Or.inl ⟨by rfl, ?_⟩) ?_ ?_
       rotate_left
       ·intro w'
        go_simp
        with_reducible rfl
       rotate_left
       ·simp only [Act.put, List.setIfInBounds_toArray, List.set_cons_zero, List.set_cons_succ, i64_w, i32_w]
        rfl
       refine pure_ (i := 4) (N := some 25) (v := ?_) (a' := ?_) #[true, true, true, true, true, false, false, false, false, false, false, false] rfl rfl (any_of HT_.out (by kernel_rfl)) (fun _ _ _ h => h) (Or.inl ⟨by rfl, ?_⟩) ?_ ?_
       rotate_left
       ·intro w'
        go_simp
        with_reducible rfl
       rotate_left
       ·simp only [Act.put, List.setIfInBounds_toArray, List.set_cons_zero, List.set_cons_succ, i64_w, i32_w]
        rfl
       refine pure_ (i := 5) (N := some 26) (v := ?_) (a' := ?_) #[true, true, true, true, true, true, false, false, false, false, false, false] rfl rfl (any_of HT_.out (by kernel_rfl)) (fun _ _ _ h => h) (Or.inl ⟨by rfl, ?_⟩) ?_ ?_
       rotate_left
       ·intro w'
        go_simp
        with_reducible rfl
       rotate_left
       ·simp only [Act.put, List.setIfInBounds_toArray, List.set_cons_zero, List.set_cons_succ, i64_w, i32_w]
        rfl
       refine pure_ (i := 6) (N := some 27) (v := ?_) (a' := ?_) #[true, true, true, true, true, true, true, false, false, false, false, false] rfl rfl (any_of HT_.out (by kernel_rfl)) (fun _ _ _ h => h) (Or.inl ⟨by rfl, ?_⟩) ?_ ?_
       rotate_left
       ·intro w'
        go_simp
        with_reducible rfl
       rotate_left
       ·simp only [Act.put, List.setIfInBounds_toArray, List.set_cons_zero, List.set_cons_succ, i64_w, i32_w]
        rfl
       refine pure_ (i := 7) (N := some 28) (v := ?_) (a' := ?_) #[true, true, true, true, true, true, true, true, false, false, false, false] rfl rfl (any_of HT_.out (by kernel_rfl)) (fun _ _ _ h => h) (Or.inl ⟨by rfl, ?_⟩) ?_ ?_
       rotate_left
       ·intro w'
        go_simp
        with_reducible rfl
       rotate_left
       ·simp only [Act.put, List.setIfInBounds_toArray, List.set_cons_zero, List.set_cons_succ, i64_w, i32_w]
        rfl
       refine pure_ (i := 8) (N := some 29) (v := ?_) (a' := ?_) #[true, true, true, true, true, true, true, true, true, false, false, false] rfl rfl (any_of HT_.out (by kernel_rfl)) (fun _ _ _ h => h) (Or.inl ⟨by rfl, ?_⟩) ?_ ?_
       rotate_left
       ·intro w'
        go_simp
        with_reducible rfl
       rotate_left
       ·simp only [Act.put, List.setIfInBounds_toArray, List.set_cons_zero, List.set_cons_succ, i64_w, i32_w]
        rfl
       refine pure_ (i := 9) (N := some 30) (v := ?_) (a' := ?_) #[true, true, true, true, true, true, true, true, true, true, false, false] rfl rfl (any_of HT_.out (by kernel_rfl)) (fun _ _ _ h => h) (Or.inl ⟨by rfl, ?_⟩) ?_ ?_
       rotate_left
       ·intro w'
        go_simp
        with_reducible rfl
       rotate_left
       ·simp only [Act.put, List.setIfInBounds_toArray, List.set_cons_zero, List.set_cons_succ, i64_w, i32_w]
        rfl
       refine pure_ (i := 10) (N := some 0) (v := ?_) (a' := ?_) #[true, true, true, true, true, true, true, true, true, true, true, false] rfl rfl (any_of HT_.out (by kernel_rfl)) (fun _ _ _ h => h) (Or.inl ⟨by rfl, ?_⟩) ?_ ?_
       rotate_left
       ·intro w'
        go_simp
        with_reducible rfl
       rotate_left
       ·simp only [Act.put, List.setIfInBounds_toArray, List.set_cons_zero, List.set_cons_succ, i64_w, i32_w]
        rfl
       refine pure_ (i := 11) (N := some 1) (v := ?_) (a' := ?_) #[true, true, true, true, true, true, true, true, true, true, true, true] rfl rfl (any_of HT_.out (by kernel_rfl)) (fun _ _ _ h => h) (Or.inl ⟨by rfl, ?_⟩) ?_ ?_
       rotate_left
       ·intro w'
        go_simp
        with_reducible rfl
       rotate_left
       ·simp only [Act.put, List.setIfInBounds_toArray, List.set_cons_zero, List.set_cons_succ, i64_w, i32_w]
        rfl
       refine done_ (done_of HT_.out (by kernel_rfl)) ?_
       go_upto_block 0 with (first | ((with_reducible refine gate_callee (f := 20) rfl ?_); refine goesL_ (some 35) rfl rfl Tryd.func20 (by kernel_rfl) rfl #[.slice A0 y156.length c0, .slice A1 y160.length c1, .int .i64 a2] rfl (by (try simp only [List.map_toArray, List.map_cons, List.map_nil]); first | done | rfl | (simp only [List.length_drop, List.length_take]; rfl)) ?_; (with_reducible refine (rating_Period.calls k _ _ y156 _ _ y160 a2 t164 t165 _ ?side1 ?side2 ?side3 ?side4 A13.out ?sideL).mono ?_); (case sideL => exact xL hlaid); (case side1 => exact xC (Kd.C_below HR159.out HB.out)); (case side2 => exact HC159.out); (case side3 => exact xC (Kd.C_below HR163.out HB.out)); (case side4 => exact HC163.out); rintro e w21 ⟨v166, rfl, ho0, hb⟩; refine ⟨_, rfl, ?_⟩; have HO167 := Aside0.mk (Kd.R_lower ho0 (below_size (xW HB))); replace HB := Aside0.mk (xS HB hb); (try clear hb); (try clear hb2); (try clear hk); (try clear hi); (try clear ho0)) | ((with_reducible refine gate_callee (f := 21) rfl ?_); refine goesL_ (some 41) rfl rfl Tryd.func21 (by kernel_rfl) rfl #[.slice A0 y156.length c0, .int .i64 a3] rfl (by (try simp only [List.map_toArray, List.map_cons, List.map_nil]); first | done | rfl | (simp only [List.length_drop, List.length_take]; rfl)) ?_; (with_reducible refine (rating_Performance.calls k _ _ y156 a3 t168 t169 _ ?side1 ?side2 A14.out ?sideL).mono ?_); (case sideL => exact xL hlaid); (case side1 => exact xC (Kd.C_below HR159.out HB.out)); (case side2 => exact HC159.out); rintro e w' ⟨rfl, ⟨nd, rfl⟩⟩; refine ⟨_, rfl, ?_⟩) | ((with_reducible refine gate_callee (f := 16) rfl ?_); refine goesL_ (some 45) rfl rfl Tryd.func16 (by kernel_rfl) rfl #[.slice A0 y156.length c0] rfl (by (try simp only [List.map_toArray, List.map_cons, List.map_nil]); first | done | rfl | (simp only [List.length_drop, List.length_take]; rfl)) ?_; (with_reducible refine (rating_Check.calls k _ _ y156 t170 _ ?side1 ?side2 A15.out).mono ?_); (case side1 => repeat (first | exact (Kd.C_below HR159.out (xW HB)) | (with_reducible refine Kd.C_alloc ?_ _) | (with_reducible refine Kd.C_drewN ?_ _) | (with_reducible refine Kd.C_drew ?_))); (case side2 => exact HC159.out); rintro e w' ⟨rfl, ⟨nd, rfl⟩⟩; refine ⟨_, rfl, ?_⟩))
       (try simp only [Act.put, List.setIfInBounds_toArray, List.set_cons_zero, List.set_cons_succ])
       go_cut [] (fun wc => ∃ (kq : Nat), Aside0 (gamehalllaw3_RatingPeriods.j1 kq y156 y160 a2 t164 t165 = some r) ∧ Aside0 (kq ≤ k) ∧ Aside0 (Kd.R (Kd.int .i64) 3 wc w.heap.size (fun _ => True) v166 t164) ∧ Aside0 (Below w.heap.size w wc))
       case first =>
        as_aux_lemma =>
        have H := HC17.out
        clear HC17
        have HC22 := Aside0.mk H
        clear H
        go_upto_region 11 with (fail)
        go_cut [72] (fun vs72 wc => ∃ (kq : Nat) (x72_21 : Bool), vs72 = .bool x72_21 ∧ Aside0 (gamehalllaw3_RatingPeriods.j0 kq y156 y160 a2 a3 t164 t165 t168 t169 x72_21 = some r) ∧ Aside0 (kq ≤ k) ∧ Aside0 (Kd.R (Kd.int .i64) 3 wc w.heap.size (fun _ => True) v166 t164) ∧ Aside0 (Below w.heap.size w wc))
        case first =>
         as_aux_lemma =>
         have H := HC22.out
         clear HC22
         by_cases c23 : a3 < 0
         ·rw [if_pos c23] at H
          have c23b0 : decide (a3 < 0) = true := decide_eq_true c23
          clear c23
          (first | rw [c23b0] | (simp only [i64_w, i32_w]; rw [c23b0]) | skip)
          as_aux_lemma =>
           have H' := Aside0.mk H
           clear H
           go_wp2
           go_meet
           case rel => exact ⟨_, (true), (xrf), H', ⟨by first | omega | exact Nat.le_refl _⟩, ⟨by (with_reducible repeat (first | apply Kd.R_alloc | apply Kd.R_drewN | apply Kd.R_drew)); exact HO167.out⟩, ⟨xW HB⟩⟩
         ·rw [if_neg c23] at H
          have c23b0 : decide (a3 < 0) = false := decide_eq_false c23
          clear c23
          (first | rw [c23b0] | (simp only [i64_w, i32_w]; rw [c23b0]) | skip)
          as_aux_lemma =>
           have H' := Aside0.mk H
           clear H
           go_wp2
           go_meet
           case rel => exact ⟨_, (decide (a3 > (wrap64 (2 * (y156.length : Int))))), (xrf), H', ⟨by first | omega | exact Nat.le_refl _⟩, ⟨by (with_reducible repeat (first | apply Kd.R_alloc | apply Kd.R_drewN | apply Kd.R_drew)); exact HO167.out⟩, ⟨xW HB⟩⟩
        case rest =>
         as_aux_lemma =>
         clear HC22
         try clear c1
         try clear q1
         try clear c2
         try clear p2
         try clear q2
         try clear c5
         try clear c6
         try clear p6
         try clear c8
         try clear c8b0
         try clear c8b1
         try clear c9
         try clear c9b0
         try clear c9b1
         try clear c11
         try clear c11b0
         try clear c11b1
         try clear c12
         try clear c12b0
         try clear c12b1
         try clear c16
         try clear c16b0
         try clear c16b1
         try clear q19
         try clear c20
         try clear q20
         try clear c21
         try clear c23
         try clear c23b0
         try clear q19
         try clear q20
         obtain ⟨kq, x72_21, rfl, HA, HJ21, HO_9, HB⟩ := hcut
         cases kq with
         | zero => exact absurd HA.out (by simp [gamehalllaw3_RatingPeriods.j0])
         | succ kj21 =>
          have H := HA.out
          clear HA
          simp only [gamehalllaw3_RatingPeriods.j0] at H
          by_cases c24 : x72_21 = true
          ·subst c24
           have H1 : (if t169 = 1 then (if t168 = 0 then (gamehalllaw3_RatingPeriods.j1 kj21 y156 y160 a2 t164 t165) else (some false)) else (some false)) = some r := by rw [if_pos rfl] at H; exact H
           clear H
           have H := H1
           clear H1
           by_cases c25 : t169 = 1
           ·as_aux_lemma =>
            rw [if_pos c25] at H
            have c25b0 : (t169 == 1) = true := beq_iff_eq.mpr c25
            have c25b1 : (t169 != 1) = false := bne_eq_false_iff_eq.mpr c25
            clear c25
            by_cases c26 : t168 = 0
            ·rw [if_pos c26] at H
             have c26b0 : (t168 == 0) = true := beq_iff_eq.mpr c26
             have c26b1 : (t168 != 0) = false := bne_eq_false_iff_eq.mpr c26
             clear c26
             as_aux_lemma =>
              have H' := Aside0.mk H
              clear H
              go_wp2
              go_meet
              case rel => exact ⟨_, H', ⟨by have := HJ21.out; first | omega | exact Nat.le_refl _⟩, ⟨by (with_reducible repeat (first | apply Kd.R_alloc | apply Kd.R_drewN | apply Kd.R_drew)); exact HO_9.out⟩, ⟨xW HB⟩⟩
            ·rw [if_neg c26] at H
             have c26b0 : (t168 == 0) = false := beq_eq_false_iff_ne.mpr c26
             have c26b1 : (t168 != 0) = true := bne_iff_ne.mpr c26
             as_aux_lemma =>
              obtain rfl := Option.some.inj H
              go_wp2
              go_ret
              exact ⟨by first | rfl | (simp [errW_none, errW_some] <;> rfl) | (simp only [← hji7, ← hji10]; first | rfl | (simp [errW_none, errW_some] <;> rfl)) | (simp [*, errW_none, errW_some] <;> rfl), xW HB⟩
           ·rw [if_neg c25] at H
            have c25b0 : (t169 == 1) = false := beq_eq_false_iff_ne.mpr c25
            have c25b1 : (t169 != 1) = true := bne_iff_ne.mpr c25
            as_aux_lemma =>
             obtain rfl := Option.some.inj H
             go_wp2
             go_ret
             exact ⟨by first | rfl | (simp [errW_none, errW_some] <;> rfl) | (simp only [← hji7, ← hji10]; first | rfl | (simp [errW_none, errW_some] <;> rfl)) | (simp [*, errW_none, errW_some] <;> rfl), xW HB⟩
          ·replace c24 := Bool.eq_false_iff.mpr c24
           subst c24
           have H1 : (if t169 = 0 then (if (Int.tmod t168 100) = 0 then ((gamehalllaw3_gets.f kj21 y156 t168).bind fun t171 => (if t171 > (wrap64 (50 * a3)) then (some false) else (if t168 < 1000000 then ((gamehalllaw3_gets.f kj21 y156 (wrap64 (t168 + 100))).bind fun t172 => (if t172 ≤ (wrap64 (50 * a3)) then (some false) else (gamehalllaw3_RatingPeriods.j1 kj21 y156 y160 a2 t164 t165))) else (gamehalllaw3_RatingPeriods.j1 kj21 y156 y160 a2 t164 t165)))) else (some false)) else (if t169 = 8 then ((gamehalllaw3_gets.f kj21 y156 (-1000000)).bind fun t173 => (if t173 ≤ (wrap64 (50 * a3)) then (some false) else (gamehalllaw3_RatingPeriods.j1 kj21 y156 y160 a2 t164 t165))) else (some false))) = some r := by rw [if_neg (show ¬ (false = true) by decide)] at H; exact H
           clear H
           have H := H1
           clear H1
           by_cases c27 : t169 = 0
           ·as_aux_lemma =>
            rw [if_pos c27] at H
            have c27b0 : (t169 == 0) = true := beq_iff_eq.mpr c27
            have c27b1 : (t169 != 0) = false := bne_eq_false_iff_eq.mpr c27
            clear c27
            by_cases c28 : (Int.tmod t168 100) = 0
            ·as_aux_lemma =>
             rw [if_pos c28] at H
             have c28b0 : ((Int.tmod t168 100) == 0) = true := beq_iff_eq.mpr c28
             have c28b1 : ((Int.tmod t168 100) != 0) = false := bne_eq_false_iff_eq.mpr c28
             clear c28
             replace H := Option.bind_eq_some_iff.mp H
             obtain ⟨t171, A290, H⟩ := H
             replace H : (if t171 > (wrap64 (50 * a3)) then (some false) else (if t168 < 1000000 then ((gamehalllaw3_gets.f kj21 y156 (wrap64 (t168 + 100))).bind fun t172 => (if t172 ≤ (wrap64 (50 * a3)) then (some false) else (gamehalllaw3_RatingPeriods.j1 kj21 y156 y160 a2 t164 t165))) else (gamehalllaw3_RatingPeriods.j1 kj21 y156 y160 a2 t164 t165))) = some r := H
             have A29 := Aside0.mk A290
             clear A290
             by_cases c30 : t171 > (wrap64 (50 * a3))
             ·rw [if_pos c30] at H
              have c30b0 : decide ((wrap64 (50 * a3)) < t171) = true := decide_eq_true c30
              clear c30
              as_aux_lemma =>
               obtain rfl := Option.some.inj H
               go_wp2_with (first | (go_at_call 22; (with_reducible refine (gamehalllaw3_gets.calls kj21 _ _ y156 t168 t171 _ ?side1 ?side2 A29.out).mono ?_); (case side1 => exact xC (Kd.C_below HR159.out HB.out)); (case side2 => exact HC159.out); rintro e w31 ⟨rfl, hb⟩; replace HO_9 := Aside0.mk (Kd.R_below (by (with_reducible repeat (first | apply Kd.R_alloc | apply Kd.R_drewN | apply Kd.R_drew)); exact HO_9.out) hb); replace HB := Aside0.mk (xS HB hb); (try clear hb); (try clear hb2); (try clear hk); (try clear hi)))
               go_ret
               exact ⟨by first | rfl | (simp [errW_none, errW_some] <;> rfl) | (simp only [← hji7, ← hji10]; first | rfl | (simp [errW_none, errW_some] <;> rfl)) | (simp [*, errW_none, errW_some] <;> rfl), xW HB⟩
             ·as_aux_lemma =>
              rw [if_neg c30] at H
              have c30b0 : decide ((wrap64 (50 * a3)) < t171) = false := decide_eq_false c30
              clear c30
              by_cases c32 : t168 < 1000000
              ·as_aux_lemma =>
               rw [if_pos c32] at H
               have c32b0 : decide (t168 < 1000000) = true := decide_eq_true c32
               clear c32
               replace H := Option.bind_eq_some_iff.mp H
               obtain ⟨t172, A330, H⟩ := H
               replace H : (if t172 ≤ (wrap64 (50 * a3)) then (some false) else (gamehalllaw3_RatingPeriods.j1 kj21 y156 y160 a2 t164 t165)) = some r := H
               have A33 := Aside0.mk A330
               clear A330
               by_cases c34 : t172 ≤ (wrap64 (50 * a3))
               ·rw [if_pos c34] at H
                have c34b0 : decide (t172 ≤ (wrap64 (50 * a3))) = true := decide_eq_true c34
                clear c34
                as_aux_lemma =>
                 obtain rfl := Option.some.inj H
                 go_wp2_with (first | (go_at_call 22; (with_reducible refine (gamehalllaw3_gets.calls kj21 _ _ y156 t168 t171 _ ?side1 ?side2 A29.out).mono ?_); (case side1 => exact xC (Kd.C_below HR159.out HB.out)); (case side2 => exact HC159.out); rintro e w35 ⟨rfl, hb⟩; replace HO_9 := Aside0.mk (Kd.R_below (by (with_reducible repeat (first | apply Kd.R_alloc | apply Kd.R_drewN | apply Kd.R_drew)); exact HO_9.out) hb); replace HB := Aside0.mk (xS HB hb); (try clear hb); (try clear hb2); (try clear hk); (try clear hi)) | (go_at_call 22; (with_reducible refine (gamehalllaw3_gets.calls kj21 _ _ y156 (wrap64 (t168 + 100)) t172 _ ?side1 ?side2 A33.out).mono ?_); (case side1 => exact xC (Kd.C_below HR159.out HB.out)); (case side2 => exact HC159.out); rintro e w36 ⟨rfl, hb⟩; replace HO_9 := Aside0.mk (Kd.R_below (by (with_reducible repeat (first | apply Kd.R_alloc | apply Kd.R_drewN | apply Kd.R_drew)); exact HO_9.out) hb); replace HB := Aside0.mk (xS HB hb); (try clear hb); (try clear hb2); (try clear hk); (try clear hi)))
                 go_ret
                 exact ⟨by first | rfl | (simp [errW_none, errW_some] <;> rfl) | (simp only [← hji7, ← hji10]; first | rfl | (simp [errW_none, errW_some] <;> rfl)) | (simp [*, errW_none, errW_some] <;> rfl), xW HB⟩
               ·rw [if_neg c34] at H
                have c34b0 : decide (t172 ≤ (wrap64 (50 * a3))) = false := decide_eq_false c34
                clear c34
                as_aux_lemma =>
                 have H' := Aside0.mk H
                 clear H
                 go_wp2_with (first | (go_at_call 22; (with_reducible refine (gamehalllaw3_gets.calls kj21 _ _ y156 t168 t171 _ ?side1 ?side2 A29.out).mono ?_); (case side1 => exact xC (Kd.C_below HR159.out HB.out)); (case side2 => exact HC159.out); rintro e w37 ⟨rfl, hb⟩; replace HO_9 := Aside0.mk (Kd.R_below (by (with_reducible repeat (first | apply Kd.R_alloc | apply Kd.R_drewN | apply Kd.R_drew)); exact HO_9.out) hb); replace HB := Aside0.mk (xS HB hb); (try clear hb); (try clear hb2); (try clear hk); (try clear hi)) | (go_at_call 22; (with_reducible refine (gamehalllaw3_gets.calls kj21 _ _ y156 (wrap64 (t168 + 100)) t172 _ ?side1 ?side2 A33.out).mono ?_); (case side1 => exact xC (Kd.C_below HR159.out HB.out)); (case side2 => exact HC159.out); rintro e w38 ⟨rfl, hb⟩; replace HO_9 := Aside0.mk (Kd.R_below (by (with_reducible repeat (first | apply Kd.R_alloc | apply Kd.R_drewN | apply Kd.R_drew)); exact HO_9.out) hb); replace HB := Aside0.mk (xS HB hb); (try clear hb); (try clear hb2); (try clear hk); (try clear hi)))
                 go_meet
                 case rel => exact ⟨_, H', ⟨by have := HJ21.out; first | omega | exact Nat.le_refl _⟩, ⟨by (with_reducible repeat (first | apply Kd.R_alloc | apply Kd.R_drewN | apply Kd.R_drew)); exact HO_9.out⟩, ⟨xW HB⟩⟩
              ·rw [if_neg c32] at H
               have c32b0 : decide (t168 < 1000000) = false := decide_eq_false c32
               clear c32
               as_aux_lemma =>
                have H' := Aside0.mk H
                clear H
                go_wp2_with (first | (go_at_call 22; (with_reducible refine (gamehalllaw3_gets.calls kj21 _ _ y156 t168 t171 _ ?side1 ?side2 A29.out).mono ?_); (case side1 => exact xC (Kd.C_below HR159.out HB.out)); (case side2 => exact HC159.out); rintro e w39 ⟨rfl, hb⟩; replace HO_9 := Aside0.mk (Kd.R_below (by (with_reducible repeat (first | apply Kd.R_alloc | apply Kd.R_drewN | apply Kd.R_drew)); exact HO_9.out) hb); replace HB := Aside0.mk (xS HB hb); (try clear hb); (try clear hb2); (try clear hk); (try clear hi)))
                go_meet
                case rel => exact ⟨_, H', ⟨by have := HJ21.out; first | omega | exact Nat.le_refl _⟩, ⟨by (with_reducible repeat (first | apply Kd.R_alloc | apply Kd.R_drewN | apply Kd.R_drew)); exact HO_9.out⟩, ⟨xW HB⟩⟩
            ·rw [if_neg c28] at H
             have c28b0 : ((Int.tmod t168 100) == 0) = false := beq_eq_false_iff_ne.mpr c28
             have c28b1 : ((Int.tmod t168 100) != 0) = true := bne_iff_ne.mpr c28
             as_aux_lemma =>
              obtain rfl := Option.some.inj H
              go_wp2
              go_ret
              exact ⟨by first | rfl | (simp [errW_none, errW_some] <;> rfl) | (simp only [← hji7, ← hji10]; first | rfl | (simp [errW_none, errW_some] <;> rfl)) | (simp [*, errW_none, errW_some] <;> rfl), xW HB⟩
           ·as_aux_lemma =>
            rw [if_neg c27] at H
            have c27b0 : (t169 == 0) = false := beq_eq_false_iff_ne.mpr c27
            have c27b1 : (t169 != 0) = true := bne_iff_ne.mpr c27
            by_cases c40 : t169 = 8
            ·as_aux_lemma =>
             rw [if_pos c40] at H
             have c40b0 : (t169 == 8) = true := beq_iff_eq.mpr c40
             have c40b1 : (t169 != 8) = false := bne_eq_false_iff_eq.mpr c40
             clear c40
             replace H := Option.bind_eq_some_iff.mp H
             obtain ⟨t173, A410, H⟩ := H
             replace H : (if t173 ≤ (wrap64 (50 * a3)) then (some false) else (gamehalllaw3_RatingPeriods.j1 kj21 y156 y160 a2 t164 t165)) = some r := H
             have A41 := Aside0.mk A410
             clear A410
             by_cases c42 : t173 ≤ (wrap64 (50 * a3))
             ·rw [if_pos c42] at H
              have c42b0 : decide (t173 ≤ (wrap64 (50 * a3))) = true := decide_eq_true c42
              clear c42
              as_aux_lemma =>
               obtain rfl := Option.some.inj H
               go_wp2_with (first | (go_at_call 22; (with_reducible refine (gamehalllaw3_gets.calls kj21 _ _ y156 (-1000000) t173 _ ?side1 ?side2 A41.out).mono ?_); (case side1 => exact xC (Kd.C_below HR159.out HB.out)); (case side2 => exact HC159.out); rintro e w43 ⟨rfl, hb⟩; replace HO_9 := Aside0.mk (Kd.R_below (by (with_reducible repeat (first | apply Kd.R_alloc | apply Kd.R_drewN | apply Kd.R_drew)); exact HO_9.out) hb); replace HB := Aside0.mk (xS HB hb); (try clear hb); (try clear hb2); (try clear hk); (try clear hi)))
               go_ret
               exact ⟨by first | rfl | (simp [errW_none, errW_some] <;> rfl) | (simp only [← hji7, ← hji10]; first | rfl | (simp [errW_none, errW_some] <;> rfl)) | (simp [*, errW_none, errW_some] <;> rfl), xW HB⟩
             ·rw [if_neg c42] at H
              have c42b0 : decide (t173 ≤ (wrap64 (50 * a3))) = false := decide_eq_false c42
              clear c42
              as_aux_lemma =>
               have H' := Aside0.mk H
               clear H
               go_wp2_with (first | (go_at_call 22; (with_reducible refine (gamehalllaw3_gets.calls kj21 _ _ y156 (-1000000) t173 _ ?side1 ?side2 A41.out).mono ?_); (case side1 => exact xC (Kd.C_below HR159.out HB.out)); (case side2 => exact HC159.out); rintro e w44 ⟨rfl, hb⟩; replace HO_9 := Aside0.mk (Kd.R_below (by (with_reducible repeat (first | apply Kd.R_alloc | apply Kd.R_drewN | apply Kd.R_drew)); exact HO_9.out) hb); replace HB := Aside0.mk (xS HB hb); (try clear hb); (try clear hb2); (try clear hk); (try clear hi)))
               go_meet
               case rel => exact ⟨_, H', ⟨by have := HJ21.out; first | omega | exact Nat.le_refl _⟩, ⟨by (with_reducible repeat (first | apply Kd.R_alloc | apply Kd.R_drewN | apply Kd.R_drew)); exact HO_9.out⟩, ⟨xW HB⟩⟩
            ·rw [if_neg c40] at H
             have c40b0 : (t169 == 8) = false := beq_eq_false_iff_ne.mpr c40
             have c40b1 : (t169 != 8) = true := bne_iff_ne.mpr c40
             as_aux_lemma =>
              obtain rfl := Option.some.inj H
              go_wp2
              go_ret
              exact ⟨by first | rfl | (simp [errW_none, errW_some] <;> rfl) | (simp only [← hji7, ← hji10]; first | rfl | (simp [errW_none, errW_some] <;> rfl)) | (simp [*, errW_none, errW_some] <;> rfl), xW HB⟩
       case rest =>
        as_aux_lemma =>
        clear HC17
        try clear c1
        try clear q1
        try clear c2
        try clear p2
        try clear q2
        try clear c3
        try clear c4
        try clear c5
        try clear c6
        try clear p6
        try clear c8
        try clear c8b0
        try clear c8b1
        try clear c9
        try clear c9b0
        try clear c9b1
        try clear c11
        try clear c11b0
        try clear c11b1
        try clear c12
        try clear c12b0
        try clear c12b1
        try clear c16
        try clear c16b0
        try clear c16b1
        try clear q19
        try clear c20
        try clear q20
        try clear c21
        try clear c23
        try clear c23b0
        try clear c24
        try clear c25
        try clear c25b0
        try clear c25b1
        try clear c26
        try clear c26b0
        try clear c26b1
        try clear c27
        try clear c27b0
        try clear c27b1
        try clear c28
        try clear c28b0
        try clear c28b1
        try clear c30
        try clear c30b0
        try clear c32
        try clear c32b0
        try clear c34
        try clear c34b0
        try clear c40
        try clear c40b0
        try clear c40b1
        try clear c42
        try clear c42b0
        try clear p2
        try clear p6
        try clear q1
        try clear q19
        try clear q2
        try clear q20
        obtain ⟨kq, HA, HJ16, HO_9, HB⟩ := hcut
        cases kq with
        | zero => exact absurd HA.out (by simp [gamehalllaw3_RatingPeriods.j1])
        | succ kj16 =>
         have H := HA.out
         clear HA
         simp only [gamehalllaw3_RatingPeriods.j1] at H
         obtain ⟨y174, hy174⟩ : ∃ y_ : List Int, y_ = (([] : List Int)) := ⟨_, rfl⟩
         replace H : (if y174.length + y156.length < 17592186044416 then (gamehalllaw3_RatingPeriods.l0 kj16 y156 a2 t164 t165 (y174 ++ y156) y160 (y160.length : Int) 0) else (none)) = some r := by first | (rw [hy174]; with_reducible exact H) | (have H2_ := (Option.bind_some _ _).symm.trans H; rw [hy174]; with_reducible exact H2_) | (have H2_ := (Option.bind_some _ _).symm.trans H; with_reducible exact H2_) | with_reducible exact H | (rw [hy174]; exact H) | exact H
         have Ny174 := Aside0.mk hy174
         clear hy174
         by_cases c45 : y174.length + y156.length < 17592186044416
         ·as_aux_lemma =>
          rw [if_pos c45] at H
          have LMc45 := Aside0.mk c45
          clear c45
          obtain ⟨y177, hy177⟩ : ∃ y_ : List Int, y_ = (y174 ++ y156) := ⟨_, rfl⟩
          replace H : (gamehalllaw3_RatingPeriods.l0 kj16 y156 a2 t164 t165 y177 y160 (y160.length : Int) 0) = some r := by first | (rw [hy177]; with_reducible exact H) | (have H2_ := (Option.bind_some _ _).symm.trans H; rw [hy177]; with_reducible exact H2_) | (have H2_ := (Option.bind_some _ _).symm.trans H; with_reducible exact H2_) | with_reducible exact H | (rw [hy177]; exact H) | exact H
          have Ny177 := Aside0.mk hy177
          clear hy177
          have H' := Aside0.mk H
          clear H
          go_wp2_with (first | ((with_reducible refine gate_dst (N := 115) rfl ?_); (try (refine gate_guard (by rfl) ?_; dsimp only)); refine Kd.R_lit (Kd.int .i64) _ 3 ?hg (N := 115) ?hd (xs := ([] : List Int)) (inner := []) (ok := fun _ => True) (okp := fun _ => True) ?hr ?hp (fun _ hk => hk) trivial (Below.refl _ _) (Nat.le_refl _) (by simp) ?_; (case hd => rfl); (case hg => rfl); (case hr => first | (go_simp; done) | (go_simp; rfl)); (case hp => exact (Reps.none _ _)); intro v175 w46 ho47 hb hg_ hnew_; clear hg_ hnew_; (first | rw [← Ny174.out] at ho47 | (simp only [Int.reduceToNat] at ho47; rw [← Ny174.out] at ho47)); have HO176 := Aside0.mk (Kd.R_lower (Kd.R_new' ho47 (Kd.R_lt (by (with_reducible repeat (first | apply Kd.R_alloc | apply Kd.R_drewN | apply Kd.R_drew)); exact HO_9.out))) (below_size (xW HB))); replace HO_9 := Aside0.mk (Kd.R_elder' (by (with_reducible repeat (first | apply Kd.R_alloc | apply Kd.R_drewN | apply Kd.R_drew)); exact HO_9.out) (Kd.R_base ho47) hb); replace HB := Aside0.mk (xS HB hb); clear hb ho47) | ((with_reducible refine gate_builtin (b := .append) (xs := #[.tmp 115, .tmp 116]) rfl ?_); (try (refine gate_guard (by rfl) ?_; dsimp only)); at_builtin; refine Kd.R_append_rows (Kd.int .i64) (w0 := w) w.heap.size rfl (.tmp 115) (.tmp 116) 22 3 (.int .i64 0) 8 rfl Tryd.underlying22 info3 rfl (by decide) (by omega) v175 y174 y156 _ _ _ (fun k_ => some k_ ≠ (v166 : Value).ownBlock) (fun _ => False) rfl rfl ?aO ?aR (fun _ _ h => h) (fun _ h => h.elim) ?aF ?aB ?aS ?aL ?_; (case aR => exact xC (Kd.C_below HR159.out HB.out)); (case aB => exact (xW HB)); (case aF => exact (fun k_ hk => Kd.fresh' (Kd.R_lt (by (with_reducible repeat (first | apply Kd.R_alloc | apply Kd.R_drewN | apply Kd.R_drew)); exact HO_9.out)) k_ hk)); (case aO => exact (by (with_reducible repeat (first | apply Kd.R_alloc | apply Kd.R_drewN | apply Kd.R_drew)); exact Kd.R_mono HO176.out (fun _ hk => hk.2))); (case aS => exact (below_size (xW HB))); (case aL => have := LMc45.out; omega); intro v178 w48 ho hb hg hat; rw [← Ny177.out] at ho; have HO179 := Aside0.mk (ho); replace HO_9 := Aside0.mk (Kd.R_after (ok := (fun _ => True)) (by (with_reducible repeat (first | apply Kd.R_alloc | apply Kd.R_drewN | apply Kd.R_drew)); exact HO_9.out) hg hat); replace HB := Aside0.mk (hb); clear HO176; clear ho hb hg hat))
          go_loopg [120] kj16 (fun kq vs120 w' => ∃ (x14_2 : List Int) (x120_2 : Int), vs120 = .int .i64 x120_2 ∧ Aside0 (gamehalllaw3_RatingPeriods.l0 kq y156 a2 t164 t165 x14_2 y160 (y160.length : Int) x120_2 = some r) ∧ Aside0 (kq ≤ kj16) ∧ Aside0 (Kd.R (Kd.int .i64) 3 w' w.heap.size (fun k_ => some k_ ≠ (v178 : Value).ownBlock) v166 t164) ∧ Aside0 (Kd.R (Kd.int .i64) 3 w' w.heap.size (fun k_ => some k_ ≠ (v166 : Value).ownBlock) v178 x14_2) ∧ Aside0 (Below w.heap.size w w'))
          case atStart => exact ⟨(y177), (0), (xrf), H', ⟨Nat.le_refl _⟩, ⟨by (with_reducible repeat (first | apply Kd.R_alloc | apply Kd.R_drewN | apply Kd.R_drew)); exact Kd.R_mono HO_9.out (fun _ hk => hk.2)⟩, ⟨by (with_reducible repeat (first | apply Kd.R_alloc | apply Kd.R_drewN | apply Kd.R_drew)); exact HO179.out⟩, ⟨xW HB⟩⟩
          case round =>
           clear H'
           try clear c1
           try clear q1
           try clear c2
           try clear p2
           try clear q2
           try clear c3
           try clear c4
           try clear c5
           try clear c6
           try clear p6
           try clear c8
           try clear c8b0
           try clear c8b1
           try clear c9
           try clear c9b0
           try clear c9b1
           try clear c11
           try clear c11b0
           try clear c11b1
           try clear c12
           try clear c12b0
           try clear c12b1
           try clear c16
           try clear c16b0
           try clear c16b1
           try clear q19
           try clear c20
           try clear q20
           try clear c21
           try clear c23
           try clear c23b0
           try clear c24
           try clear c25
           try clear c25b0
           try clear c25b1
           try clear c26
           try clear c26b0
           try clear c26b1
           try clear c27
           try clear c27b0
           try clear c27b1
           try clear c28
           try clear c28b0
           try clear c28b1
           try clear c30
           try clear c30b0
           try clear c32
           try clear c32b0
           try clear c34
           try clear c34b0
           try clear c40
           try clear c40b0
           try clear c40b1
           try clear c42
           try clear c42b0
           try clear c45
           try clear p2
           try clear p6
           try clear q1
           try clear q19
           try clear q2
           try clear q20
           obtain ⟨x14_2, x120_2, rfl, HA, HK2, HO_9, HO_14, HB⟩ := hrel
           cases gk with
           | zero => exact absurd HA.out (by simp [gamehalllaw3_RatingPeriods.l0])
           | succ k2 =>
            have H := HA.out
            clear HA
            simp only [gamehalllaw3_RatingPeriods.l0] at H
            by_cases c49 : x120_2 < (y160.length : Int)
            ·as_aux_lemma =>
             rw [if_pos c49] at H
             have c49b0 : decide (x120_2 < (y160.length : Int)) = true := decide_eq_true c49
             clear c49
             by_cases c50 : 0 ≤ x120_2
             ·as_aux_lemma =>
              rw [if_pos c50] at H
              have c50b0 : decide (0 ≤ x120_2) = true := decide_eq_true c50
              clear c50
              by_cases c51 : x120_2 < (y160.length : Int)
              ·as_aux_lemma =>
               rw [if_pos c51] at H
               have c51b0 : decide (x120_2 < (y160.length : Int)) = true := decide_eq_true c51
               clear c51
               have HC52 := Aside0.mk H
               clear H
               have p180 : 0 ≤ (x120_2 : Int) := of_decide_eq_true (by first | (with_reducible assumption) | assumption)
               have q180 : x120_2 < (y160.length : Int) := of_decide_eq_true (by first | (with_reducible assumption) | assumption)
               obtain ⟨ad180, e180, hx180_0, hx180_1, hx180_2⟩ := at_T41 HR163.out x120_2 p180 q180
               cases e180
               (first | replace hx180_0 := (HB.out.cell (World.block_lt_of_cell? w _ hx180_0)).trans hx180_0 | skip)
               (first | replace hx180_1 := (HB.out.cell (World.block_lt_of_cell? w _ hx180_1)).trans hx180_1 | skip)
               (first | replace hx180_2 := (HB.out.cell (World.block_lt_of_cell? w _ hx180_2)).trans hx180_2 | skip)
               replace p180 := eq_true p180
               replace q180 := eq_true q180
               go_upto_region 21 with (first | ((with_reducible refine gate_dst (N := 16) rfl ?_); (try (refine gate_guard (by rfl) ?_; dsimp only)); refine box_event ?hg (N := 16) ?hd (cs := #[.int .i64 0, .int .i64 0, .int .i64 0]) (t := 41) ?hr ?_; (case hd => rfl); (case hg => rfl); (case hr => first | (go_simp; done) | (go_simp; rfl)); intro gb181 hg w53 hbox hb; have BK181 := Aside0.mk (hbox); have GW181 := Aside0.mk (xZ HB hg); have GE181 := Aside0.mk (xZ HB hg); replace HO_9 := Aside0.mk (Kd.R_below (by (with_reducible repeat (first | apply Kd.R_alloc | apply Kd.R_drewN | apply Kd.R_drew)); exact HO_9.out) hb); replace HO_14 := Aside0.mk (Kd.R_below (by (with_reducible repeat (first | apply Kd.R_alloc | apply Kd.R_drewN | apply Kd.R_drew)); exact HO_14.out) hb); replace HB := Aside0.mk (xS HB hb); clear hb hbox hg; have hcz54_0 := blkc3 BK181.out))
               (try simp only [Act.put, List.setIfInBounds_toArray, List.set_cons_zero, List.set_cons_succ])
               go_cut [124] (fun vs124 wc => ∃ (kq : Nat) (x124_51 : Bool), vs124 = .bool x124_51 ∧ Aside0 (gamehalllaw3_RatingPeriods.j3 kq y156 a2 t164 t165 x14_2 y160 (y160.length : Int) x120_2 x124_51 ((rd_T41 y160 x120_2).f0) ((rd_T41 y160 x120_2).f1) ((rd_T41 y160 x120_2).f2) = some r) ∧ Aside0 (kq ≤ k2) ∧ Aside0 (Kd.R (Kd.int .i64) 3 wc w.heap.size (fun k_ => some k_ ≠ (v178 : Value).ownBlock) v166 t164) ∧ Aside0 (Kd.R (Kd.int .i64) 3 wc w.heap.size (fun k_ => some k_ ≠ (v166 : Value).ownBlock) v178 x14_2) ∧ Aside0 (wc.heap[gb181]? = some (.cells #[.int .i64 ((rd_T41 y160 x120_2).f0), .int .i64 ((rd_T41 y160 x120_2).f1), .int .i64 ((rd_T41 y160 x120_2).f2)] 41 (0, 0))) ∧ Aside0 (Below w.heap.size w wc))
               case first =>
                as_aux_lemma =>
                have H := HC52.out
                clear HC52
                obtain ⟨ji55, hji55⟩ : ∃ j_ : Int, (mn ((rd_T41 y160 x120_2).f0) ((rd_T41 y160 x120_2).f1)) = j_ := ⟨_, rfl⟩
                replace H : (if (ji55) < 0 then (gamehalllaw3_RatingPeriods.j3 k2 y156 a2 t164 t165 x14_2 y160 (y160.length : Int) x120_2 true ((rd_T41 y160 x120_2).f0) ((rd_T41 y160 x120_2).f1) ((rd_T41 y160 x120_2).f2)) else (if (mx ((rd_T41 y160 x120_2).f0) ((rd_T41 y160 x120_2).f1)) ≥ (y156.length : Int) then (gamehalllaw3_RatingPeriods.j3 k2 y156 a2 t164 t165 x14_2 y160 (y160.length : Int) x120_2 true ((rd_T41 y160 x120_2).f0) ((rd_T41 y160 x120_2).f1) ((rd_T41 y160 x120_2).f2)) else (gamehalllaw3_RatingPeriods.j3 k2 y156 a2 t164 t165 x14_2 y160 (y160.length : Int) x120_2 (((rd_T41 y160 x120_2).f0) == ((rd_T41 y160 x120_2).f1)) ((rd_T41 y160 x120_2).f0) ((rd_T41 y160 x120_2).f1) ((rd_T41 y160 x120_2).f2)))) = some r := by first | (rw [hji55] at H; exact H) | (simp only [hji55] at H ⊢; exact H)
                have hji55_ : (if ((rd_T41 y160 x120_2).f1) < ((rd_T41 y160 x120_2).f0) then ((rd_T41 y160 x120_2).f1) else ((rd_T41 y160 x120_2).f0)) = ji55 := hji55
                by_cases c56 : (ji55) < 0
                ·rw [if_pos c56] at H
                 have c56b0 : decide ((ji55) < 0) = true := decide_eq_true c56
                 clear c56
                 (first | rw [c56b0] | (simp only [i64_w, i32_w]; rw [c56b0]) | skip)
                 as_aux_lemma =>
                  have H' := Aside0.mk H
                  clear H
                  have hcz57_0 := blkc3 BK181.out
                  go_wp2
                  go_meet
                  case rel => exact ⟨_, (true), (xrf), H', ⟨by have := HJ16.out; have := HK2.out; first | omega | exact Nat.le_refl _⟩, ⟨by (with_reducible repeat (first | apply Kd.R_alloc | apply Kd.R_drewN | apply Kd.R_drew)); exact Kd.R_mono (Kd.R_far (p := ⟨gb181, 2, none⟩) (Kd.R_far (p := ⟨gb181, 1, none⟩) (Kd.R_far (p := ⟨gb181, 0, none⟩) (Kd.R_types HO_9.out BK181.out (by decide)) (fun _ hk => hk.2) (.int .i64 ((rd_T41 y160 x120_2).f0))) (fun _ hk => hk.2) (.int .i64 ((rd_T41 y160 x120_2).f1))) (fun _ hk => hk.2) (.int .i64 ((rd_T41 y160 x120_2).f2))) (fun _ hk => hk.1)⟩, ⟨by (with_reducible repeat (first | apply Kd.R_alloc | apply Kd.R_drewN | apply Kd.R_drew)); exact Kd.R_mono (Kd.R_far (p := ⟨gb181, 2, none⟩) (Kd.R_far (p := ⟨gb181, 1, none⟩) (Kd.R_far (p := ⟨gb181, 0, none⟩) (Kd.R_types HO_14.out BK181.out (by decide)) (fun _ hk => hk.2) (.int .i64 ((rd_T41 y160 x120_2).f0))) (fun _ hk => hk.2) (.int .i64 ((rd_T41 y160 x120_2).f1))) (fun _ hk => hk.2) (.int .i64 ((rd_T41 y160 x120_2).f2))) (fun _ hk => hk.1)⟩, ⟨xQ BK181⟩, ⟨xW HB⟩⟩
                ·as_aux_lemma =>
                 rw [if_neg c56] at H
                 have c56b0 : decide ((ji55) < 0) = false := decide_eq_false c56
                 clear c56
                 (first | rw [c56b0] | (simp only [i64_w, i32_w]; rw [c56b0]) | skip)
                 obtain ⟨ji58, hji58⟩ : ∃ j_ : Int, (mx ((rd_T41 y160 x120_2).f0) ((rd_T41 y160 x120_2).f1)) = j_ := ⟨_, rfl⟩
                 replace H : (if (ji58) ≥ (y156.length : Int) then (gamehalllaw3_RatingPeriods.j3 k2 y156 a2 t164 t165 x14_2 y160 (y160.length : Int) x120_2 true ((rd_T41 y160 x120_2).f0) ((rd_T41 y160 x120_2).f1) ((rd_T41 y160 x120_2).f2)) else (gamehalllaw3_RatingPeriods.j3 k2 y156 a2 t164 t165 x14_2 y160 (y160.length : Int) x120_2 (((rd_T41 y160 x120_2).f0) == ((rd_T41 y160 x120_2).f1)) ((rd_T41 y160 x120_2).f0) ((rd_T41 y160 x120_2).f1) ((rd_T41 y160 x120_2).f2))) = some r := by first | (rw [hji58] at H; exact H) | (simp only [hji58] at H ⊢; exact H)
                 have hji58_ : (if ((rd_T41 y160 x120_2).f0) < ((rd_T41 y160 x120_2).f1) then ((rd_T41 y160 x120_2).f1) else ((rd_T41 y160 x120_2).f0)) = ji58 := hji58
                 by_cases c59 : (ji58) ≥ (y156.length : Int)
                 ·rw [if_pos c59] at H
                  have c59b0 : decide ((y156.length : Int) ≤ (ji58)) = true := decide_eq_true c59
                  clear c59
                  as_aux_lemma =>
                   have H' := Aside0.mk H
                   clear H
                   have hcz60_0 := blkc3 BK181.out
                   go_wp2
                   go_meet
                   case rel => exact ⟨_, (true), (xrf), H', ⟨by have := HJ16.out; have := HK2.out; first | omega | exact Nat.le_refl _⟩, ⟨by (with_reducible repeat (first | apply Kd.R_alloc | apply Kd.R_drewN | apply Kd.R_drew)); exact Kd.R_mono (Kd.R_far (p := ⟨gb181, 2, none⟩) (Kd.R_far (p := ⟨gb181, 1, none⟩) (Kd.R_far (p := ⟨gb181, 0, none⟩) (Kd.R_types HO_9.out BK181.out (by decide)) (fun _ hk => hk.2) (.int .i64 ((rd_T41 y160 x120_2).f0))) (fun _ hk => hk.2) (.int .i64 ((rd_T41 y160 x120_2).f1))) (fun _ hk => hk.2) (.int .i64 ((rd_T41 y160 x120_2).f2))) (fun _ hk => hk.1)⟩, ⟨by (with_reducible repeat (first | apply Kd.R_alloc | apply Kd.R_drewN | apply Kd.R_drew)); exact Kd.R_mono (Kd.R_far (p := ⟨gb181, 2, none⟩) (Kd.R_far (p := ⟨gb181, 1, none⟩) (Kd.R_far (p := ⟨gb181, 0, none⟩) (Kd.R_types HO_14.out BK181.out (by decide)) (fun _ hk => hk.2) (.int .i64 ((rd_T41 y160 x120_2).f0))) (fun _ hk => hk.2) (.int .i64 ((rd_T41 y160 x120_2).f1))) (fun _ hk => hk.2) (.int .i64 ((rd_T41 y160 x120_2).f2))) (fun _ hk => hk.1)⟩, ⟨xQ BK181⟩, ⟨xW HB⟩⟩
                 ·rw [if_neg c59] at H
                  have c59b0 : decide ((y156.length : Int) ≤ (ji58)) = false := decide_eq_false c59
                  clear c59
                  as_aux_lemma =>
                   have H' := Aside0.mk H
                   clear H
                   have hcz61_0 := blkc3 BK181.out
                   go_wp2
                   go_meet
                   case rel => exact ⟨_, ((((rd_T41 y160 x120_2).f0) == ((rd_T41 y160 x120_2).f1))), (xrf), H', ⟨by have := HJ16.out; have := HK2.out; first | omega | exact Nat.le_refl _⟩, ⟨by (with_reducible repeat (first | apply Kd.R_alloc | apply Kd.R_drewN | apply Kd.R_drew)); exact Kd.R_mono (Kd.R_far (p := ⟨gb181, 2, none⟩) (Kd.R_far (p := ⟨gb181, 1, none⟩) (Kd.R_far (p := ⟨gb181, 0, none⟩) (Kd.R_types HO_9.out BK181.out (by decide)) (fun _ hk => hk.2) (.int .i64 ((rd_T41 y160 x120_2).f0))) (fun _ hk => hk.2) (.int .i64 ((rd_T41 y160 x120_2).f1))) (fun _ hk => hk.2) (.int .i64 ((rd_T41 y160 x120_2).f2))) (fun _ hk => hk.1)⟩, ⟨by (with_reducible repeat (first | apply Kd.R_alloc | apply Kd.R_drewN | apply Kd.R_drew)); exact Kd.R_mono (Kd.R_far (p := ⟨gb181, 2, none⟩) (Kd.R_far (p := ⟨gb181, 1, none⟩) (Kd.R_far (p := ⟨gb181, 0, none⟩) (Kd.R_types HO_14.out BK181.out (by decide)) (fun _ hk => hk.2) (.int .i64 ((rd_T41 y160 x120_2).f0))) (fun _ hk => hk.2) (.int .i64 ((rd_T41 y160 x120_2).f1))) (fun _ hk => hk.2) (.int .i64 ((rd_T41 y160 x120_2).f2))) (fun _ hk => hk.1)⟩, ⟨xQ BK181⟩, ⟨xW HB⟩⟩
               case rest =>
                as_aux_lemma =>
                clear HC52
                try clear c1
                try clear p1
                try clear q1
                try clear hx1
                try clear c2
                try clear p2
                try clear q2
                try clear c3
                try clear c4
                try clear c5
                try clear c6
                try clear p6
                try clear c8
                try clear c8b0
                try clear c8b1
                try clear c9
                try clear c9b0
                try clear c9b1
                try clear c11
                try clear c11b0
                try clear c11b1
                try clear c12
                try clear c12b0
                try clear c12b1
                try clear c16
                try clear c16b0
                try clear c16b1
                try clear p18
                try clear q18
                try clear hx18
                try clear q19
                try clear c20
                try clear q20
                try clear c21
                try clear c23
                try clear c23b0
                try clear c24
                try clear c25
                try clear c25b0
                try clear c25b1
                try clear c26
                try clear c26b0
                try clear c26b1
                try clear c27
                try clear c27b0
                try clear c27b1
                try clear c28
                try clear c28b0
                try clear c28b1
                try clear c30
                try clear c30b0
                try clear c32
                try clear c32b0
                try clear c34
                try clear c34b0
                try clear c40
                try clear c40b0
                try clear c40b1
                try clear c42
                try clear c42b0
                try clear c45
                try clear c49
                try clear c49b0
                try clear c50
                try clear c50b0
                try clear c51
                try clear c51b0
                try clear c56
                try clear c56b0
                try clear c59
                try clear c59b0
                try clear hcz54_0
                try clear hcz57_0
                try clear hcz60_0
                try clear hcz61_0
                try clear hx180_0
                try clear hx180_1
                try clear hx180_2
                try clear p180
                try clear p2
                try clear p6
                try clear q1
                try clear q180
                try clear q19
                try clear q2
                try clear q20
                obtain ⟨kq, x124_51, rfl, HA, HJ51, HO_9, HO_14, BK181, HB⟩ := hcut
                cases kq with
                | zero => exact absurd HA.out (by simp [gamehalllaw3_RatingPeriods.j3])
                | succ kj51 =>
                 have H := HA.out
                 clear HA
                 simp only [gamehalllaw3_RatingPeriods.j3] at H
                 by_cases c62 : x124_51 = true
                 ·subst c62
                  have H1 : (if t165 = 3 then (some ((t164.length : Int) == 0)) else (some false)) = some r := by rw [if_pos rfl] at H; exact H
                  clear H
                  have H := H1
                  clear H1
                  by_cases c63 : t165 = 3
                  ·rw [if_pos c63] at H
                   have c63b0 : (t165 == 3) = true := beq_iff_eq.mpr c63
                   have c63b1 : (t165 != 3) = false := bne_eq_false_iff_eq.mpr c63
                   clear c63
                   as_aux_lemma =>
                    obtain rfl := Option.some.inj H
                    obtain ⟨Ao64, co64, eo64⟩ := Kd.R_slice HO_9.out
                    subst eo64
                    go_wp2
                    go_ret
                    exact ⟨by first | rfl | (simp [errW_none, errW_some] <;> rfl) | (simp only [← hji7, ← hji10]; first | rfl | (simp [errW_none, errW_some] <;> rfl)) | (simp [*, errW_none, errW_some] <;> rfl), xW HB⟩
                  ·rw [if_neg c63] at H
                   have c63b0 : (t165 == 3) = false := beq_eq_false_iff_ne.mpr c63
                   have c63b1 : (t165 != 3) = true := bne_iff_ne.mpr c63
                   as_aux_lemma =>
                    obtain rfl := Option.some.inj H
                    go_wp2
                    go_ret
                    exact ⟨by first | rfl | (simp [errW_none, errW_some] <;> rfl) | (simp only [← hji7, ← hji10]; first | rfl | (simp [errW_none, errW_some] <;> rfl)) | (simp [*, errW_none, errW_some] <;> rfl), xW HB⟩
                 ·replace c62 := Bool.eq_false_iff.mpr c62
                  subst c62
                  have H1 : (if ((rd_T41 y160 x120_2).f2) < 0 then (gamehalllaw3_RatingPeriods.j4 kj51 y156 a2 t164 t165 x14_2 y160 (y160.length : Int) x120_2 true ((rd_T41 y160 x120_2).f0) ((rd_T41 y160 x120_2).f1) ((rd_T41 y160 x120_2).f2)) else (gamehalllaw3_RatingPeriods.j4 kj51 y156 a2 t164 t165 x14_2 y160 (y160.length : Int) x120_2 (decide (((rd_T41 y160 x120_2).f2) > 2)) ((rd_T41 y160 x120_2).f0) ((rd_T41 y160 x120_2).f1) ((rd_T41 y160 x120_2).f2))) = some r := by rw [if_neg (show ¬ (false = true) by decide)] at H; exact H
                  clear H
                  have H := H1
                  clear H1
                  have HC65 := Aside0.mk H
                  clear H
                  go_upto_region 23 with (fail)
                  go_cut [155] (fun vs155 wc => ∃ (kq : Nat) (x155_64 : Bool), vs155 = .bool x155_64 ∧ Aside0 (gamehalllaw3_RatingPeriods.j4 kq y156 a2 t164 t165 x14_2 y160 (y160.length : Int) x120_2 x155_64 ((rd_T41 y160 x120_2).f0) ((rd_T41 y160 x120_2).f1) ((rd_T41 y160 x120_2).f2) = some r) ∧ Aside0 (kq ≤ kj51) ∧ Aside0 (Kd.R (Kd.int .i64) 3 wc w.heap.size (fun k_ => some k_ ≠ (v178 : Value).ownBlock) v166 t164) ∧ Aside0 (Kd.R (Kd.int .i64) 3 wc w.heap.size (fun k_ => some k_ ≠ (v166 : Value).ownBlock) v178 x14_2) ∧ Aside0 (wc.heap[gb181]? = some (.cells #[.int .i64 ((rd_T41 y160 x120_2).f0), .int .i64 ((rd_T41 y160 x120_2).f1), .int .i64 ((rd_T41 y160 x120_2).f2)] 41 (0, 0))) ∧ Aside0 (Below w.heap.size w wc))
                  case first =>
                   as_aux_lemma =>
                   have H := HC65.out
                   clear HC65
                   by_cases c66 : ((rd_T41 y160 x120_2).f2) < 0
                   ·rw [if_pos c66] at H
                    have c66b0 : decide (((rd_T41 y160 x120_2).f2) < 0) = true := decide_eq_true c66
                    clear c66
                    (first | rw [c66b0] | (simp only [i64_w, i32_w]; rw [c66b0]) | skip)
                    as_aux_lemma =>
                     have H' := Aside0.mk H
                     clear H
                     have hcz67_0 := blkc3 BK181.out
                     go_wp2
                     go_meet
                     case rel => exact ⟨_, (true), (xrf), H', ⟨by have := HJ16.out; have := HK2.out; have := HJ51.out; first | omega | exact Nat.le_refl _⟩, ⟨by (with_reducible repeat (first | apply Kd.R_alloc | apply Kd.R_drewN | apply Kd.R_drew)); exact HO_9.out⟩, ⟨by (with_reducible repeat (first | apply Kd.R_alloc | apply Kd.R_drewN | apply Kd.R_drew)); exact HO_14.out⟩, ⟨xK BK181⟩, ⟨xW HB⟩⟩
                   ·rw [if_neg c66] at H
                    have c66b0 : decide (((rd_T41 y160 x120_2).f2) < 0) = false := decide_eq_false c66
                    clear c66
                    (first | rw [c66b0] | (simp only [i64_w, i32_w]; rw [c66b0]) | skip)
                    as_aux_lemma =>
                     have H' := Aside0.mk H
                     clear H
                     have hcz68_0 := blkc3 BK181.out
                     go_wp2
                     go_meet
                     case rel => exact ⟨_, (decide (((rd_T41 y160 x120_2).f2) > 2)), (xrf), H', ⟨by have := HJ16.out; have := HK2.out; have := HJ51.out; first | omega | exact Nat.le_refl _⟩, ⟨by (with_reducible repeat (first | apply Kd.R_alloc | apply Kd.R_drewN | apply Kd.R_drew)); exact HO_9.out⟩, ⟨by (with_reducible repeat (first | apply Kd.R_alloc | apply Kd.R_drewN | apply Kd.R_drew)); exact HO_14.out⟩, ⟨xK BK181⟩, ⟨xW HB⟩⟩
                  case rest =>
                   as_aux_lemma =>
                   clear HC65
                   try clear c1
                   try clear p1
                   try clear q1
                   try clear hx1
                   try clear c2
                   try clear p2
                   try clear q2
                   try clear c3
                   try clear c4
                   try clear c5
                   try clear c6
                   try clear p6
                   try clear c8
                   try clear c8b0
                   try clear c8b1
                   try clear c9
                   try clear c9b0
                   try clear c9b1
                   try clear c11
                   try clear c11b0
                   try clear c11b1
                   try clear c12
                   try clear c12b0
                   try clear c12b1
                   try clear c16
                   try clear c16b0
                   try clear c16b1
                   try clear p18
                   try clear q18
                   try clear hx18
                   try clear q19
                   try clear c20
                   try clear q20
                   try clear c21
                   try clear c23
                   try clear c23b0
                   try clear c24
                   try clear c25
                   try clear c25b0
                   try clear c25b1
                   try clear c26
                   try clear c26b0
                   try clear c26b1
                   try clear c27
                   try clear c27b0
                   try clear c27b1
                   try clear c28
                   try clear c28b0
                   try clear c28b1
                   try clear c30
                   try clear c30b0
                   try clear c32
                   try clear c32b0
                   try clear c34
                   try clear c34b0
                   try clear c40
                   try clear c40b0
                   try clear c40b1
                   try clear c42
                   try clear c42b0
                   try clear c45
                   try clear c49
                   try clear c49b0
                   try clear c50
                   try clear c50b0
                   try clear c51
                   try clear c51b0
                   try clear c56
                   try clear c56b0
                   try clear c59
                   try clear c59b0
                   try clear c62
                   try clear c63
                   try clear c63b0
                   try clear c63b1
                   try clear p64
                   try clear c66
                   try clear c66b0
                   try clear hcz54_0
                   try clear hcz57_0
                   try clear hcz60_0
                   try clear hcz61_0
                   try clear hcz67_0
                   try clear hcz68_0
                   try clear hx180_0
                   try clear hx180_1
                   try clear hx180_2
                   try clear p1
                   try clear p18
                   try clear p180
                   try clear p2
                   try clear p6
                   try clear q1
                   try clear q18
                   try clear q180
                   try clear q19
                   try clear q2
                   try clear q20
                   obtain ⟨kq, x155_64, rfl, HA, HJ64, HO_9, HO_14, BK181, HB⟩ := hcut
                   cases kq with
                   | zero => exact absurd HA.out (by simp [gamehalllaw3_RatingPeriods.j4])
                   | succ kj64 =>
                    have H := HA.out
                    clear HA
                    simp only [gamehalllaw3_RatingPeriods.j4] at H
                    by_cases c69 : x155_64 = true
                    ·subst c69
                     have H1 : (if t165 = 1 then (some ((t164.length : Int) == 0)) else (some false)) = some r := by rw [if_pos rfl] at H; exact H
                     clear H
                     have H := H1
                     clear H1
                     by_cases c70 : t165 = 1
                     ·rw [if_pos c70] at H
                      have c70b0 : (t165 == 1) = true := beq_iff_eq.mpr c70
                      have c70b1 : (t165 != 1) = false := bne_eq_false_iff_eq.mpr c70
                      clear c70
                      as_aux_lemma =>
                       obtain rfl := Option.some.inj H
                       obtain ⟨Ao71, co71, eo71⟩ := Kd.R_slice HO_9.out
                       subst eo71
                       go_wp2
                       go_ret
                       exact ⟨by first | rfl | (simp [errW_none, errW_some] <;> rfl) | (simp only [← hji7, ← hji10]; first | rfl | (simp [errW_none, errW_some] <;> rfl)) | (simp [*, errW_none, errW_some] <;> rfl), xW HB⟩
                     ·rw [if_neg c70] at H
                      have c70b0 : (t165 == 1) = false := beq_eq_false_iff_ne.mpr c70
                      have c70b1 : (t165 != 1) = true := bne_iff_ne.mpr c70
                      as_aux_lemma =>
                       obtain rfl := Option.some.inj H
                       go_wp2
                       go_ret
                       exact ⟨by first | rfl | (simp [errW_none, errW_some] <;> rfl) | (simp only [← hji7, ← hji10]; first | rfl | (simp [errW_none, errW_some] <;> rfl)) | (simp [*, errW_none, errW_some] <;> rfl), xW HB⟩
                    ·replace c69 := Bool.eq_false_iff.mpr c69
                     subst c69
                     have H1 : (if a2 < 1 then (if t165 = 4 then (some ((t164.length : Int) == 0)) else (some false)) else (if a2 > 64 then (if t165 = 4 then (some ((t164.length : Int) == 0)) else (some false)) else (if 0 ≤ ((rd_T41 y160 x120_2).f0) then (if ((rd_T41 y160 x120_2).f0) < (y156.length : Int) then (if 0 ≤ ((rd_T41 y160 x120_2).f1) then (if ((rd_T41 y160 x120_2).f1) < (y156.length : Int) then ((gamehallref3_Hundredths.f kj64 (wrap64 ((rd y156 ((rd_T41 y160 x120_2).f0)) - (rd y156 ((rd_T41 y160 x120_2).f1))))).bind fun t184 => (if ((rd_T41 y160 x120_2).f0) < (x14_2.length : Int) then ((some (x14_2.set (((rd_T41 y160 x120_2).f0) : Int).toNat (wrap64 ((rd x14_2 ((rd_T41 y160 x120_2).f0)) + (wrap64 (a2 * (wrap64 ((wrap64 (50 * ((rd_T41 y160 x120_2).f2))) - t184)))))) : List Int)).bind fun y186 => (if ((rd_T41 y160 x120_2).f1) < (x14_2.length : Int) then (gamehalllaw3_RatingPeriods.l0 kj64 y156 a2 t164 t165 (y186.set (((rd_T41 y160 x120_2).f1) : Int).toNat (wrap64 ((rd y186 ((rd_T41 y160 x120_2).f1)) - (wrap64 (a2 * (wrap64 ((wrap64 (50 * ((rd_T41 y160 x120_2).f2))) - t184))))))) y160 (y160.length : Int) (wrap64 (x120_2 + 1))) else (none))) else (none))) else (none)) else (none)) else (none)) else (none)))) = some r := by rw [if_neg (show ¬ (false = true) by decide)] at H; exact H
                     clear H
                     have H := H1
                     clear H1
                     by_cases c72 : a2 < 1
                     ·as_aux_lemma =>
                      rw [if_pos c72] at H
                      have c72b0 : decide (a2 < 1) = true := decide_eq_true c72
                      clear c72
                      by_cases c73 : t165 = 4
                      ·rw [if_pos c73] at H
                       have c73b0 : (t165 == 4) = true := beq_iff_eq.mpr c73
                       have c73b1 : (t165 != 4) = false := bne_eq_false_iff_eq.mpr c73
                       clear c73
                       as_aux_lemma =>
                        obtain rfl := Option.some.inj H
                        obtain ⟨Ao74, co74, eo74⟩ := Kd.R_slice HO_9.out
                        subst eo74
                        go_wp2
                        go_ret
                        exact ⟨by first | rfl | (simp [errW_none, errW_some] <;> rfl) | (simp only [← hji7, ← hji10]; first | rfl | (simp [errW_none, errW_some] <;> rfl)) | (simp [*, errW_none, errW_some] <;> rfl), xW HB⟩
                      ·rw [if_neg c73] at H
                       have c73b0 : (t165 == 4) = false := beq_eq_false_iff_ne.mpr c73
                       have c73b1 : (t165 != 4) = true := bne_iff_ne.mpr c73
                       as_aux_lemma =>
                        obtain rfl := Option.some.inj H
                        go_wp2
                        go_ret
                        exact ⟨by first | rfl | (simp [errW_none, errW_some] <;> rfl) | (simp only [← hji7, ← hji10]; first | rfl | (simp [errW_none, errW_some] <;> rfl)) | (simp [*, errW_none, errW_some] <;> rfl), xW HB⟩
                     ·as_aux_lemma =>
                      rw [if_neg c72] at H
                      have c72b0 : decide (a2 < 1) = false := decide_eq_false c72
                      clear c72
                      by_cases c75 : a2 > 64
                      ·as_aux_lemma =>
                       rw [if_pos c75] at H
                       have c75b0 : decide (64 < a2) = true := decide_eq_true c75
                       clear c75
                       by_cases c76 : t165 = 4
                       ·rw [if_pos c76] at H
                        have c76b0 : (t165 == 4) = true := beq_iff_eq.mpr c76
                        have c76b1 : (t165 != 4) = false := bne_eq_false_iff_eq.mpr c76
                        clear c76
                        as_aux_lemma =>
                         obtain rfl := Option.some.inj H
                         obtain ⟨Ao77, co77, eo77⟩ := Kd.R_slice HO_9.out
                         subst eo77
                         go_wp2
                         go_ret
                         exact ⟨by first | rfl | (simp [errW_none, errW_some] <;> rfl) | (simp only [← hji7, ← hji10]; first | rfl | (simp [errW_none, errW_some] <;> rfl)) | (simp [*, errW_none, errW_some] <;> rfl), xW HB⟩
                       ·rw [if_neg c76] at H
                        have c76b0 : (t165 == 4) = false := beq_eq_false_iff_ne.mpr c76
                        have c76b1 : (t165 != 4) = true := bne_iff_ne.mpr c76
                        as_aux_lemma =>
                         obtain rfl := Option.some.inj H
                         go_wp2
                         go_ret
                         exact ⟨by first | rfl | (simp [errW_none, errW_some] <;> rfl) | (simp only [← hji7, ← hji10]; first | rfl | (simp [errW_none, errW_some] <;> rfl)) | (simp [*, errW_none, errW_some] <;> rfl), xW HB⟩
                      ·as_aux_lemma =>
                       rw [if_neg c75] at H
                       have c75b0 : decide (64 < a2) = false := decide_eq_false c75
                       clear c75
                       by_cases c78 : 0 ≤ ((rd_T41 y160 x120_2).f0)
                       ·as_aux_lemma =>
                        rw [if_pos c78] at H
                        have c78b0 : decide (0 ≤ ((rd_T41 y160 x120_2).f0)) = true := decide_eq_true c78
                        clear c78
                        by_cases c79 : ((rd_T41 y160 x120_2).f0) < (y156.length : Int)
                        ·as_aux_lemma =>
                         rw [if_pos c79] at H
                         have c79b0 : decide (((rd_T41 y160 x120_2).f0) < (y156.length : Int)) = true := decide_eq_true c79
                         clear c79
                         by_cases c80 : 0 ≤ ((rd_T41 y160 x120_2).f1)
                         ·as_aux_lemma =>
                          rw [if_pos c80] at H
                          have c80b0 : decide (0 ≤ ((rd_T41 y160 x120_2).f1)) = true := decide_eq_true c80
                          clear c80
                          by_cases c81 : ((rd_T41 y160 x120_2).f1) < (y156.length : Int)
                          ·as_aux_lemma =>
                           rw [if_pos c81] at H
                           have c81b0 : decide (((rd_T41 y160 x120_2).f1) < (y156.length : Int)) = true := decide_eq_true c81
                           clear c81
                           replace H := Option.bind_eq_some_iff.mp H
                           obtain ⟨t184, A820, H⟩ := H
                           replace H : (if ((rd_T41 y160 x120_2).f0) < (x14_2.length : Int) then ((some (x14_2.set (((rd_T41 y160 x120_2).f0) : Int).toNat (wrap64 ((rd x14_2 ((rd_T41 y160 x120_2).f0)) + (wrap64 (a2 * (wrap64 ((wrap64 (50 * ((rd_T41 y160 x120_2).f2))) - t184)))))) : List Int)).bind fun y186 => (if ((rd_T41 y160 x120_2).f1) < (x14_2.length : Int) then (gamehalllaw3_RatingPeriods.l0 kj64 y156 a2 t164 t165 (y186.set (((rd_T41 y160 x120_2).f1) : Int).toNat (wrap64 ((rd y186 ((rd_T41 y160 x120_2).f1)) - (wrap64 (a2 * (wrap64 ((wrap64 (50 * ((rd_T41 y160 x120_2).f2))) - t184))))))) y160 (y160.length : Int) (wrap64 (x120_2 + 1))) else (none))) else (none)) = some r := H
                           have A82 := Aside0.mk A820
                           clear A820
                           by_cases c83 : ((rd_T41 y160 x120_2).f0) < (x14_2.length : Int)
                           ·as_aux_lemma =>
                            rw [if_pos c83] at H
                            have c83b0 : decide (((rd_T41 y160 x120_2).f0) < (x14_2.length : Int)) = true := decide_eq_true c83
                            clear c83
                            obtain ⟨y186, hy186⟩ : ∃ y_ : List Int, y_ = (x14_2.set (((rd_T41 y160 x120_2).f0) : Int).toNat (wrap64 ((rd x14_2 ((rd_T41 y160 x120_2).f0)) + (wrap64 (a2 * (wrap64 ((wrap64 (50 * ((rd_T41 y160 x120_2).f2))) - t184))))))) := ⟨_, rfl⟩
                            replace H : (if ((rd_T41 y160 x120_2).f1) < (x14_2.length : Int) then (gamehalllaw3_RatingPeriods.l0 kj64 y156 a2 t164 t165 (y186.set (((rd_T41 y160 x120_2).f1) : Int).toNat (wrap64 ((rd y186 ((rd_T41 y160 x120_2).f1)) - (wrap64 (a2 * (wrap64 ((wrap64 (50 * ((rd_T41 y160 x120_2).f2))) - t184))))))) y160 (y160.length : Int) (wrap64 (x120_2 + 1))) else (none)) = some r := by first | (rw [hy186]; with_reducible exact H) | (have H2_ := (Option.bind_some _ _).symm.trans H; rw [hy186]; with_reducible exact H2_) | (have H2_ := (Option.bind_some _ _).symm.trans H; with_reducible exact H2_) | with_reducible exact H | (rw [hy186]; exact H) | exact H
                            have Ny186 := Aside0.mk hy186
                            clear hy186
                            by_cases c85 : ((rd_T41 y160 x120_2).f1) < (x14_2.length : Int)
                            ·as_aux_lemma =>
                             rw [if_pos c85] at H
                             have c85b0 : decide (((rd_T41 y160 x120_2).f1) < (x14_2.length : Int)) = true := decide_eq_true c85
                             clear c85
                             obtain ⟨y188, hy188⟩ : ∃ y_ : List Int, y_ = (y186.set (((rd_T41 y160 x120_2).f1) : Int).toNat (wrap64 ((rd y186 ((rd_T41 y160 x120_2).f1)) - (wrap64 (a2 * (wrap64 ((wrap64 (50 * ((rd_T41 y160 x120_2).f2))) - t184))))))) := ⟨_, rfl⟩
                             replace H : (gamehalllaw3_RatingPeriods.l0 kj64 y156 a2 t164 t165 y188 y160 (y160.length : Int) (wrap64 (x120_2 + 1))) = some r := by first | (rw [hy188]; with_reducible exact H) | (have H2_ := (Option.bind_some _ _).symm.trans H; rw [hy188]; with_reducible exact H2_) | (have H2_ := (Option.bind_some _ _).symm.trans H; with_reducible exact H2_) | with_reducible exact H | (rw [hy188]; exact H) | exact H
                             have Ny188 := Aside0.mk hy188
                             clear hy188
                             as_aux_lemma =>
                              have H' := Aside0.mk H
                              clear H
                              try go_wp2
                              have n0_ := Aside0.mk (Kd.R_drew HO_9.out)
                              have n1_ := Aside0.mk (Kd.R_drew HO_14.out)
                              have n2_ := Aside0.mk (blk_drew BK181.out)
                              have n3_ := Aside0.mk (below_drew1 HB.out)
                              clear HO_9
                              clear HO_14
                              clear BK181
                              clear HB
                              have HO_9 := n0_
                              have HO_14 := n1_
                              have BK181 := n2_
                              have HB := n3_
                              clear n0_ n1_ n2_ n3_
                              have p182 : 0 ≤ (((rd_T41 y160 x120_2).f0) : Int) := of_decide_eq_true (by first | (with_reducible assumption) | assumption)
                              have q182 : ((rd_T41 y160 x120_2).f0) < (y156.length : Int) := of_decide_eq_true (by first | (with_reducible assumption) | assumption)
                              obtain ⟨ad182, e182, hx182_0⟩ := Kd.at_int HR159.out ((rd_T41 y160 x120_2).f0) p182 q182
                              have hw182_0 := hx182_0
                              cases e182
                              (first | replace hx182_0 := (HB.out.cell (World.block_lt_of_cell? w _ hx182_0)).trans hx182_0 | skip)
                              replace p182 := eq_true p182
                              replace q182 := eq_true q182
                              have p183 : 0 ≤ (((rd_T41 y160 x120_2).f1) : Int) := of_decide_eq_true (by first | (with_reducible assumption) | assumption)
                              have q183 : ((rd_T41 y160 x120_2).f1) < (y156.length : Int) := of_decide_eq_true (by first | (with_reducible assumption) | assumption)
                              obtain ⟨ad183, e183, hx183_0⟩ := Kd.at_int HR159.out ((rd_T41 y160 x120_2).f1) p183 q183
                              have hw183_0 := hx183_0
                              obtain rfl : ad182 = ad183 := (by injection e183)
                              (first | replace hx183_0 := (HB.out.cell (World.block_lt_of_cell? w _ hx183_0)).trans hx183_0 | skip)
                              replace p183 := eq_true p183
                              replace q183 := eq_true q183
                              refine start_ (n := 19) (S := fun w' => w'.cell? ⟨gb181, 0, none⟩ = some (.int .i64 ((rd_T41 y160 x120_2).f0)) ∧ w'.cell? ⟨gb181, 1, none⟩ = some (.int .i64 ((rd_T41 y160 x120_2).f1)) ∧ w'.cell? ⟨gb181, 2, none⟩ = some (.int .i64 ((rd_T41 y160 x120_2).f2)) ∧ w'.cell? (ad182.add (((rd_T41 y160 x120_2).f0)).toNat) = some (.int .i64 (rd y156 ((rd_T41 y160 x120_2).f0))) ∧ w'.cell? (ad182.add (((rd_T41 y160 x120_2).f1)).toNat) = some (.int .i64 (rd y156 ((rd_T41 y160 x120_2).f1)))) (ds := []) #[false, false, false, false, false, false, false, false, false, false, false, false, false, false, false, false, false, false, false] (by kernel_rfl) rfl rfl ⟨(blk_cell BK181.out 0).trans rfl, (blk_cell BK181.out 1).trans rfl, (blk_cell BK181.out 2).trans rfl, ((HB.out.cell (World.block_lt_of_cell? w _ hw182_0)).trans hw182_0), ((HB.out.cell (World.block_lt_of_cell? w _ hw183_0)).trans hw183_0)⟩ (fun hHeld => ?_); refine with_tabW gamehalllaw3_RatingPeriods.tab27 gamehalllaw3_RatingPeriods.bits27 (fun HT_ HW_ => ?_)
                              generalize wc.drew = w87 at HO_9 HO_14 BK181 HB hx182_0 hx183_0 hHeld ⊢
                              refine pure_ (i := 0) (N := some 185) (v := ?_) (a' := ?_) #[true, false, false, false, false, false, false, false, false, false, false, false, false, false, false, false, false, false, false] rfl rfl (any_of HT_.out (by kernel_rfl)) (fun _ _ _ h => h) (Or.inl ⟨by rfl, ?_⟩) ?_ ?_
                              rotate_left
                              ·intro w'
                               go_simp
                               with_reducible rfl
                              rotate_left
                              ·simp only [Act.put, List.setIfInBounds_toArray, List.set_cons_zero, List.set_cons_succ, i64_w, i32_w]
                               rfl
                              refine pure_ (i := 1) (N := some 186) (v := ?_) (a' := ?_) #[true, true, false, false, false, false, false, false, false, false, false, false, false, false, false, false, false, false, false] rfl rfl (any_of HT_.out (by kernel_rfl)) (fun _ _ _ h => h) (Or.inl ⟨by rfl, ?_⟩) ?_ ?_
                              rotate_left
                              ·intro w'
                               go_simp
                               with_reducible rfl
                              rotate_left
                              ·simp only [Act.put, List.setIfInBounds_toArray, List.set_cons_zero, List.set_cons_succ, i64_w, i32_w]
                               rfl
                              refine pure_ (i := 4) (N := some 189) (v := ?_) (a' := ?_) #[true, true, false, false, true, false, false, false, false, false, false, false, false, false, false, false, false, false, false] rfl rfl (any_of HT_.out (by kernel_rfl)) (fun _ _ _ h => h) (Or.inl ⟨by rfl, ?_⟩) ?_ ?_
                              rotate_left
                              ·intro w'
                               go_simp
                               with_reducible rfl
                              rotate_left
                              ·simp only [Act.put, List.setIfInBounds_toArray, List.set_cons_zero, List.set_cons_succ, i64_w, i32_w]
                               rfl
                              refine pure_ (i := 5) (N := some 190) (v := ?_) (a' := ?_) #[true, true, false, false, true, true, false, false, false, false, false, false, false, false, false, false, false, false, false] rfl rfl (any_of HT_.out (by kernel_rfl)) (fun _ _ _ h => h) (Or.inl ⟨by rfl, ?_⟩) ?_ ?_
                              rotate_left
                              ·intro w'
                               go_simp
                               with_reducible rfl
                              rotate_left
                              ·simp only [Act.put, List.setIfInBounds_toArray, List.set_cons_zero, List.set_cons_succ, i64_w, i32_w]
                               rfl
                              refine pure_ (i := 9) (N := some 194) (v := ?_) (a' := ?_) #[true, true, false, false, true, true, false, false, false, true, false, false, false, false, false, false, false, false, false] rfl rfl (any_of HT_.out (by kernel_rfl)) (fun _ _ _ h => h) (Or.inl ⟨by rfl, ?_⟩) ?_ ?_
                              rotate_left
                              ·intro w'
                               go_simp
                               with_reducible rfl
                              rotate_left
                              ·simp only [Act.put, List.setIfInBounds_toArray, List.set_cons_zero, List.set_cons_succ, i64_w, i32_w]
                               rfl
                              refine pure_ (i := 10) (N := some 195) (v := ?_) (a' := ?_) #[true, true, false, false, true, true, false, false, false, true, true, false, false, false, false, false, false, false, false] rfl rfl (any_of HT_.out (by kernel_rfl)) (fun _ _ _ h => h) (Or.inl ⟨by rfl, ?_⟩) ?_ ?_
                              rotate_left
                              ·intro w'
                               go_simp
                               with_reducible rfl
                              rotate_left
                              ·simp only [Act.put, List.setIfInBounds_toArray, List.set_cons_zero, List.set_cons_succ, i64_w, i32_w]
                               rfl
                              refine take_ (i := 2) (N := some 187) (v := ?_) (a' := ?_) #[true, true, true, false, true, true, false, false, false, true, true, false, false, false, false, false, false, false, false] rfl rfl (take_ofW HT_.out HW_.out (by kernel_rfl)) (fun _ _ _ h => h) (Or.inl ⟨by rfl, ?_⟩) hHeld ?_ ?_
                              rotate_left
                              ·rintro w' ⟨s0, s1, s2, s3, s4⟩
                               go_simp
                               with_reducible rfl
                              rotate_left
                              ·simp only [Act.put, List.setIfInBounds_toArray, List.set_cons_zero, List.set_cons_succ, i64_w, i32_w]
                               rfl
                              refine pure_ (i := 3) (N := some 188) (v := ?_) (a' := ?_) #[true, true, true, true, true, true, false, false, false, true, true, false, false, false, false, false, false, false, false] rfl rfl (any_of HT_.out (by kernel_rfl)) (fun _ _ _ h => h) (Or.inl ⟨by rfl, ?_⟩) ?_ ?_
                              rotate_left
                              ·intro w'
                               go_simp
                               with_reducible rfl
                              rotate_left
                              ·simp only [Act.put, List.setIfInBounds_toArray, List.set_cons_zero, List.set_cons_succ, i64_w, i32_w]
                               rfl
                              refine take_ (i := 6) (N := some 191) (v := ?_) (a' := ?_) #[true, true, true, true, true, true, true, false, false, true, true, false, false, false, false, false, false, false, false] rfl rfl (take_ofW HT_.out HW_.out (by kernel_rfl)) (fun _ _ _ h => h) (Or.inl ⟨by rfl, ?_⟩) hHeld ?_ ?_
                              rotate_left
                              ·rintro w' ⟨s0, s1, s2, s3, s4⟩
                               go_simp
                               with_reducible rfl
                              rotate_left
                              ·simp only [Act.put, List.setIfInBounds_toArray, List.set_cons_zero, List.set_cons_succ, i64_w, i32_w]
                               rfl
                              refine pure_ (i := 7) (N := some 192) (v := ?_) (a' := ?_) #[true, true, true, true, true, true, true, true, false, true, true, false, false, false, false, false, false, false, false] rfl rfl (any_of HT_.out (by kernel_rfl)) (fun _ _ _ h => h) (Or.inl ⟨by rfl, ?_⟩) ?_ ?_
                              rotate_left
                              ·intro w'
                               go_simp
                               with_reducible rfl
                              rotate_left
                              ·simp only [Act.put, List.setIfInBounds_toArray, List.set_cons_zero, List.set_cons_succ, i64_w, i32_w]
                               rfl
                              refine take_ (i := 8) (N := some 193) (v := ?_) (a' := ?_) #[true, true, true, true, true, true, true, true, true, true, true, false, false, false, false, false, false, false, false] rfl rfl (take_ofW HT_.out HW_.out (by kernel_rfl)) (fun _ _ _ h => h) (Or.inl ⟨by rfl, ?_⟩) hHeld ?_ ?_
                              rotate_left
                              ·rintro w' ⟨s0, s1, s2, s3, s4⟩
                               go_simp
                               with_reducible rfl
                              rotate_left
                              ·simp only [Act.put, List.setIfInBounds_toArray, List.set_cons_zero, List.set_cons_succ, i64_w, i32_w]
                               rfl
                              refine take_ (i := 11) (N := some 196) (v := ?_) (a' := ?_) #[true, true, true, true, true, true, true, true, true, true, true, true, false, false, false, false, false, false, false] rfl rfl (take_ofW HT_.out HW_.out (by kernel_rfl)) (fun _ _ _ h => h) (Or.inl ⟨by rfl, ?_⟩) hHeld ?_ ?_
                              rotate_left
                              ·rintro w' ⟨s0, s1, s2, s3, s4⟩
                               go_simp
                               with_reducible rfl
                              rotate_left
                              ·simp only [Act.put, List.setIfInBounds_toArray, List.set_cons_zero, List.set_cons_succ, i64_w, i32_w]
                               rfl
                              refine pure_ (i := 12) (N := some 197) (v := ?_) (a' := ?_) #[true, true, true, true, true, true, true, true, true, true, true, true, true, false, false, false, false, false, false] rfl rfl (any_of HT_.out (by kernel_rfl)) (fun _ _ _ h => h) (Or.inl ⟨by rfl, ?_⟩) ?_ ?_
                              rotate_left
                              ·intro w'
                               go_simp
                               with_reducible rfl
                              rotate_left
                              ·simp only [Act.put, List.setIfInBounds_toArray, List.set_cons_zero, List.set_cons_succ, i64_w, i32_w]
                               rfl
                              refine take_ (i := 13) (N := some 198) (v := ?_) (a' := ?_) #[true, true, true, true, true, true, true, true, true, true, true, true, true, true, false, false, false, false, false] rfl rfl (take_ofW HT_.out HW_.out (by kernel_rfl)) (fun _ _ _ h => h) (Or.inl ⟨by rfl, ?_⟩) hHeld ?_ ?_
                              rotate_left
                              ·rintro w' ⟨s0, s1, s2, s3, s4⟩
                               go_simp
                               with_reducible rfl
                              rotate_left
                              ·simp only [Act.put, List.setIfInBounds_toArray, List.set_cons_zero, List.set_cons_succ, i64_w, i32_w]
                               rfl
                              refine pure_ (i := 14) (N := some 199) (v := ?_) (a' := ?_) #[true, true, true, true, true, true, true, true, true, true, true, true, true, true, true, false, false, false, false] rfl rfl (any_of HT_.out (by kernel_rfl)) (fun _ _ _ h => h) (Or.inl ⟨by rfl, ?_⟩) ?_ ?_
                              rotate_left
                              ·intro w'
                               go_simp
                               with_reducible rfl
                              rotate_left
                              ·simp only [Act.put, List.setIfInBounds_toArray, List.set_cons_zero, List.set_cons_succ, i64_w, i32_w]
                               rfl
                              refine one_ (i := 15) (N := some 200) #[true, true, true, true, true, true, true, true, true, true, true, true, true, true, true, true, false, false, false] rfl rfl (one_of HT_.out (by kernel_rfl)) (by decide) (fun K hK => ?_)
                              refine goes_ Tryd.func14 (by kernel_rfl) rfl #[.int .i64 (wrap64 ((rd y156 ((rd_T41 y160 x120_2).f0)) - (rd y156 ((rd_T41 y160 x120_2).f1))))] (by rfl) rfl rfl (by (try simp only [List.map_toArray, List.map_cons, List.map_nil]); first | done | rfl | (simp only [List.length_drop, List.length_take]; rfl)) ?_
                              with_reducible refine (gamehallref3_Hundredths.calls kj64 (wrap64 ((rd y156 ((rd_T41 y160 x120_2).f0)) - (rd y156 ((rd_T41 y160 x120_2).f1)))) t184 _ A82.out).mono ?_
                              rintro e w88 ⟨rfl, hb⟩
                              refine ⟨_, rfl, ?_⟩
                              have n0_ := Aside0.mk (Kd.R_below (by (with_reducible repeat (first | apply Kd.R_alloc | apply Kd.R_drewN | apply Kd.R_drew)); exact HO_9.out) hb)
                              have n1_ := Aside0.mk (Kd.R_below (by (with_reducible repeat (first | apply Kd.R_alloc | apply Kd.R_drewN | apply Kd.R_drew)); exact HO_14.out) hb)
                              have n2_ := Aside0.mk (xB BK181 hb)
                              have n3_ := Aside0.mk (xS HB hb)
                              clear HO_9
                              clear HO_14
                              clear BK181
                              clear HB
                              have HO_9 := n0_
                              have HO_14 := n1_
                              have BK181 := n2_
                              have HB := n3_
                              clear n0_ n1_ n2_ n3_
                              (try clear hb)
                              (try clear hb2)
                              (try clear hk)
                              (try clear hi)
                              refine hK.out _ _ ⟨(blk_cell BK181.out 0).trans rfl, (blk_cell BK181.out 1).trans rfl, (blk_cell BK181.out 2).trans rfl, ((HB.out.cell (World.block_lt_of_cell? w _ hw182_0)).trans hw182_0), ((HB.out.cell (World.block_lt_of_cell? w _ hw183_0)).trans hw183_0)⟩ (fun hHeld => ?_)
                              clear hK K
                              refine norm_ (a' := ?_) ?_ ?_
                              rotate_left
                              ·show Act.put _ (some 200) _ = _
                               simp only [Act.put, List.setIfInBounds_toArray, List.set_cons_zero, List.set_cons_succ, i64_w, i32_w]
                               rfl
                              refine pure_ (i := 16) (N := some 201) (v := ?_) (a' := ?_) #[true, true, true, true, true, true, true, true, true, true, true, true, true, true, true, true, true, false, false] rfl rfl (any_of HT_.out (by kernel_rfl)) (fun _ _ _ h => h) (Or.inl ⟨by rfl, ?_⟩) ?_ ?_
                              rotate_left
                              ·intro w'
                               go_simp
                               with_reducible rfl
                              rotate_left
                              ·simp only [Act.put, List.setIfInBounds_toArray, List.set_cons_zero, List.set_cons_succ, i64_w, i32_w]
                               rfl
                              refine pure_ (i := 17) (N := some 202) (v := ?_) (a' := ?_) #[true, true, true, true, true, true, true, true, true, true, true, true, true, true, true, true, true, true, false] rfl rfl (any_of HT_.out (by kernel_rfl)) (fun _ _ _ h => h) (Or.inl ⟨by rfl, ?_⟩) ?_ ?_
                              rotate_left
                              ·intro w'
                               go_simp
                               with_reducible rfl
                              rotate_left
                              ·simp only [Act.put, List.setIfInBounds_toArray, List.set_cons_zero, List.set_cons_succ, i64_w, i32_w]
                               rfl
                              refine pure_ (i := 18) (N := some 17) (v := ?_) (a' := ?_) #[true, true, true, true, true, true, true, true, true, true, true, true, true, true, true, true, true, true, true] rfl rfl (any_of HT_.out (by kernel_rfl)) (fun _ _ _ h => h) (Or.inl ⟨by rfl, ?_⟩) ?_ ?_
                              rotate_left
                              ·intro w'
                               go_simp
                               with_reducible rfl
                              rotate_left
                              ·simp only [Act.put, List.setIfInBounds_toArray, List.set_cons_zero, List.set_cons_succ, i64_w, i32_w]
                               rfl
                              refine done_ (done_of HT_.out (by kernel_rfl)) ?_
                              have hcz89_0 := blkc3 BK181.out
                              obtain ⟨Ao90, co90, eo90⟩ := Kd.R_slice HO_14.out
                              subst eo90
                              have p185 : 0 ≤ (((rd_T41 y160 x120_2).f0) : Int) := of_decide_eq_true (by first | (with_reducible assumption) | assumption)
                              have q185 : ((rd_T41 y160 x120_2).f0) < (x14_2.length : Int) := of_decide_eq_true (by first | (with_reducible assumption) | assumption)
                              obtain ⟨ad185, e185, hx185_0⟩ := Kd.at_int (Kd.R_reads' HO_14.out).2.2 ((rd_T41 y160 x120_2).f0) p185 q185
                              cases e185
                              replace p185 := eq_true p185
                              replace q185 := eq_true q185
                              have p84 : 0 ≤ (((rd_T41 y160 x120_2).f0) : Int) := of_decide_eq_true (by first | (with_reducible assumption) | assumption)
                              have q84 : (((rd_T41 y160 x120_2).f0) : Int) < ((x14_2.length : Int) : Int) := of_decide_eq_true (by first | (with_reducible assumption) | assumption)
                              obtain ⟨go84, co84, eo84, gb84, gl84, cl84, HG84⟩ := Kd.R_form HO_14.out (by omega)
                              (first | cases eo84 | (injection eo84 with ea_ en_ ec_; (first | subst ea_ | (injection ea_ with ea_; subst ea_)); subst ec_; clear en_))
                              have GB84 := Aside0.mk gb84
                              have GG84 := Aside0.mk HG84
                              clear gb84 gl84 HG84
                              (first | simp only [add_plain] at hx185_0 | skip)
                              obtain ⟨hx84_0, hf84_0⟩ := Kd.R_celln 0 HO_14.out (((rd_T41 y160 x120_2).f0) : Int) p84 q84
                              replace p84 := eq_true p84
                              replace q84 := eq_true q84
                              obtain ⟨hy91_, hz91_⟩ := Kd.R_celln 0 HO_14.out (((rd_T41 y160 x120_2).f0) : Int) (of_decide_eq_true (by first | (with_reducible assumption) | assumption)) (of_decide_eq_true (by first | (with_reducible assumption) | assumption))
                              have HP91 := Kd.R_putg HO_14.out (((rd_T41 y160 x120_2).f0) : Int) (wrap64 ((rd x14_2 ((rd_T41 y160 x120_2).f0)) + (wrap64 (a2 * (wrap64 ((wrap64 (50 * ((rd_T41 y160 x120_2).f2))) - t184))))))
                              try go_wp2_with (first | ((with_reducible refine gate_store (t := 3) (p := 210) rfl ?_); refine store_event (t := 3) (p := 210) (v := ?vo_w92) (w1 := (w88.setCell ⟨go84, (((rd_T41 y160 x120_2).f0) : Int).toNat, none⟩ (.int .i64 (wrap64 ((rd x14_2 ((rd_T41 y160 x120_2).f0)) + (wrap64 (a2 * (wrap64 ((wrap64 (50 * ((rd_T41 y160 x120_2).f2))) - t184))))))))) ?hg ?ho ?hn ?hr ?_; (case ho => rfl); (case hg => rfl); (case hn => rfl); (case hr => first | (go_simp; done) | (go_simp; rfl)); intro w92 hw; have hg : w88.grownBy w92 (some go84) := (by rw [hw]; exact HP91.2); have hp_ : Kd.R (Kd.int .i64) 3 w92 w.heap.size (fun k_ => some k_ ≠ (v166 : Value).ownBlock) (.slice (some ⟨go84, 0, none⟩) x14_2.length co90) y186 := (by rw [hw, Ny186.out]; exact HP91.1); clear HP91; replace HO_9 := Aside0.mk (Kd.R_after (v := (.slice (some ⟨go84, 0, none⟩) x14_2.length co90)) (v1 := (.slice (some ⟨go84, 0, none⟩) x14_2.length co90)) (ok := (fun _ => True)) (by (with_reducible repeat (first | apply Kd.R_alloc | apply Kd.R_drewN | apply Kd.R_drew)); exact Kd.R_mono HO_9.out (fun _ hk => ⟨trivial, hk⟩)) hg (.inl rfl)); replace BK181 := Aside0.mk (blk_grown (g := gb181) (o := .cells #[.int .i64 ((rd_T41 y160 x120_2).f0), .int .i64 ((rd_T41 y160 x120_2).f1), .int .i64 ((rd_T41 y160 x120_2).f2)] 41 (0, 0)) (xK BK181) hg (Kd.R_ne HO_14.out BK181.out (by decide))); replace HO_14 := Aside0.mk (hp_); replace HB := Aside0.mk ((by rw [hw]; exact below_set (HB.out) GB84.out : Below w.heap.size w w92)); clear hg hw hp_; have hcz93_0 := blkc3 BK181.out; have p187 : 0 ≤ (((rd_T41 y160 x120_2).f1) : Int) := of_decide_eq_true (by first | (with_reducible assumption) | assumption); have q187 : ((rd_T41 y160 x120_2).f1) < (y186.length : Int) := (by have h_ : (((rd_T41 y160 x120_2).f1) : Int) < ((x14_2.length : Int) : Int) := of_decide_eq_true (by first | (with_reducible assumption) | assumption); first | (have e_ := (Kd.R_reads' HO_14.out).1; omega) | simpa only [Ny186.out, List.length_set] using h_); have ql187 : ((((rd_T41 y160 x120_2).f1) : Int) < ((x14_2.length : Int) : Int)) = True := eq_true (of_decide_eq_true (by first | (with_reducible assumption) | assumption)); obtain ⟨ad187, e187, hx187_0⟩ := Kd.at_int (Kd.R_reads' HO_14.out).2.2 ((rd_T41 y160 x120_2).f1) p187 q187; obtain rfl : (⟨go84, 0, none⟩ : Addr) = ad187 := (by injection e187); (first | simp only [add_plain] at hx187_0 | simp only [add_at] at hx187_0 | simp only [Addr.add, Nat.zero_add] at hx187_0 | skip); replace p187 := eq_true p187; replace q187 := eq_true q187; have p86 : 0 ≤ (((rd_T41 y160 x120_2).f1) : Int) := of_decide_eq_true (by first | (with_reducible assumption) | assumption); have q86 : (((rd_T41 y160 x120_2).f1) : Int) < ((x14_2.length : Int) : Int) := of_decide_eq_true (by first | (with_reducible assumption) | assumption); obtain ⟨hx86_0, hf86_0⟩ := Kd.R_celln 0 HO_14.out (((rd_T41 y160 x120_2).f1) : Int) p86 q86; replace p86 := eq_true p86; replace q86 := eq_true q86; obtain ⟨hy94_, hz94_⟩ := Kd.R_celln 0 HO_14.out (((rd_T41 y160 x120_2).f1) : Int) (of_decide_eq_true (by first | (with_reducible assumption) | assumption)) (of_decide_eq_true (by first | (with_reducible assumption) | assumption)); have HP94 := Kd.R_putg HO_14.out (((rd_T41 y160 x120_2).f1) : Int) (wrap64 ((rd y186 ((rd_T41 y160 x120_2).f1)) - (wrap64 (a2 * (wrap64 ((wrap64 (50 * ((rd_T41 y160 x120_2).f2))) - t184))))))) | ((with_reducible refine gate_store (t := 3) (p := 218) rfl ?_); refine store_event (t := 3) (p := 218) (v := ?vo_w95) (w1 := (w92.setCell ⟨go84, (((rd_T41 y160 x120_2).f1) : Int).toNat, none⟩ (.int .i64 (wrap64 ((rd y186 ((rd_T41 y160 x120_2).f1)) - (wrap64 (a2 * (wrap64 ((wrap64 (50 * ((rd_T41 y160 x120_2).f2))) - t184))))))))) ?hg ?ho ?hn ?hr ?_; (case ho => rfl); (case hg => rfl); (case hn => rfl); (case hr => first | (go_simp; done) | (go_simp; rfl)); intro w95 hw; have hg : w92.grownBy w95 (some go84) := (by rw [hw]; exact HP94.2); have hp_ : Kd.R (Kd.int .i64) 3 w95 w.heap.size (fun k_ => some k_ ≠ (v166 : Value).ownBlock) (.slice (some ⟨go84, 0, none⟩) x14_2.length co90) y188 := (by rw [hw, Ny188.out]; exact HP94.1); clear HP94; replace HO_9 := Aside0.mk (Kd.R_after (v := (.slice (some ⟨go84, 0, none⟩) x14_2.length co90)) (v1 := (.slice (some ⟨go84, 0, none⟩) x14_2.length co90)) (ok := (fun _ => True)) (by (with_reducible repeat (first | apply Kd.R_alloc | apply Kd.R_drewN | apply Kd.R_drew)); exact HO_9.out) hg (.inl rfl)); replace BK181 := Aside0.mk (blk_grown (g := gb181) (o := .cells #[.int .i64 ((rd_T41 y160 x120_2).f0), .int .i64 ((rd_T41 y160 x120_2).f1), .int .i64 ((rd_T41 y160 x120_2).f2)] 41 (0, 0)) (xK BK181) hg (Kd.R_ne HO_14.out BK181.out (by decide))); replace HO_14 := Aside0.mk (hp_); replace HB := Aside0.mk ((by rw [hw]; exact below_set (HB.out) GB84.out : Below w.heap.size w w95)); clear hg hw hp_))
                              go_roundg kj64
                              case measure => have := HJ16.out; have := HK2.out; have := HJ51.out; have := HJ64.out; omega
                              case rel => exact ⟨(y188), (wrap64 (x120_2 + 1)), (xrf), H', ⟨by have := HJ16.out; have := HK2.out; have := HJ51.out; have := HJ64.out; omega⟩, ⟨by (with_reducible repeat (first | apply Kd.R_alloc | apply Kd.R_drewN | apply Kd.R_drew)); exact Kd.R_mono HO_9.out (fun _ hk => hk.2)⟩, ⟨by (with_reducible repeat (first | apply Kd.R_alloc | apply Kd.R_drewN | apply Kd.R_drew)); exact HO_14.out⟩, ⟨xW HB⟩⟩
                            ·rw [if_neg c85] at H
                             exact absurd H (by simp)
                           ·rw [if_neg c83] at H
                            exact absurd H (by simp)
                          ·rw [if_neg c81] at H
                           exact absurd H (by simp)
                         ·rw [if_neg c80] at H
                          exact absurd H (by simp)
                        ·rw [if_neg c79] at H
                         exact absurd H (by simp)
                       ·rw [if_neg c78] at H
                        exact absurd H (by simp)
              ·rw [if_neg c51] at H
               exact absurd H (by simp)
             ·rw [if_neg c50] at H
              exact absurd H (by simp)
            ·as_aux_lemma =>
             rw [if_neg c49] at H
             have c49b0 : decide (x120_2 < (y160.length : Int)) = false := decide_eq_false c49
             clear c49
             replace H := Option.bind_eq_some_iff.mp H
             obtain ⟨t189, A960, H⟩ := H
             replace H : (if t189 = 0 then (if t165 = 0 then ((gamehalllaw3_sameInts.f k2 t164 x14_2).bind fun t190 => (some t190)) else (some false)) else (if t165 = t189 then (some ((t164.length : Int) == 0)) else (some false))) = some r := H
             have A96 := Aside0.mk A960
             clear A960
             by_cases c97 : t189 = 0
             ·as_aux_lemma =>
              rw [if_pos c97] at H
              have c97b0 : (t189 == 0) = true := beq_iff_eq.mpr c97
              have c97b1 : (t189 != 0) = false := bne_eq_false_iff_eq.mpr c97
              clear c97
              by_cases c98 : t165 = 0
              ·as_aux_lemma =>
               rw [if_pos c98] at H
               have c98b0 : (t165 == 0) = true := beq_iff_eq.mpr c98
               have c98b1 : (t165 != 0) = false := bne_eq_false_iff_eq.mpr c98
               clear c98
               replace H := Option.bind_eq_some_iff.mp H
               obtain ⟨t190, A990, H⟩ := H
               replace H : (some t190) = some r := H
               have A99 := Aside0.mk A990
               clear A990
               as_aux_lemma =>
                obtain rfl := Option.some.inj H
                obtain ⟨Ao100, co100, eo100⟩ := Kd.R_slice HO_14.out
                subst eo100
                go_wp2_with (first | ((with_reducible refine gate_callee (f := 16) rfl ?_); refine goesL_ (some 221) rfl rfl Tryd.func16 (by kernel_rfl) rfl #[.slice Ao100 x14_2.length co100] rfl (by (try simp only [List.map_toArray, List.map_cons, List.map_nil]); first | done | rfl | (simp only [List.length_drop, List.length_take]; rfl)) ?_; (with_reducible refine (rating_Check.calls k2 _ _ x14_2 t189 _ ?side1 ?side2 A96.out).mono ?_); (case side1 => repeat (first | exact (Kd.R_reads' HO_14.out).2.2 | (with_reducible refine Kd.C_alloc ?_ _) | (with_reducible refine Kd.C_drewN ?_ _) | (with_reducible refine Kd.C_drew ?_))); (case side2 => exact (Kd.R_reads' HO_14.out).2.1); rintro e w' ⟨rfl, ⟨nd, rfl⟩⟩; refine ⟨_, rfl, ?_⟩; obtain ⟨Ao101, co101, eo101⟩ := Kd.R_slice HO_9.out; subst eo101) | (go_at_call 19; (with_reducible refine (gamehalllaw3_sameInts.calls k2 _ _ t164 _ _ x14_2 t190 _ ?side1 ?side2 ?side3 ?side4 A99.out).mono ?_); (case side1 => repeat (first | exact (Kd.R_reads' HO_9.out).2.2 | (with_reducible refine Kd.C_alloc ?_ _) | (with_reducible refine Kd.C_drewN ?_ _) | (with_reducible refine Kd.C_drew ?_))); (case side2 => exact (Kd.R_reads' HO_9.out).2.1); (case side3 => repeat (first | exact (Kd.R_reads' HO_14.out).2.2 | (with_reducible refine Kd.C_alloc ?_ _) | (with_reducible refine Kd.C_drewN ?_ _) | (with_reducible refine Kd.C_drew ?_))); (case side4 => exact (Kd.R_reads' HO_14.out).2.1); rintro e w' ⟨rfl, ⟨nd, rfl⟩⟩))
                go_ret
                exact ⟨by first | rfl | (simp [errW_none, errW_some] <;> rfl) | (simp only [← hji7, ← hji10]; first | rfl | (simp [errW_none, errW_some] <;> rfl)) | (simp [*, errW_none, errW_some] <;> rfl), xW HB⟩
              ·rw [if_neg c98] at H
               have c98b0 : (t165 == 0) = false := beq_eq_false_iff_ne.mpr c98
               have c98b1 : (t165 != 0) = true := bne_iff_ne.mpr c98
               as_aux_lemma =>
                obtain rfl := Option.some.inj H
                obtain ⟨Ao102, co102, eo102⟩ := Kd.R_slice HO_14.out
                subst eo102
                go_wp2_with (first | ((with_reducible refine gate_callee (f := 16) rfl ?_); refine goesL_ (some 221) rfl rfl Tryd.func16 (by kernel_rfl) rfl #[.slice Ao102 x14_2.length co102] rfl (by (try simp only [List.map_toArray, List.map_cons, List.map_nil]); first | done | rfl | (simp only [List.length_drop, List.length_take]; rfl)) ?_; (with_reducible refine (rating_Check.calls k2 _ _ x14_2 t189 _ ?side1 ?side2 A96.out).mono ?_); (case side1 => repeat (first | exact (Kd.R_reads' HO_14.out).2.2 | (with_reducible refine Kd.C_alloc ?_ _) | (with_reducible refine Kd.C_drewN ?_ _) | (with_reducible refine Kd.C_drew ?_))); (case side2 => exact (Kd.R_reads' HO_14.out).2.1); rintro e w' ⟨rfl, ⟨nd, rfl⟩⟩; refine ⟨_, rfl, ?_⟩))
                go_ret
                exact ⟨by first | rfl | (simp [errW_none, errW_some] <;> rfl) | (simp only [← hji7, ← hji10]; first | rfl | (simp [errW_none, errW_some] <;> rfl)) | (simp [*, errW_none, errW_some] <;> rfl), xW HB⟩
             ·as_aux_lemma =>
              rw [if_neg c97] at H
              have c97b0 : (t189 == 0) = false := beq_eq_false_iff_ne.mpr c97
              have c97b1 : (t189 != 0) = true := bne_iff_ne.mpr c97
              by_cases c103 : t165 = t189
              ·rw [if_pos c103] at H
               have c103b0 : (t165 == t189) = true := beq_iff_eq.mpr c103
               have c103b1 : (t165 != t189) = false := bne_eq_false_iff_eq.mpr c103
               clear c103
               as_aux_lemma =>
                obtain rfl := Option.some.inj H
                obtain ⟨Ao104, co104, eo104⟩ := Kd.R_slice HO_14.out
                subst eo104
                go_wp2_with (first | ((with_reducible refine gate_callee (f := 16) rfl ?_); refine goesL_ (some 221) rfl rfl Tryd.func16 (by kernel_rfl) rfl #[.slice Ao104 x14_2.length co104] rfl (by (try simp only [List.map_toArray, List.map_cons, List.map_nil]); first | done | rfl | (simp only [List.length_drop, List.length_take]; rfl)) ?_; (with_reducible refine (rating_Check.calls k2 _ _ x14_2 t189 _ ?side1 ?side2 A96.out).mono ?_); (case side1 => repeat (first | exact (Kd.R_reads' HO_14.out).2.2 | (with_reducible refine Kd.C_alloc ?_ _) | (with_reducible refine Kd.C_drewN ?_ _) | (with_reducible refine Kd.C_drew ?_))); (case side2 => exact (Kd.R_reads' HO_14.out).2.1); rintro e w' ⟨rfl, ⟨nd, rfl⟩⟩; refine ⟨_, rfl, ?_⟩; obtain ⟨Ao105, co105, eo105⟩ := Kd.R_slice HO_9.out; subst eo105))
                go_ret
                exact ⟨by first | rfl | (simp [errW_none, errW_some] <;> rfl) | (simp only [← hji7, ← hji10]; first | rfl | (simp [errW_none, errW_some] <;> rfl)) | (simp [*, errW_none, errW_some] <;> rfl), xW HB⟩
              ·rw [if_neg c103] at H
               have c103b0 : (t165 == t189) = false := beq_eq_false_iff_ne.mpr c103
               have c103b1 : (t165 != t189) = true := bne_iff_ne.mpr c103
               as_aux_lemma =>
                obtain rfl := Option.some.inj H
                obtain ⟨Ao106, co106, eo106⟩ := Kd.R_slice HO_14.out
                subst eo106
                go_wp2_with (first | ((with_reducible refine gate_callee (f := 16) rfl ?_); refine goesL_ (some 221) rfl rfl Tryd.func16 (by kernel_rfl) rfl #[.slice Ao106 x14_2.length co106] rfl (by (try simp only [List.map_toArray, List.map_cons, List.map_nil]); first | done | rfl | (simp only [List.length_drop, List.length_take]; rfl)) ?_; (with_reducible refine (rating_Check.calls k2 _ _ x14_2 t189 _ ?side1 ?side2 A96.out).mono ?_); (case side1 => repeat (first | exact (Kd.R_reads' HO_14.out).2.2 | (with_reducible refine Kd.C_alloc ?_ _) | (with_reducible refine Kd.C_drewN ?_ _) | (with_reducible refine Kd.C_drew ?_))); (case side2 => exact (Kd.R_reads' HO_14.out).2.1); rintro e w' ⟨rfl, ⟨nd, rfl⟩⟩; refine ⟨_, rfl, ?_⟩))
                go_ret
                exact ⟨by first | rfl | (simp [errW_none, errW_some] <;> rfl) | (simp only [← hji7, ← hji10]; first | rfl | (simp [errW_none, errW_some] <;> rfl)) | (simp [*, errW_none, errW_some] <;> rfl), xW HB⟩
         ·rw [if_neg c45] at H
          exact absurd H (by simp)
      ·as_aux_lemma =>
       rw [if_neg c16] at H
       have c16b0 : (t170 == 0) = false := beq_eq_false_iff_ne.mpr c16
       have c16b1 : (t170 != 0) = true := bne_iff_ne.mpr c16
       by_cases c107 : t165 = t170
       ·as_aux_lemma =>
        rw [if_pos c107] at H
        have c107b0 : (t165 == t170) = true := beq_iff_eq.mpr c107
        have c107b1 : (t165 != t170) = false := bne_eq_false_iff_eq.mpr c107
        clear c107
        by_cases c108 : t169 = t170
        ·as_aux_lemma =>
         rw [if_pos c108] at H
         have c108b0 : (t169 == t170) = true := beq_iff_eq.mpr c108
         have c108b1 : (t169 != t170) = false := bne_eq_false_iff_eq.mpr c108
         clear c108
         as_aux_lemma =>
          obtain rfl := Option.some.inj H
          go_enter Tryd.func5, Tryd.ntmps5
          try go_wp2_with (first | ((with_reducible refine gate_callee (f := 12) rfl ?_); refine goesL_ (some 19) rfl rfl Tryd.func12 (by kernel_rfl) rfl #[] rfl (by (try simp only [List.map_toArray, List.map_cons, List.map_nil]); first | done | rfl | (simp only [List.length_drop, List.length_take]; rfl)) ?_; (with_reducible refine (gamehalllaw3_rates.calls k  true _ A5.out ?sideL).mono ?_); (case sideL => exact xL hlaid); rintro e w' ⟨rfl, ⟨nd, rfl⟩⟩; refine ⟨_, rfl, ?_⟩))
          have n0_ := Aside0.mk (below_drew1 (pw_below_drewN HB.out nd))
          clear HB
          have HB := n0_
          clear n0_
          have q110 : ((ji7) : Int) ≤ ((l0.length : Int) : Int) := of_decide_eq_true (by first | (with_reducible assumption) | assumption)
          obtain ⟨i0110, hi0110, _, hsz110, _⟩ := info_parts info3
          have hroom110 : l0.length ≤ c0 := HC0.out
          have hC110 : Kd.C (Kd.int .i64) _ A0 l0.length l0 := HR0.out
          have hcut110 := cut_to (P := Tryd.prog) 22 3 .i64 Tryd.underlying22 hi0110 A0 l0.length c0 (ji7) (of_decide_eq_true (by first | (with_reducible assumption) | assumption)) q110 hroom110
          have hr110 := Kd.C_take (m := ((ji7) : Int).toNat) hC110 (by omega)
          have hy110 : y156.length = ((ji7) : Int).toNat := (by rw [Ny156.out, List.length_take]; omega)
          rw [← Ny156.out] at hr110
          rw [← hy110] at hcut110
          have HR159 := Aside0.mk hr110
          have HC159 := Aside0.mk (show y156.length ≤ c0 from by omega)
          clear hr110 hC110 hroom110 hi0110 hsz110
          have KY110 := Aside0.mk hy110
          clear hy110
          replace q110 := eq_true q110
          have q111 : ((ji10) : Int) ≤ ((l1.length : Int) : Int) := of_decide_eq_true (by first | (with_reducible assumption) | assumption)
          obtain ⟨i0111, hi0111, _, hsz111, _⟩ := info_parts info41
          have hroom111 : l1.length ≤ c1 := HC1.out
          have hC111 : Kd.C k41 _ A1 l1.length l1 := HR1.out
          have hcut111 := cut_to (P := Tryd.prog) 34 41 .i64 Tryd.underlying34 hi0111 A1 l1.length c1 (ji10) (of_decide_eq_true (by first | (with_reducible assumption) | assumption)) q111 hroom111
          have hr111 := Kd.C_take (m := ((ji10) : Int).toNat) hC111 (by omega)
          have hy111 : y160.length = ((ji10) : Int).toNat := (by rw [Ny160.out, List.length_take]; omega)
          rw [← Ny160.out] at hr111
          rw [← hy111] at hcut111
          have HR163 := Aside0.mk hr111
          have HC163 := Aside0.mk (show y160.length ≤ c1 from by omega)
          clear hr111 hC111 hroom111 hi0111 hsz111
          have KY111 := Aside0.mk hy111
          clear hy111
          replace q111 := eq_true q111
          refine start_ (n := 12) (S := fun w' => True) (ds := []) #[false, false, false, false, false, false, false, false, false, false, false, false] (by kernel_rfl) rfl rfl trivial (fun hHeld => ?_); refine with_tabW gamehalllaw3_RatingPeriods.tab3 gamehalllaw3_RatingPeriods.bits3 (fun HT_ HW_ => ?_)
          generalize (w.drewN nd).drew = w109 at HB HR159 HR163 hHeld ⊢
          refine pure_ (i := 0) (N := some 21) (v := ?_) (a' := ?_) #[true, false, false, false, false, false, false, false, false, false, false, false] rfl rfl (any_of HT_.out (by kernel_rfl)) (fun _ _ _ h => h) (Or.inl ⟨by rfl, ?_⟩) ?_ ?_
          rotate_left
          ·intro w'
           go_simp
           with_reducible rfl
          rotate_left
          ·simp only [Act.put, List.setIfInBounds_toArray, List.set_cons_zero, List.set_cons_succ, i64_w, i32_w]
           rfl
          refine pure_ (i := 1) (N := some 22) (v := ?_) (a' := ?_) #[true, true, false, false, false, false, false, false, false, false, false, false] rfl rfl (any_of HT_.out (by kernel_rfl)) (fun _ _ _ h => h) (Or.inl ⟨by rfl, ?_⟩) ?_ ?_
          rotate_left
          ·intro w'
           go_simp
           with_reducible rfl
          rotate_left
          ·simp only [Act.put, List.setIfInBounds_toArray, List.set_cons_zero, List.set_cons_succ, i64_w, i32_w]
           rfl
          refine pure_ (i := 2) (N := some 23) (v := ?_) (a' := ?_) #[true, true, true, false, false, false, false, false, false, false, false, false] rfl rfl (any_of HT_.out (by kernel_rfl)) (fun _ _ _ h => h) (Or.inl ⟨by rfl, ?_⟩) ?_ ?_
          rotate_left
          ·intro w'
           go_simp
           with_reducible rfl
          rotate_left
          ·simp only [Act.put, List.setIfInBounds_toArray, List.set_cons_zero, List.set_cons_succ, i64_w, i32_w]
           rfl
          refine pure_ (i := 3) (N := some 24) (v := ?_) (a' := ?_) #[true, true, true, true, false, false, false, false, false, false, false, false] rfl rfl (any_of HT_.out (by kernel_rfl)) (fun _ _ _ h => h) (Or.inl ⟨by rfl, ?_⟩) ?_ ?_
          rotate_left
          ·intro w'
           go_simp
           with_reducible rfl
          rotate_left
          ·simp only [Act.put, List.setIfInBounds_toArray, List.set_cons_zero, List.set_cons_succ, i64_w, i32_w]
           rfl
          refine pure_ (i := 4) (N := some 25) (v := ?_) (a' := ?_) #[true, true, true, true, true, false, false, false, false, false, false, false] rfl rfl (any_of HT_.out (by kernel_rfl)) (fun _ _ _ h => h) (Or.inl ⟨by rfl, ?_⟩) ?_ ?_
          rotate_left
          ·intro w'
           go_simp
           with_reducible rfl
          rotate_left
          ·simp only [Act.put, List.setIfInBounds_toArray, List.set_cons_zero, List.set_cons_succ, i64_w, i32_w]
           rfl
          refine pure_ (i := 5) (N := some 26) (v := ?_) (a' := ?_) #[true, true, true, true, true, true, false, false, false, false, false, false] rfl rfl (any_of HT_.out (by kernel_rfl)) (fun _ _ _ h => h) (Or.inl ⟨by rfl, ?_⟩) ?_ ?_
          rotate_left
          ·intro w'
           go_simp
           with_reducible rfl
          rotate_left
          ·simp only [Act.put, List.setIfInBounds_toArray, List.set_cons_zero, List.set_cons_succ, i64_w, i32_w]
           rfl
          refine pure_ (i := 6) (N := some 27) (v := ?_) (a' := ?_) #[true, true, true, true, true, true, true, false, false, false, false, false] rfl rfl (any_of HT_.out (by kernel_rfl)) (fun _ _ _ h => h) (Or.inl ⟨by rfl, ?_⟩) ?_ ?_
          rotate_left
          ·intro w'
           go_simp
           with_reducible rfl
          rotate_left
          ·simp only [Act.put, List.setIfInBounds_toArray, List.set_cons_zero, List.set_cons_succ, i64_w, i32_w]
           rfl
          refine pure_ (i := 7) (N := some 28) (v := ?_) (a' := ?_) #[true, true, true, true, true, true, true, true, false, false, false, false] rfl rfl (any_of HT_.out (by kernel_rfl)) (fun _ _ _ h => h) (Or.inl ⟨by rfl, ?_⟩) ?_ ?_
          rotate_left
          ·intro w'
           go_simp
           with_reducible rfl
          rotate_left
          ·simp only [Act.put, List.setIfInBounds_toArray, List.set_cons_zero, List.set_cons_succ, i64_w, i32_w]
           rfl
          refine pure_ (i := 8) (N := some 29) (v := ?_) (a' := ?_) #[true, true, true, true, true, true, true, true, true, false, false, false] rfl rfl (any_of HT_.out (by kernel_rfl)) (fun _ _ _ h => h) (Or.inl ⟨by rfl, ?_⟩) ?_ ?_
          rotate_left
          ·intro w'
           go_simp
           with_reducible rfl
          rotate_left
          ·simp only [Act.put, List.setIfInBounds_toArray, List.set_cons_zero, List.set_cons_succ, i64_w, i32_w]
           rfl
          refine pure_ (i := 9) (N := some 30) (v := ?_) (a' := ?_) #[true, true, true, true, true, true, true, true, true, true, false, false] rfl rfl (any_of HT_.out (by kernel_rfl)) (fun _ _ _ h => h) (Or.inl ⟨by rfl, ?_⟩) ?_ ?_
          rotate_left
          ·intro w'
           go_simp
           with_reducible rfl
          rotate_left
          ·simp only [Act.put, List.setIfInBounds_toArray, List.set_cons_zero, List.set_cons_succ, i64_w, i32_w]
           rfl
          refine pure_ (i := 10) (N := some 0) (v := ?_) (a' := ?_) #[true, true, true, true, true, true, true, true, true, true, true, false] rfl rfl (any_of HT_.out (by kernel_rfl)) (fun _ _ _ h => h) (Or.inl ⟨by rfl, ?_⟩) ?_ ?_
          rotate_left
          ·intro w'
           go_simp
           with_reducible rfl
          rotate_left
          ·simp only [Act.put, List.setIfInBounds_toArray, List.set_cons_zero, List.set_cons_succ, i64_w, i32_w]
           rfl
          refine pure_ (i := 11) (N := some 1) (v := ?_) (a' := ?_) #[true, true, true, true, true, true, true, true, true, true, true, true] rfl rfl (any_of HT_.out (by kernel_rfl)) (fun _ _ _ h => h) (Or.inl ⟨by rfl, ?_⟩) ?_ ?_
          rotate_left
          ·intro w'
           go_simp
           with_reducible rfl
          rotate_left
          ·simp only [Act.put, List.setIfInBounds_toArray, List.set_cons_zero, List.set_cons_succ, i64_w, i32_w]
           rfl
          refine done_ (done_of HT_.out (by kernel_rfl)) ?_
          try go_wp2_with (first | ((with_reducible refine gate_callee (f := 20) rfl ?_); refine goesL_ (some 35) rfl rfl Tryd.func20 (by kernel_rfl) rfl #[.slice A0 y156.length c0, .slice A1 y160.length c1, .int .i64 a2] rfl (by (try simp only [List.map_toArray, List.map_cons, List.map_nil]); first | done | rfl | (simp only [List.length_drop, List.length_take]; rfl)) ?_; (with_reducible refine (rating_Period.calls k _ _ y156 _ _ y160 a2 t164 t165 _ ?side1 ?side2 ?side3 ?side4 A13.out ?sideL).mono ?_); (case sideL => exact xL hlaid); (case side1 => exact xC (Kd.C_below HR159.out HB.out)); (case side2 => exact HC159.out); (case side3 => exact xC (Kd.C_below HR163.out HB.out)); (case side4 => exact HC163.out); rintro e w112 ⟨v166, rfl, ho0, hb⟩; refine ⟨_, rfl, ?_⟩; have HO167 := Aside0.mk (Kd.R_lower ho0 (below_size (xW HB))); replace HB := Aside0.mk (xS HB hb); (try clear hb); (try clear hb2); (try clear hk); (try clear hi); (try clear ho0)) | ((with_reducible refine gate_callee (f := 21) rfl ?_); refine goesL_ (some 41) rfl rfl Tryd.func21 (by kernel_rfl) rfl #[.slice A0 y156.length c0, .int .i64 a3] rfl (by (try simp only [List.map_toArray, List.map_cons, List.map_nil]); first | done | rfl | (simp only [List.length_drop, List.length_take]; rfl)) ?_; (with_reducible refine (rating_Performance.calls k _ _ y156 a3 t168 t169 _ ?side1 ?side2 A14.out ?sideL).mono ?_); (case sideL => exact xL hlaid); (case side1 => exact xC (Kd.C_below HR159.out HB.out)); (case side2 => exact HC159.out); rintro e w' ⟨rfl, ⟨nd, rfl⟩⟩; refine ⟨_, rfl, ?_⟩) | ((with_reducible refine gate_callee (f := 16) rfl ?_); refine goesL_ (some 45) rfl rfl Tryd.func16 (by kernel_rfl) rfl #[.slice A0 y156.length c0] rfl (by (try simp only [List.map_toArray, List.map_cons, List.map_nil]); first | done | rfl | (simp only [List.length_drop, List.length_take]; rfl)) ?_; (with_reducible refine (rating_Check.calls k _ _ y156 t170 _ ?side1 ?side2 A15.out).mono ?_); (case side1 => repeat (first | exact (Kd.C_below HR159.out (xW HB)) | (with_reducible refine Kd.C_alloc ?_ _) | (with_reducible refine Kd.C_drewN ?_ _) | (with_reducible refine Kd.C_drew ?_))); (case side2 => exact HC159.out); rintro e w' ⟨rfl, ⟨nd, rfl⟩⟩; refine ⟨_, rfl, ?_⟩; obtain ⟨Ao113, co113, eo113⟩ := Kd.R_slice HO167.out; subst eo113))
          go_ret
          exact ⟨by first | rfl | (simp [errW_none, errW_some] <;> rfl) | (simp only [← hji7, ← hji10]; first | rfl | (simp [errW_none, errW_some] <;> rfl)) | (simp [*, errW_none, errW_some] <;> rfl), xW HB⟩
        ·as_aux_lemma =>
         rw [if_neg c108] at H
         have c108b0 : (t169 == t170) = false := beq_eq_false_iff_ne.mpr c108
         have c108b1 : (t169 != t170) = true := bne_iff_ne.mpr c108
         as_aux_lemma =>
          obtain rfl := Option.some.inj H
          go_enter Tryd.func5, Tryd.ntmps5
          try go_wp2_with (first | ((with_reducible refine gate_callee (f := 12) rfl ?_); refine goesL_ (some 19) rfl rfl Tryd.func12 (by kernel_rfl) rfl #[] rfl (by (try simp only [List.map_toArray, List.map_cons, List.map_nil]); first | done | rfl | (simp only [List.length_drop, List.length_take]; rfl)) ?_; (with_reducible refine (gamehalllaw3_rates.calls k  true _ A5.out ?sideL).mono ?_); (case sideL => exact xL hlaid); rintro e w' ⟨rfl, ⟨nd, rfl⟩⟩; refine ⟨_, rfl, ?_⟩))
          have n0_ := Aside0.mk (below_drew1 (pw_below_drewN HB.out nd))
          clear HB
          have HB := n0_
          clear n0_
          have q115 : ((ji7) : Int) ≤ ((l0.length : Int) : Int) := of_decide_eq_true (by first | (with_reducible assumption) | assumption)
          obtain ⟨i0115, hi0115, _, hsz115, _⟩ := info_parts info3
          have hroom115 : l0.length ≤ c0 := HC0.out
          have hC115 : Kd.C (Kd.int .i64) _ A0 l0.length l0 := HR0.out
          have hcut115 := cut_to (P := Tryd.prog) 22 3 .i64 Tryd.underlying22 hi0115 A0 l0.length c0 (ji7) (of_decide_eq_true (by first | (with_reducible assumption) | assumption)) q115 hroom115
          have hr115 := Kd.C_take (m := ((ji7) : Int).toNat) hC115 (by omega)
          have hy115 : y156.length = ((ji7) : Int).toNat := (by rw [Ny156.out, List.length_take]; omega)
          rw [← Ny156.out] at hr115
          rw [← hy115] at hcut115
          have HR159 := Aside0.mk hr115
          have HC159 := Aside0.mk (show y156.length ≤ c0 from by omega)
          clear hr115 hC115 hroom115 hi0115 hsz115
          have KY115 := Aside0.mk hy115
          clear hy115
          replace q115 := eq_true q115
          have q116 : ((ji10) : Int) ≤ ((l1.length : Int) : Int) := of_decide_eq_true (by first | (with_reducible assumption) | assumption)
          obtain ⟨i0116, hi0116, _, hsz116, _⟩ := info_parts info41
          have hroom116 : l1.length ≤ c1 := HC1.out
          have hC116 : Kd.C k41 _ A1 l1.length l1 := HR1.out
          have hcut116 := cut_to (P := Tryd.prog) 34 41 .i64 Tryd.underlying34 hi0116 A1 l1.length c1 (ji10) (of_decide_eq_true (by first | (with_reducible assumption) | assumption)) q116 hroom116
          have hr116 := Kd.C_take (m := ((ji10) : Int).toNat) hC116 (by omega)
          have hy116 : y160.length = ((ji10) : Int).toNat := (by rw [Ny160.out, List.length_take]; omega)
          rw [← Ny160.out] at hr116
          rw [← hy116] at hcut116
          have HR163 := Aside0.mk hr116
          have HC163 := Aside0.mk (show y160.length ≤ c1 from by omega)
          clear hr116 hC116 hroom116 hi0116 hsz116
          have KY116 := Aside0.mk hy116
          clear hy116
          replace q116 := eq_true q116
          refine start_ (n := 12) (S := fun w' => True) (ds := []) #[false, false, false, false, false, false, false, false, false, false, false, false] (by kernel_rfl) rfl rfl trivial (fun hHeld => ?_); refine with_tabW gamehalllaw3_RatingPeriods.tab3 gamehalllaw3_RatingPeriods.bits3 (fun HT_ HW_ => ?_)
          generalize (w.drewN nd).drew = w114 at HB HR159 HR163 hHeld ⊢
          refine pure_ (i := 0) (N := some 21) (v := ?_) (a' := ?_) #[true, false, false, false, false, false, false, false, false, false, false, false] rfl rfl (any_of HT_.out (by kernel_rfl)) (fun _ _ _ h => h) (Or.inl ⟨by rfl, ?_⟩) ?_ ?_
          rotate_left
          ·intro w'
           go_simp
           with_reducible rfl
          rotate_left
          ·simp only [Act.put, List.setIfInBounds_toArray, List.set_cons_zero, List.set_cons_succ, i64_w, i32_w]
           rfl
          refine pure_ (i := 1) (N := some 22) (v := ?_) (a' := ?_) #[true, true, false, false, false, false, false, false, false, false, false, false] rfl rfl (any_of HT_.out (by kernel_rfl)) (fun _ _ _ h => h) (Or.inl ⟨by rfl, ?_⟩) ?_ ?_
          rotate_left
          ·intro w'
           go_simp
           with_reducible rfl
          rotate_left
          ·simp only [Act.put, List.setIfInBounds_toArray, List.set_cons_zero, List.set_cons_succ, i64_w, i32_w]
           rfl
          refine pure_ (i := 2) (N := some 23) (v := ?_) (a' := ?_) #[true, true, true, false, false, false, false, false, false, false, false, false] rfl rfl (any_of HT_.out (by kernel_rfl)) (fun _ _ _ h => h) (Or.inl ⟨by rfl, ?_⟩) ?_ ?_
          rotate_left
          ·intro w'
           go_simp
           with_reducible rfl
          rotate_left
          ·simp only [Act.put, List.setIfInBounds_toArray, List.set_cons_zero, List.set_cons_succ, i64_w, i32_w]
           rfl
          refine pure_ (i := 3) (N := some 24) (v := ?_) (a' := ?_) #[true, true, true, true, false, false, false, false, false, false, false, false] rfl rfl (any_of HT_.out (by kernel_rfl)) (fun _ _ _ h => h) (Or.inl ⟨by rfl, ?_⟩) ?_ ?_
          rotate_left
          ·intro w'
           go_simp
           with_reducible rfl
          rotate_left
          ·simp only [Act.put, List.setIfInBounds_toArray, List.set_cons_zero, List.set_cons_succ, i64_w, i32_w]
           rfl
          refine pure_ (i := 4) (N := some 25) (v := ?_) (a' := ?_) #[true, true, true, true, true, false, false, false, false, false, false, false] rfl rfl (any_of HT_.out (by kernel_rfl)) (fun _ _ _ h => h) (Or.inl ⟨by rfl, ?_⟩) ?_ ?_
          rotate_left
          ·intro w'
           go_simp
           with_reducible rfl
          rotate_left
          ·simp only [Act.put, List.setIfInBounds_toArray, List.set_cons_zero, List.set_cons_succ, i64_w, i32_w]
           rfl
          refine pure_ (i := 5) (N := some 26) (v := ?_) (a' := ?_) #[true, true, true, true, true, true, false, false, false, false, false, false] rfl rfl (any_of HT_.out (by kernel_rfl)) (fun _ _ _ h => h) (Or.inl ⟨by rfl, ?_⟩) ?_ ?_
          rotate_left
          ·intro w'
           go_simp
           with_reducible rfl
          rotate_left
          ·simp only [Act.put, List.setIfInBounds_toArray, List.set_cons_zero, List.set_cons_succ, i64_w, i32_w]
           rfl
          refine pure_ (i := 6) (N := some 27) (v := ?_) (a' := ?_) #[true, true, true, true, true, true, true, false, false, false, false, false] rfl rfl (any_of HT_.out (by kernel_rfl)) (fun _ _ _ h => h) (Or.inl ⟨by rfl, ?_⟩) ?_ ?_
          rotate_left
          ·intro w'
           go_simp
           with_reducible rfl
          rotate_left
          ·simp only [Act.put, List.setIfInBounds_toArray, List.set_cons_zero, List.set_cons_succ, i64_w, i32_w]
           rfl
          refine pure_ (i := 7) (N := some 28) (v := ?_) (a' := ?_) #[true, true, true, true, true, true, true, true, false, false, false, false] rfl rfl (any_of HT_.out (by kernel_rfl)) (fun _ _ _ h => h) (Or.inl ⟨by rfl, ?_⟩) ?_ ?_
          rotate_left
          ·intro w'
           go_simp
           with_reducible rfl
          rotate_left
          ·simp only [Act.put, List.setIfInBounds_toArray, List.set_cons_zero, List.set_cons_succ, i64_w, i32_w]
           rfl
          refine pure_ (i := 8) (N := some 29) (v := ?_) (a' := ?_) #[true, true, true, true, true, true, true, true, true, false, false, false] rfl rfl (any_of HT_.out (by kernel_rfl)) (fun _ _ _ h => h) (Or.inl ⟨by rfl, ?_⟩) ?_ ?_
          rotate_left
          ·intro w'
           go_simp
           with_reducible rfl
          rotate_left
          ·simp only [Act.put, List.setIfInBounds_toArray, List.set_cons_zero, List.set_cons_succ, i64_w, i32_w]
           rfl
          refine pure_ (i := 9) (N := some 30) (v := ?_) (a' := ?_) #[true, true, true, true, true, true, true, true, true, true, false, false] rfl rfl (any_of HT_.out (by kernel_rfl)) (fun _ _ _ h => h) (Or.inl ⟨by rfl, ?_⟩) ?_ ?_
          rotate_left
          ·intro w'
           go_simp
           with_reducible rfl
          rotate_left
          ·simp only [Act.put, List.setIfInBounds_toArray, List.set_cons_zero, List.set_cons_succ, i64_w, i32_w]
           rfl
          refine pure_ (i := 10) (N := some 0) (v := ?_) (a' := ?_) #[true, true, true, true, true, true, true, true, true, true, true, false] rfl rfl (any_of HT_.out (by kernel_rfl)) (fun _ _ _ h => h) (Or.inl ⟨by rfl, ?_⟩) ?_ ?_
          rotate_left
          ·intro w'
           go_simp
           with_reducible rfl
          rotate_left
          ·simp only [Act.put, List.setIfInBounds_toArray, List.set_cons_zero, List.set_cons_succ, i64_w, i32_w]
           rfl
          refine pure_ (i := 11) (N := some 1) (v := ?_) (a' := ?_) #[true, true, true, true, true, true, true, true, true, true, true, true] rfl rfl (any_of HT_.out (by kernel_rfl)) (fun _ _ _ h => h) (Or.inl ⟨by rfl, ?_⟩) ?_ ?_
          rotate_left
          ·intro w'
           go_simp
           with_reducible rfl
          rotate_left
          ·simp only [Act.put, List.setIfInBounds_toArray, List.set_cons_zero, List.set_cons_succ, i64_w, i32_w]
           rfl
          refine done_ (done_of HT_.out (by kernel_rfl)) ?_
          try go_wp2_with (first | ((with_reducible refine gate_callee (f := 20) rfl ?_); refine goesL_ (some 35) rfl rfl Tryd.func20 (by kernel_rfl) rfl #[.slice A0 y156.length c0, .slice A1 y160.length c1, .int .i64 a2] rfl (by (try simp only [List.map_toArray, List.map_cons, List.map_nil]); first | done | rfl | (simp only [List.length_drop, List.length_take]; rfl)) ?_; (with_reducible refine (rating_Period.calls k _ _ y156 _ _ y160 a2 t164 t165 _ ?side1 ?side2 ?side3 ?side4 A13.out ?sideL).mono ?_); (case sideL => exact xL hlaid); (case side1 => exact xC (Kd.C_below HR159.out HB.out)); (case side2 => exact HC159.out); (case side3 => exact xC (Kd.C_below HR163.out HB.out)); (case side4 => exact HC163.out); rintro e w117 ⟨v166, rfl, ho0, hb⟩; refine ⟨_, rfl, ?_⟩; have HO167 := Aside0.mk (Kd.R_lower ho0 (below_size (xW HB))); replace HB := Aside0.mk (xS HB hb); (try clear hb); (try clear hb2); (try clear hk); (try clear hi); (try clear ho0)) | ((with_reducible refine gate_callee (f := 21) rfl ?_); refine goesL_ (some 41) rfl rfl Tryd.func21 (by kernel_rfl) rfl #[.slice A0 y156.length c0, .int .i64 a3] rfl (by (try simp only [List.map_toArray, List.map_cons, List.map_nil]); first | done | rfl | (simp only [List.length_drop, List.length_take]; rfl)) ?_; (with_reducible refine (rating_Performance.calls k _ _ y156 a3 t168 t169 _ ?side1 ?side2 A14.out ?sideL).mono ?_); (case sideL => exact xL hlaid); (case side1 => exact xC (Kd.C_below HR159.out HB.out)); (case side2 => exact HC159.out); rintro e w' ⟨rfl, ⟨nd, rfl⟩⟩; refine ⟨_, rfl, ?_⟩) | ((with_reducible refine gate_callee (f := 16) rfl ?_); refine goesL_ (some 45) rfl rfl Tryd.func16 (by kernel_rfl) rfl #[.slice A0 y156.length c0] rfl (by (try simp only [List.map_toArray, List.map_cons, List.map_nil]); first | done | rfl | (simp only [List.length_drop, List.length_take]; rfl)) ?_; (with_reducible refine (rating_Check.calls k _ _ y156 t170 _ ?side1 ?side2 A15.out).mono ?_); (case side1 => repeat (first | exact (Kd.C_below HR159.out (xW HB)) | (with_reducible refine Kd.C_alloc ?_ _) | (with_reducible refine Kd.C_drewN ?_ _) | (with_reducible refine Kd.C_drew ?_))); (case side2 => exact HC159.out); rintro e w' ⟨rfl, ⟨nd, rfl⟩⟩; refine ⟨_, rfl, ?_⟩))
          go_ret
          exact ⟨by first | rfl | (simp [errW_none, errW_some] <;> rfl) | (simp only [← hji7, ← hji10]; first | rfl | (simp [errW_none, errW_some] <;> rfl)) | (simp [*, errW_none, errW_some] <;> rfl), xW HB⟩
       ·as_aux_lemma =>
        rw [if_neg c107] at H
        have c107b0 : (t165 == t170) = false := beq_eq_false_iff_ne.mpr c107
        have c107b1 : (t165 != t170) = true := bne_iff_ne.mpr c107
        as_aux_lemma =>
         obtain rfl := Option.some.inj H
         go_enter Tryd.func5, Tryd.ntmps5
         try go_wp2_with (first | ((with_reducible refine gate_callee (f := 12) rfl ?_); refine goesL_ (some 19) rfl rfl Tryd.func12 (by kernel_rfl) rfl #[] rfl (by (try simp only [List.map_toArray, List.map_cons, List.map_nil]); first | done | rfl | (simp only [List.length_drop, List.length_take]; rfl)) ?_; (with_reducible refine (gamehalllaw3_rates.calls k  true _ A5.out ?sideL).mono ?_); (case sideL => exact xL hlaid); rintro e w' ⟨rfl, ⟨nd, rfl⟩⟩; refine ⟨_, rfl, ?_⟩))
         have n0_ := Aside0.mk (below_drew1 (pw_below_drewN HB.out nd))
         clear HB
         have HB := n0_
         clear n0_
         have q119 : ((ji7) : Int) ≤ ((l0.length : Int) : Int) := of_decide_eq_true (by first | (with_reducible assumption) | assumption)
         obtain ⟨i0119, hi0119, _, hsz119, _⟩ := info_parts info3
         have hroom119 : l0.length ≤ c0 := HC0.out
         have hC119 : Kd.C (Kd.int .i64) _ A0 l0.length l0 := HR0.out
         have hcut119 := cut_to (P := Tryd.prog) 22 3 .i64 Tryd.underlying22 hi0119 A0 l0.length c0 (ji7) (of_decide_eq_true (by first | (with_reducible assumption) | assumption)) q119 hroom119
         have hr119 := Kd.C_take (m := ((ji7) : Int).toNat) hC119 (by omega)
         have hy119 : y156.length = ((ji7) : Int).toNat := (by rw [Ny156.out, List.length_take]; omega)
         rw [← Ny156.out] at hr119
         rw [← hy119] at hcut119
         have HR159 := Aside0.mk hr119
         have HC159 := Aside0.mk (show y156.length ≤ c0 from by omega)
         clear hr119 hC119 hroom119 hi0119 hsz119
         have KY119 := Aside0.mk hy119
         clear hy119
         replace q119 := eq_true q119
         have q120 : ((ji10) : Int) ≤ ((l1.length : Int) : Int) := of_decide_eq_true (by first | (with_reducible assumption) | assumption)
         obtain ⟨i0120, hi0120, _, hsz120, _⟩ := info_parts info41
         have hroom120 : l1.length ≤ c1 := HC1.out
         have hC120 : Kd.C k41 _ A1 l1.length l1 := HR1.out
         have hcut120 := cut_to (P := Tryd.prog) 34 41 .i64 Tryd.underlying34 hi0120 A1 l1.length c1 (ji10) (of_decide_eq_true (by first | (with_reducible assumption) | assumption)) q120 hroom120
         have hr120 := Kd.C_take (m := ((ji10) : Int).toNat) hC120 (by omega)
         have hy120 : y160.length = ((ji10) : Int).toNat := (by rw [Ny160.out, List.length_take]; omega)
         rw [← Ny160.out] at hr120
         rw [← hy120] at hcut120
         have HR163 := Aside0.mk hr120
         have HC163 := Aside0.mk (show y160.length ≤ c1 from by omega)
         clear hr120 hC120 hroom120 hi0120 hsz120
         have KY120 := Aside0.mk hy120
         clear hy120
         replace q120 := eq_true q120
         refine start_ (n := 12) (S := fun w' => True) (ds := []) #[false, false, false, false, false, false, false, false, false, false, false, false] (by kernel_rfl) rfl rfl trivial (fun hHeld => ?_); refine with_tabW gamehalllaw3_RatingPeriods.tab3 gamehalllaw3_RatingPeriods.bits3 (fun HT_ HW_ => ?_)
         generalize (w.drewN nd).drew = w118 at HB HR159 HR163 hHeld ⊢
         refine pure_ (i := 0) (N := some 21) (v := ?_) (a' := ?_) #[true, false, false, false, false, false, false, false, false, false, false, false] rfl rfl (any_of HT_.out (by kernel_rfl)) (fun _ _ _ h => h) (Or.inl ⟨by rfl, ?_⟩) ?_ ?_
         rotate_left
         ·intro w'
          go_simp
          with_reducible rfl
         rotate_left
         ·simp only [Act.put, List.setIfInBounds_toArray, List.set_cons_zero, List.set_cons_succ, i64_w, i32_w]
          rfl
         refine pure_ (i := 1) (N := some 22) (v := ?_) (a' := ?_) #[true, true, false, false, false, false, false, false, false, false, false, false] rfl rfl (any_of HT_.out (by kernel_rfl)) (fun _ _ _ h => h) (Or.inl ⟨by rfl, ?_⟩) ?_ ?_
         rotate_left
         ·intro w'
          go_simp
          with_reducible rfl
         rotate_left
         ·simp only [Act.put, List.setIfInBounds_toArray, List.set_cons_zero, List.set_cons_succ, i64_w, i32_w]
          rfl
         refine pure_ (i := 2) (N := some 23) (v := ?_) (a' := ?_) #[true, true, true, false, false, false, false, false, false, false, false, false] rfl rfl (any_of HT_.out (by kernel_rfl)) (fun _ _ _ h => h) (Or.inl ⟨by rfl, ?_⟩) ?_ ?_
         rotate_left
         ·intro w'
          go_simp
          with_reducible rfl
         rotate_left
         ·simp only [Act.put, List.setIfInBounds_toArray, List.set_cons_zero, List.set_cons_succ, i64_w, i32_w]
          rfl
         refine pure_ (i := 3) (N := some 24) (v := ?_) (a' := ?_) #[true, true, true, true, false, false, false, false, false, false, false, false] rfl rfl (any_of HT_.out (by kernel_rfl)) (fun _ _ _ h => h) (Or.inl ⟨by rfl, ?_⟩) ?_ ?_
         rotate_left
         ·intro w'
          go_simp
          with_reducible rfl
         rotate_left
         ·simp only [Act.put, List.setIfInBounds_toArray, List.set_cons_zero, List.set_cons_succ, i64_w, i32_w]
          rfl
         refine pure_ (i := 4) (N := some 25) (v := ?_) (a' := ?_) #[true, true, true, true, true, false, false, false, false, false, false, false] rfl rfl (any_of HT_.out (by kernel_rfl)) (fun _ _ _ h => h) (Or.inl ⟨by rfl, ?_⟩) ?_ ?_
         rotate_left
         ·intro w'
          go_simp
          with_reducible rfl
         rotate_left
         ·simp only [Act.put, List.setIfInBounds_toArray, List.set_cons_zero, List.set_cons_succ, i64_w, i32_w]
          rfl
         refine pure_ (i := 5) (N := some 26) (v := ?_) (a' := ?_) #[true, true, true, true, true, true, false, false, false, false, false, false] rfl rfl (any_of HT_.out (by kernel_rfl)) (fun _ _ _ h => h) (Or.inl ⟨by rfl, ?_⟩) ?_ ?_
         rotate_left
         ·intro w'
          go_simp
          with_reducible rfl
         rotate_left
         ·simp only [Act.put, List.setIfInBounds_toArray, List.set_cons_zero, List.set_cons_succ, i64_w, i32_w]
          rfl
         refine pure_ (i := 6) (N := some 27) (v := ?_) (a' := ?_) #[true, true, true, true, true, true, true, false, false, false, false, false] rfl rfl (any_of HT_.out (by kernel_rfl)) (fun _ _ _ h => h) (Or.inl ⟨by rfl, ?_⟩) ?_ ?_
         rotate_left
         ·intro w'
          go_simp
          with_reducible rfl
         rotate_left
         ·simp only [Act.put, List.setIfInBounds_toArray, List.set_cons_zero, List.set_cons_succ, i64_w, i32_w]
          rfl
         refine pure_ (i := 7) (N := some 28) (v := ?_) (a' := ?_) #[true, true, true, true, true, true, true, true, false, false, false, false] rfl rfl (any_of HT_.out (by kernel_rfl)) (fun _ _ _ h => h) (Or.inl ⟨by rfl, ?_⟩) ?_ ?_
         rotate_left
         ·intro w'
          go_simp
          with_reducible rfl
         rotate_left
         ·simp only [Act.put, List.setIfInBounds_toArray, List.set_cons_zero, List.set_cons_succ, i64_w, i32_w]
          rfl
         refine pure_ (i := 8) (N := some 29) (v := ?_) (a' := ?_) #[true, true, true, true, true, true, true, true, true, false, false, false] rfl rfl (any_of HT_.out (by kernel_rfl)) (fun _ _ _ h => h) (Or.inl ⟨by rfl, ?_⟩) ?_ ?_
         rotate_left
         ·intro w'
          go_simp
          with_reducible rfl
         rotate_left
         ·simp only [Act.put, List.setIfInBounds_toArray, List.set_cons_zero, List.set_cons_succ, i64_w, i32_w]
          rfl
         refine pure_ (i := 9) (N := some 30) (v := ?_) (a' := ?_) #[true, true, true, true, true, true, true, true, true, true, false, false] rfl rfl (any_of HT_.out (by kernel_rfl)) (fun _ _ _ h => h) (Or.inl ⟨by rfl, ?_⟩) ?_ ?_
         rotate_left
         ·intro w'
          go_simp
          with_reducible rfl
         rotate_left
         ·simp only [Act.put, List.setIfInBounds_toArray, List.set_cons_zero, List.set_cons_succ, i64_w, i32_w]
          rfl
         refine pure_ (i := 10) (N := some 0) (v := ?_) (a' := ?_) #[true, true, true, true, true, true, true, true, true, true, true, false] rfl rfl (any_of HT_.out (by kernel_rfl)) (fun _ _ _ h => h) (Or.inl ⟨by rfl, ?_⟩) ?_ ?_
         rotate_left
         ·intro w'
          go_simp
          with_reducible rfl
         rotate_left
         ·simp only [Act.put, List.setIfInBounds_toArray, List.set_cons_zero, List.set_cons_succ, i64_w, i32_w]
          rfl
         refine pure_ (i := 11) (N := some 1) (v := ?_) (a' := ?_) #[true, true, true, true, true, true, true, true, true, true, true, true] rfl rfl (any_of HT_.out (by kernel_rfl)) (fun _ _ _ h => h) (Or.inl ⟨by rfl, ?_⟩) ?_ ?_
         rotate_left
         ·intro w'
          go_simp
          with_reducible rfl
         rotate_left
         ·simp only [Act.put, List.setIfInBounds_toArray, List.set_cons_zero, List.set_cons_succ, i64_w, i32_w]
          rfl
         refine done_ (done_of HT_.out (by kernel_rfl)) ?_
         try go_wp2_with (first | ((with_reducible refine gate_callee (f := 20) rfl ?_); refine goesL_ (some 35) rfl rfl Tryd.func20 (by kernel_rfl) rfl #[.slice A0 y156.length c0, .slice A1 y160.length c1, .int .i64 a2] rfl (by (try simp only [List.map_toArray, List.map_cons, List.map_nil]); first | done | rfl | (simp only [List.length_drop, List.length_take]; rfl)) ?_; (with_reducible refine (rating_Period.calls k _ _ y156 _ _ y160 a2 t164 t165 _ ?side1 ?side2 ?side3 ?side4 A13.out ?sideL).mono ?_); (case sideL => exact xL hlaid); (case side1 => exact xC (Kd.C_below HR159.out HB.out)); (case side2 => exact HC159.out); (case side3 => exact xC (Kd.C_below HR163.out HB.out)); (case side4 => exact HC163.out); rintro e w121 ⟨v166, rfl, ho0, hb⟩; refine ⟨_, rfl, ?_⟩; have HO167 := Aside0.mk (Kd.R_lower ho0 (below_size (xW HB))); replace HB := Aside0.mk (xS HB hb); (try clear hb); (try clear hb2); (try clear hk); (try clear hi); (try clear ho0)) | ((with_reducible refine gate_callee (f := 21) rfl ?_); refine goesL_ (some 41) rfl rfl Tryd.func21 (by kernel_rfl) rfl #[.slice A0 y156.length c0, .int .i64 a3] rfl (by (try simp only [List.map_toArray, List.map_cons, List.map_nil]); first | done | rfl | (simp only [List.length_drop, List.length_take]; rfl)) ?_; (with_reducible refine (rating_Performance.calls k _ _ y156 a3 t168 t169 _ ?side1 ?side2 A14.out ?sideL).mono ?_); (case sideL => exact xL hlaid); (case side1 => exact xC (Kd.C_below HR159.out HB.out)); (case side2 => exact HC159.out); rintro e w' ⟨rfl, ⟨nd, rfl⟩⟩; refine ⟨_, rfl, ?_⟩) | ((with_reducible refine gate_callee (f := 16) rfl ?_); refine goesL_ (some 45) rfl rfl Tryd.func16 (by kernel_rfl) rfl #[.slice A0 y156.length c0] rfl (by (try simp only [List.map_toArray, List.map_cons, List.map_nil]); first | done | rfl | (simp only [List.length_drop, List.length_take]; rfl)) ?_; (with_reducible refine (rating_Check.calls k _ _ y156 t170 _ ?side1 ?side2 A15.out).mono ?_); (case side1 => repeat (first | exact (Kd.C_below HR159.out (xW HB)) | (with_reducible refine Kd.C_alloc ?_ _) | (with_reducible refine Kd.C_drewN ?_ _) | (with_reducible refine Kd.C_drew ?_))); (case side2 => exact HC159.out); rintro e w' ⟨rfl, ⟨nd, rfl⟩⟩; refine ⟨_, rfl, ?_⟩))
         go_ret
         exact ⟨by first | rfl | (simp [errW_none, errW_some] <;> rfl) | (simp only [← hji7, ← hji10]; first | rfl | (simp [errW_none, errW_some] <;> rfl)) | (simp [*, errW_none, errW_some] <;> rfl), xW HB⟩
     ·rw [if_neg c12] at H
      exact absurd H (by simp)
    ·rw [if_neg c11] at H
     exact absurd H (by simp)
   ·rw [if_neg c9] at H
    exact absurd H (by simp)
  ·rw [if_neg c8] at H
   exact absurd H (by simp)
 ·replace c6 := Bool.eq_false_iff.mpr c6
  subst c6
  have H1 : (some false) = some r := by rw [if_neg (show ¬ (false = true) by decide)] at H; exact H
  clear H
  have H := H1
  clear H1
  as_aux_lemma =>
   obtain rfl := Option.some.inj H
   go_enter Tryd.func5, Tryd.ntmps5
   go_wp2_with (first | ((with_reducible refine gate_callee (f := 12) rfl ?_); refine goesL_ (some 19) rfl rfl Tryd.func12 (by kernel_rfl) rfl #[] rfl (by (try simp only [List.map_toArray, List.map_cons, List.map_nil]); first | done | rfl | (simp only [List.length_drop, List.length_take]; rfl)) ?_; (with_reducible refine (gamehalllaw3_rates.calls k  false _ A5.out ?sideL).mono ?_); (case sideL => exact xL hlaid); rintro e w' ⟨rfl, ⟨nd, rfl⟩⟩; refine ⟨_, rfl, ?_⟩))
   go_ret
   exact ⟨xer, xW HB⟩
def wf41 (x : S41) : Prop := ((Lit.int .i64 x.f0).wf = true) ∧ (((Lit.int .i64 x.f1).wf = true) ∧ (((Lit.int .i64 x.f2).wf = true)))
theorem tells41 {W : World} : Tells Tryd.prog W 41 k41 wf41 := tells_iso (fun a => ⟨a.1, a.2.1, a.2.2⟩) (fun _ => rfl) (fun _ h => h) (tells_struct (l := [(3, 0), (3, 1), (3, 2)]) Tryd.underlying41 (by kernel_rfl) (tellsFs_cons (tells_int Tryd.underlying3) (by kernel_rfl) (tellsFs_cons (tells_int Tryd.underlying3) (by kernel_rfl) (tellsFs_one (tells_int Tryd.underlying3) (by kernel_rfl)))) (by kernel_rfl))

/-- THE ONE PURE STATEMENT of gamehalllaw3_RatingPeriods: yours. -/
def gamehalllaw3_RatingPeriods.Pure : Prop := ∀ (l0 : List Int) (l1 : List (S41)) (a2 : Int) (a3 : Int), (l0.length * 8 ≤ 140737488351232 ∧ ∀ y_ ∈ l0, (Lit.int .i64 y_).wf = true) → (l1.length * 24 ≤ 140737488351232 ∧ ∀ y_ ∈ l1, wf41 y_) → ((Lit.int .i64 a2).wf = true) → ((Lit.int .i64 a3).wf = true) → ∃ k, gamehalllaw3_RatingPeriods.f k l0 l1 a2 a3 = some true
theorem gamehalllaw3_RatingPeriods.walk (P : gamehalllaw3_RatingPeriods.Pure) (l0 : List Int) (A0 : Option Addr) (c0 : Nat) (l1 : List (S41)) (A1 : Option Addr) (c1 : Nat) (a2 : Int) (a3 : Int) (w : World) (hr0 : Kd.C (Kd.int .i64) w A0 l0.length l0) (hc0 : l0.length ≤ c0) (w0 : l0.length * 8 ≤ 140737488351232 ∧ ∀ y_ ∈ l0, (Lit.int .i64 y_).wf = true) (hr1 : Kd.C k41 w A1 l1.length l1) (hc1 : l1.length ≤ c1) (w1 : l1.length * 24 ≤ 140737488351232 ∧ ∀ y_ ∈ l1, wf41 y_) (w2 : (Lit.int .i64 a2).wf = true) (w3 : (Lit.int .i64 a3).wf = true) (hlaid : LaidS w) :
  Calls Tryd.prog 5 #[.slice A0 l0.length c0, .slice A1 l1.length c1, .int .i64 a2, .int .i64 a3] w fun e w' => e = .returned (.bool true) ∧ Below w.heap.size w w' := by
 obtain ⟨k, h⟩ := P l0 l1 a2 a3 w0 w1 w2 w3
 refine (gamehalllaw3_RatingPeriods.calls k A0 c0 l0 A1 c1 l1 a2 a3 true w hr0 hc0 hr1 hc1 h hlaid).mono ?_
 rintro e w' ⟨rfl, hd⟩
 exact ⟨rfl, hd⟩

end Go.Proofs.YtcncilipmekfhaaDoor.PRatingPeriods
