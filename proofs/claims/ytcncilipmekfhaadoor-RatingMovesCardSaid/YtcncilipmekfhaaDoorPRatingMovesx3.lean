-- Printed by a program of this claim's writer (wip/ext): an extension of the kit's print.
import Derived.Test.YtcncilipmekfhaaDoorPRatingMovesx0
import Derived.Test.YtcncilipmekfhaaDoorPRatingMovesx1
import Derived.Test.YtcncilipmekfhaaDoorPRatingMovesx2
namespace Go.Proofs.YtcncilipmekfhaaDoor.PRatingMoves
open Go.RowKit Go.Proofs.YtcncilipmekfhaaDoorW.PrintWords Go.Proofs.YtcncilipmekfhaaDoorW.PrintLast Go.Proofs.YtcncilipmekfhaaDoorW.PrintMore
attribute [local go_sem] max2_int min2_int max_two min_two max_three min_three max_four min_four   -- for this text's walks alone
set_option linter.unusedVariables false
set_option linter.unusedSimpArgs false

/-! ### gamehalllaw3_RatingMoves: function 4 -/
mutual
def gamehalllaw3_RatingMoves.j0 : Nat → List Int → List (S41) → Int → Bool → Option (Bool)
  | 0, _, _, _, _ => none
  | k + 1, x0, x1, x2, x46 => if x46 = true then (some false) else ((rating_All.f k x0 x1 x2).bind fun bt176 => (if (x0.length : Int) = 0 then (gamehalllaw3_RatingMoves.j1 k x0 x1 x2 bt176.1 bt176.2 0 true) else (gamehalllaw3_RatingMoves.j1 k x0 x1 x2 bt176.1 bt176.2 0 (decide ((x0.length : Int) > 64)))))
def gamehalllaw3_RatingMoves.j1 : Nat → List Int → List (S41) → Int → List Int → Int → Int → Bool → Option (Bool)
  | 0, _, _, _, _, _, _, _ => none
  | k + 1, x0, x1, x2, x9, x10, x11, x61 => if x61 = true then (gamehalllaw3_RatingMoves.j2 k x0 x1 x2 x9 x10 2) else (gamehalllaw3_RatingMoves.j2 k x0 x1 x2 x9 x10 x11)
def gamehalllaw3_RatingMoves.j2 : Nat → List Int → List (S41) → Int → List Int → Int → Int → Option (Bool)
  | 0, _, _, _, _, _, _ => none
  | k + 1, x0, x1, x2, x9, x10, x11 => gamehalllaw3_RatingMoves.l0 k x0 x1 x2 x9 x10 x11 x0 (x0.length : Int) 0
def gamehalllaw3_RatingMoves.l0 : Nat → List Int → List (S41) → Int → List Int → Int → Int → List Int → Int → Int → Option (Bool)
  | 0, _, _, _, _, _, _, _, _, _ => none
  | k + 1, x0, x1, x2, x9, x10, x11, x62, x63, x64 => if x64 < x63 then (if 0 ≤ x64 then (if x64 < (x62.length : Int) then (if x11 = 0 then (if (rd x62 x64) < (-1000000) then (gamehalllaw3_RatingMoves.l0 k x0 x1 x2 x9 x10 4 x62 x63 (wrap64 (x64 + 1))) else (if (rd x62 x64) > 1000000 then (gamehalllaw3_RatingMoves.l0 k x0 x1 x2 x9 x10 4 x62 x63 (wrap64 (x64 + 1))) else (gamehalllaw3_RatingMoves.l0 k x0 x1 x2 x9 x10 x11 x62 x63 (wrap64 (x64 + 1))))) else (gamehalllaw3_RatingMoves.l0 k x0 x1 x2 x9 x10 x11 x62 x63 (wrap64 (x64 + 1)))) else (none)) else (none)) else ((rating_Check.f k x0).bind fun t181 => (if t181 = x11 then (if x11 = 0 then ((some (([] : List Int) : List Int)).bind fun y182 => (if y182.length + x0.length < 17592186044416 then (gamehalllaw3_RatingMoves.l1 k x0 x2 x9 x10 x11 (y182 ++ x0) x1 (x1.length : Int) 0) else (none))) else (if x10 = x11 then (some ((x9.length : Int) == 0)) else (some false))) else (some false)))
def gamehalllaw3_RatingMoves.l1 : Nat → List Int → Int → List Int → Int → Int → List Int → List (S41) → Int → Int → Option (Bool)
  | 0, _, _, _, _, _, _, _, _, _ => none
  | k + 1, x0, x2, x9, x10, x11, x14, x96, x97, x98 => if x98 < x97 then (if 0 ≤ x98 then (if x98 < (x96.length : Int) then ((rating_Game.f k x14 ((rd_T41 x96 x98).f0) ((rd_T41 x96 x98).f1) ((rd_T41 x96 x98).f2) x2).bind fun bt191 => (if (mn ((rd_T41 x96 x98).f0) ((rd_T41 x96 x98).f1)) < 0 then (gamehalllaw3_RatingMoves.j5 k x0 x2 x9 x10 x11 x14 bt191.1 bt191.2 x96 x97 x98 true ((rd_T41 x96 x98).f0) ((rd_T41 x96 x98).f1) ((rd_T41 x96 x98).f2)) else (if (mx ((rd_T41 x96 x98).f0) ((rd_T41 x96 x98).f1)) ≥ (x0.length : Int) then (gamehalllaw3_RatingMoves.j5 k x0 x2 x9 x10 x11 x14 bt191.1 bt191.2 x96 x97 x98 true ((rd_T41 x96 x98).f0) ((rd_T41 x96 x98).f1) ((rd_T41 x96 x98).f2)) else (gamehalllaw3_RatingMoves.j5 k x0 x2 x9 x10 x11 x14 bt191.1 bt191.2 x96 x97 x98 (((rd_T41 x96 x98).f0) == ((rd_T41 x96 x98).f1)) ((rd_T41 x96 x98).f0) ((rd_T41 x96 x98).f1) ((rd_T41 x96 x98).f2))))) else (none)) else (none)) else (if x10 = 0 then ((gamehalllaw3_sameInts.f k x9 x14).bind fun t188 => (some t188)) else (some false))
def gamehalllaw3_RatingMoves.j5 : Nat → List Int → Int → List Int → Int → Int → List Int → List Int → Int → List (S41) → Int → Int → Bool → Int → Int → Int → Option (Bool)
  | 0, _, _, _, _, _, _, _, _, _, _, _, _, _, _, _ => none
  | k + 1, x0, x2, x9, x10, x11, x14, x17, x18, x96, x97, x98, x131, z191a, z191b, z191c => if x131 = true then (gamehalllaw3_RatingMoves.j7 k x0 x2 x9 x10 3 x14 x17 x18 x96 x97 x98 z191a z191b z191c) else (if z191c < 0 then (gamehalllaw3_RatingMoves.j6 k x0 x2 x9 x10 x11 x14 x17 x18 x96 x97 x98 true z191a z191b z191c) else (gamehalllaw3_RatingMoves.j6 k x0 x2 x9 x10 x11 x14 x17 x18 x96 x97 x98 (decide (z191c > 2)) z191a z191b z191c))
def gamehalllaw3_RatingMoves.j7 : Nat → List Int → Int → List Int → Int → Int → List Int → List Int → Int → List (S41) → Int → Int → Int → Int → Int → Option (Bool)
  | 0, _, _, _, _, _, _, _, _, _, _, _, _, _, _ => none
  | k + 1, x0, x2, x9, x10, x11, x14, x17, x18, x96, x97, x98, z191a, z191b, z191c => if x11 = 0 then (if 0 ≤ z191a then (if z191a < (x14.length : Int) then (if 0 ≤ z191b then (if z191b < (x14.length : Int) then ((gamehallref3_Hundredths.f k (wrap64 ((rd x14 z191a) - (rd x14 z191b)))).bind fun t197 => ((rating_Change.f k (rd x14 z191a) (rd x14 z191b) z191c x2).bind fun bt200 => (if bt200.2 = 0 then (gamehalllaw3_RatingMoves.j8 k x0 x2 x9 x10 x11 x14 x17 x18 (wrap64 (x2 * (wrap64 ((wrap64 (50 * z191c)) - t197)))) x96 x97 x98 (bt200.1 != (wrap64 (x2 * (wrap64 ((wrap64 (50 * z191c)) - t197))))) z191a z191b z191c) else (gamehalllaw3_RatingMoves.j8 k x0 x2 x9 x10 x11 x14 x17 x18 (wrap64 (x2 * (wrap64 ((wrap64 (50 * z191c)) - t197)))) x96 x97 x98 true z191a z191b z191c)))) else (none)) else (none)) else (none)) else (none)) else (if x18 = x11 then (if (x17.length : Int) = 0 then (if x10 = x11 then (some ((x9.length : Int) == 0)) else (some false)) else (some false)) else (some false))
def gamehalllaw3_RatingMoves.j8 : Nat → List Int → Int → List Int → Int → Int → List Int → List Int → Int → Int → List (S41) → Int → Int → Bool → Int → Int → Int → Option (Bool)
  | 0, _, _, _, _, _, _, _, _, _, _, _, _, _, _, _, _ => none
  | k + 1, x0, x2, x9, x10, x11, x14, x17, x18, x19, x96, x97, x98, x207, z191a, z191b, z191c => if x207 = true then (some false) else (gamehalllaw3_RatingMoves.l2 k x0 x2 x9 x10 x11 x14 x17 x18 x19 x96 x97 x98 z191a z191b z191c)
def gamehalllaw3_RatingMoves.j10 : Nat → List Int → Int → List Int → Int → Int → List Int → List Int → Int → Int → List (S41) → Int → Int → Int → Int → Int → Option (Bool)
  | 0, _, _, _, _, _, _, _, _, _, _, _, _, _, _, _ => none
  | k + 1, x0, x2, x9, x10, x11, x14, x17, x18, x19, x96, x97, x98, z191a, z191b, z191c => gamehalllaw3_RatingMoves.l3 k x0 x2 x9 x10 x11 x14 x17 x18 x19 x96 x97 x98 z191a z191b z191c
def gamehalllaw3_RatingMoves.l3 : Nat → List Int → Int → List Int → Int → Int → List Int → List Int → Int → Int → List (S41) → Int → Int → Int → Int → Int → Option (Bool)
  | 0, _, _, _, _, _, _, _, _, _, _, _, _, _, _, _ => none
  | k + 1, x0, x2, x9, x10, x11, x14, x17, x18, x19, x96, x97, x98, z191a, z191b, z191c => if x19 < 0 then (if 0 ≤ z191a then (if z191a < (x14.length : Int) then (if (wrap64 ((rd x14 z191a) + x19)) < (-1000000) then (gamehalllaw3_RatingMoves.l3 k x0 x2 x9 x10 x11 x14 x17 x18 (wrap64 (x19 + 1)) x96 x97 x98 z191a z191b z191c) else (if 0 ≤ z191b then (if z191b < (x14.length : Int) then (if (wrap64 ((rd x14 z191b) - x19)) > 1000000 then (gamehalllaw3_RatingMoves.l3 k x0 x2 x9 x10 x11 x14 x17 x18 (wrap64 (x19 + 1)) x96 x97 x98 z191a z191b z191c) else ((some (x14.set (z191a : Int).toNat (wrap64 ((rd x14 z191a) + x19)) : List Int)).bind fun y207 => ((some (y207.set (z191b : Int).toNat (wrap64 ((rd y207 z191b) - x19)) : List Int)).bind fun y209 => (if x18 = 0 then ((gamehalllaw3_sameInts.f k x17 y209).bind fun t210 => (if t210 = true then (gamehalllaw3_RatingMoves.l1 k x0 x2 x9 x10 x11 y209 x96 x97 (wrap64 (x98 + 1))) else (some false))) else (some false))))) else (none)) else (none))) else (none)) else (none)) else (if 0 ≤ z191a then (if z191a < (x14.length : Int) then ((some (x14.set (z191a : Int).toNat (wrap64 ((rd x14 z191a) + x19)) : List Int)).bind fun y212 => (if 0 ≤ z191b then (if z191b < (x14.length : Int) then ((some (y212.set (z191b : Int).toNat (wrap64 ((rd y212 z191b) - x19)) : List Int)).bind fun y214 => (if x18 = 0 then ((gamehalllaw3_sameInts.f k x17 y214).bind fun t215 => (if t215 = true then (gamehalllaw3_RatingMoves.l1 k x0 x2 x9 x10 x11 y214 x96 x97 (wrap64 (x98 + 1))) else (some false))) else (some false))) else (none)) else (none))) else (none)) else (none))
def gamehalllaw3_RatingMoves.l2 : Nat → List Int → Int → List Int → Int → Int → List Int → List Int → Int → Int → List (S41) → Int → Int → Int → Int → Int → Option (Bool)
  | 0, _, _, _, _, _, _, _, _, _, _, _, _, _, _, _ => none
  | k + 1, x0, x2, x9, x10, x11, x14, x17, x18, x19, x96, x97, x98, z191a, z191b, z191c => if x19 > 0 then (if 0 ≤ z191a then (if z191a < (x14.length : Int) then (if (wrap64 ((rd x14 z191a) + x19)) > 1000000 then (gamehalllaw3_RatingMoves.l2 k x0 x2 x9 x10 x11 x14 x17 x18 (wrap64 (x19 - 1)) x96 x97 x98 z191a z191b z191c) else (if 0 ≤ z191b then (if z191b < (x14.length : Int) then (if (wrap64 ((rd x14 z191b) - x19)) < (-1000000) then (gamehalllaw3_RatingMoves.l2 k x0 x2 x9 x10 x11 x14 x17 x18 (wrap64 (x19 - 1)) x96 x97 x98 z191a z191b z191c) else (gamehalllaw3_RatingMoves.j10 k x0 x2 x9 x10 x11 x14 x17 x18 x19 x96 x97 x98 z191a z191b z191c)) else (none)) else (none))) else (none)) else (none)) else (gamehalllaw3_RatingMoves.j10 k x0 x2 x9 x10 x11 x14 x17 x18 x19 x96 x97 x98 z191a z191b z191c)
def gamehalllaw3_RatingMoves.j6 : Nat → List Int → Int → List Int → Int → Int → List Int → List Int → Int → List (S41) → Int → Int → Bool → Int → Int → Int → Option (Bool)
  | 0, _, _, _, _, _, _, _, _, _, _, _, _, _, _, _ => none
  | k + 1, x0, x2, x9, x10, x11, x14, x17, x18, x96, x97, x98, x139, z191a, z191b, z191c => if x139 = true then (gamehalllaw3_RatingMoves.j7 k x0 x2 x9 x10 1 x14 x17 x18 x96 x97 x98 z191a z191b z191c) else (if x2 < 1 then (gamehalllaw3_RatingMoves.j7 k x0 x2 x9 x10 4 x14 x17 x18 x96 x97 x98 z191a z191b z191c) else (if x2 > 64 then (gamehalllaw3_RatingMoves.j7 k x0 x2 x9 x10 4 x14 x17 x18 x96 x97 x98 z191a z191b z191c) else (gamehalllaw3_RatingMoves.j7 k x0 x2 x9 x10 x11 x14 x17 x18 x96 x97 x98 z191a z191b z191c)))
end
def gamehalllaw3_RatingMoves.f (k : Nat) (l0 : List Int) (l1 : List (S41)) (a2 : Int) (a3 : Int) : Option (Bool) := (gamehalllaw3_rates.f k).bind fun t165 => (if t165 = true then (if 0 ≤ (mn (l0.length : Int) 70) then (if (mn (l0.length : Int) 70) ≤ (l0.length : Int) then ((some (l0.take ((mn (l0.length : Int) 70) : Int).toNat : List Int)).bind fun y166 => (if 0 ≤ (mn (l1.length : Int) 60) then (if (mn (l1.length : Int) 60) ≤ (l1.length : Int) then ((some (l1.take ((mn (l1.length : Int) 60) : Int).toNat : List (S41))).bind fun y170 => (if a3 > (-1099511627776) then (if a3 < 1099511627776 then ((rating_Expect.f k a3).bind fun t174 => ((gamehallref3_Hundredths.f k a3).bind fun t175 => (gamehalllaw3_RatingMoves.j0 k y166 y170 a2 (t174 != t175)))) else (gamehalllaw3_RatingMoves.j0 k y166 y170 a2 false)) else (gamehalllaw3_RatingMoves.j0 k y166 y170 a2 false))) else (none)) else (none))) else (none)) else (none)) else (some false))
theorem gamehalllaw3_RatingMoves.mono_l : ∀ k, (∀ y0 y1 y2 y3, LeO (gamehalllaw3_RatingMoves.j0 k y0 y1 y2 y3) (gamehalllaw3_RatingMoves.j0 (k + 1) y0 y1 y2 y3)) ∧ (∀ y0 y1 y2 y3 y4 y5 y6, LeO (gamehalllaw3_RatingMoves.j1 k y0 y1 y2 y3 y4 y5 y6) (gamehalllaw3_RatingMoves.j1 (k + 1) y0 y1 y2 y3 y4 y5 y6)) ∧ (∀ y0 y1 y2 y3 y4 y5, LeO (gamehalllaw3_RatingMoves.j2 k y0 y1 y2 y3 y4 y5) (gamehalllaw3_RatingMoves.j2 (k + 1) y0 y1 y2 y3 y4 y5)) ∧ (∀ y0 y1 y2 y3 y4 y5 y6 y7 y8, LeO (gamehalllaw3_RatingMoves.l0 k y0 y1 y2 y3 y4 y5 y6 y7 y8) (gamehalllaw3_RatingMoves.l0 (k + 1) y0 y1 y2 y3 y4 y5 y6 y7 y8)) ∧ (∀ y0 y1 y2 y3 y4 y5 y6 y7 y8, LeO (gamehalllaw3_RatingMoves.l1 k y0 y1 y2 y3 y4 y5 y6 y7 y8) (gamehalllaw3_RatingMoves.l1 (k + 1) y0 y1 y2 y3 y4 y5 y6 y7 y8)) ∧ (∀ y0 y1 y2 y3 y4 y5 y6 y7 y8 y9 y10 y11 y12 y13 y14, LeO (gamehalllaw3_RatingMoves.j5 k y0 y1 y2 y3 y4 y5 y6 y7 y8 y9 y10 y11 y12 y13 y14) (gamehalllaw3_RatingMoves.j5 (k + 1) y0 y1 y2 y3 y4 y5 y6 y7 y8 y9 y10 y11 y12 y13 y14)) ∧ (∀ y0 y1 y2 y3 y4 y5 y6 y7 y8 y9 y10 y11 y12 y13, LeO (gamehalllaw3_RatingMoves.j7 k y0 y1 y2 y3 y4 y5 y6 y7 y8 y9 y10 y11 y12 y13) (gamehalllaw3_RatingMoves.j7 (k + 1) y0 y1 y2 y3 y4 y5 y6 y7 y8 y9 y10 y11 y12 y13)) ∧ (∀ y0 y1 y2 y3 y4 y5 y6 y7 y8 y9 y10 y11 y12 y13 y14 y15, LeO (gamehalllaw3_RatingMoves.j8 k y0 y1 y2 y3 y4 y5 y6 y7 y8 y9 y10 y11 y12 y13 y14 y15) (gamehalllaw3_RatingMoves.j8 (k + 1) y0 y1 y2 y3 y4 y5 y6 y7 y8 y9 y10 y11 y12 y13 y14 y15)) ∧ (∀ y0 y1 y2 y3 y4 y5 y6 y7 y8 y9 y10 y11 y12 y13 y14, LeO (gamehalllaw3_RatingMoves.j10 k y0 y1 y2 y3 y4 y5 y6 y7 y8 y9 y10 y11 y12 y13 y14) (gamehalllaw3_RatingMoves.j10 (k + 1) y0 y1 y2 y3 y4 y5 y6 y7 y8 y9 y10 y11 y12 y13 y14)) ∧ (∀ y0 y1 y2 y3 y4 y5 y6 y7 y8 y9 y10 y11 y12 y13 y14, LeO (gamehalllaw3_RatingMoves.l3 k y0 y1 y2 y3 y4 y5 y6 y7 y8 y9 y10 y11 y12 y13 y14) (gamehalllaw3_RatingMoves.l3 (k + 1) y0 y1 y2 y3 y4 y5 y6 y7 y8 y9 y10 y11 y12 y13 y14)) ∧ (∀ y0 y1 y2 y3 y4 y5 y6 y7 y8 y9 y10 y11 y12 y13 y14, LeO (gamehalllaw3_RatingMoves.l2 k y0 y1 y2 y3 y4 y5 y6 y7 y8 y9 y10 y11 y12 y13 y14) (gamehalllaw3_RatingMoves.l2 (k + 1) y0 y1 y2 y3 y4 y5 y6 y7 y8 y9 y10 y11 y12 y13 y14)) ∧ (∀ y0 y1 y2 y3 y4 y5 y6 y7 y8 y9 y10 y11 y12 y13 y14, LeO (gamehalllaw3_RatingMoves.j6 k y0 y1 y2 y3 y4 y5 y6 y7 y8 y9 y10 y11 y12 y13 y14) (gamehalllaw3_RatingMoves.j6 (k + 1) y0 y1 y2 y3 y4 y5 y6 y7 y8 y9 y10 y11 y12 y13 y14))
  | 0 => ⟨fun _ _ _ _ r h => by simp [gamehalllaw3_RatingMoves.j0] at h, fun _ _ _ _ _ _ _ r h => by simp [gamehalllaw3_RatingMoves.j1] at h, fun _ _ _ _ _ _ r h => by simp [gamehalllaw3_RatingMoves.j2] at h, fun _ _ _ _ _ _ _ _ _ r h => by simp [gamehalllaw3_RatingMoves.l0] at h, fun _ _ _ _ _ _ _ _ _ r h => by simp [gamehalllaw3_RatingMoves.l1] at h, fun _ _ _ _ _ _ _ _ _ _ _ _ _ _ _ r h => by simp [gamehalllaw3_RatingMoves.j5] at h, fun _ _ _ _ _ _ _ _ _ _ _ _ _ _ r h => by simp [gamehalllaw3_RatingMoves.j7] at h, fun _ _ _ _ _ _ _ _ _ _ _ _ _ _ _ _ r h => by simp [gamehalllaw3_RatingMoves.j8] at h, fun _ _ _ _ _ _ _ _ _ _ _ _ _ _ _ r h => by simp [gamehalllaw3_RatingMoves.j10] at h, fun _ _ _ _ _ _ _ _ _ _ _ _ _ _ _ r h => by simp [gamehalllaw3_RatingMoves.l3] at h, fun _ _ _ _ _ _ _ _ _ _ _ _ _ _ _ r h => by simp [gamehalllaw3_RatingMoves.l2] at h, fun _ _ _ _ _ _ _ _ _ _ _ _ _ _ _ r h => by simp [gamehalllaw3_RatingMoves.j6] at h⟩
  | k + 1 => by
    obtain ⟨ih0, ih1, ih2, ih3, ih4, ih5, ih6, ih7, ih8, ih9, ih10, ih11⟩ := gamehalllaw3_RatingMoves.mono_l k
    refine ⟨?_, ?_, ?_, ?_, ?_, ?_, ?_, ?_, ?_, ?_, ?_, ?_⟩
    · intros
      unfold gamehalllaw3_RatingMoves.j0
      repeat' first
      | (with_reducible apply ih0)
      | (with_reducible apply ih1)
      | (with_reducible apply ih2)
      | (with_reducible apply ih3)
      | (with_reducible apply ih4)
      | (with_reducible apply ih5)
      | (with_reducible apply ih6)
      | (with_reducible apply ih7)
      | (with_reducible apply ih8)
      | (with_reducible apply ih9)
      | (with_reducible apply ih10)
      | (with_reducible apply ih11)
      | (with_reducible apply gamehalllaw3_rates.mono)
      | (with_reducible apply gamehalllaw3_sameInts.mono)
      | (with_reducible apply gamehallref3_Hundredths.mono)
      | (with_reducible apply rating_All.mono)
      | (with_reducible apply rating_Change.mono)
      | (with_reducible apply rating_Check.mono)
      | (with_reducible apply rating_Expect.mono)
      | (with_reducible apply rating_Game.mono)
      | (with_reducible exact LeO.refl _)
      | (with_reducible exact LeO.none _)
      | (with_reducible refine LeO.ite ?_ ?_)
      | (with_reducible refine LeO.bind ?_ (fun _ => ?_))
      | apply ih0
      | apply ih1
      | apply ih2
      | apply ih3
      | apply ih4
      | apply ih5
      | apply ih6
      | apply ih7
      | apply ih8
      | apply ih9
      | apply ih10
      | apply ih11
      | apply gamehalllaw3_rates.mono
      | apply gamehalllaw3_sameInts.mono
      | apply gamehallref3_Hundredths.mono
      | apply rating_All.mono
      | apply rating_Change.mono
      | apply rating_Check.mono
      | apply rating_Expect.mono
      | apply rating_Game.mono
      | exact LeO.none _
      | refine LeO.ite ?_ ?_
      | refine LeO.bind ?_ (fun _ => ?_)
    · intros
      unfold gamehalllaw3_RatingMoves.j1
      repeat' first
      | (with_reducible apply ih0)
      | (with_reducible apply ih1)
      | (with_reducible apply ih2)
      | (with_reducible apply ih3)
      | (with_reducible apply ih4)
      | (with_reducible apply ih5)
      | (with_reducible apply ih6)
      | (with_reducible apply ih7)
      | (with_reducible apply ih8)
      | (with_reducible apply ih9)
      | (with_reducible apply ih10)
      | (with_reducible apply ih11)
      | (with_reducible apply gamehalllaw3_rates.mono)
      | (with_reducible apply gamehalllaw3_sameInts.mono)
      | (with_reducible apply gamehallref3_Hundredths.mono)
      | (with_reducible apply rating_All.mono)
      | (with_reducible apply rating_Change.mono)
      | (with_reducible apply rating_Check.mono)
      | (with_reducible apply rating_Expect.mono)
      | (with_reducible apply rating_Game.mono)
      | (with_reducible exact LeO.refl _)
      | (with_reducible exact LeO.none _)
      | (with_reducible refine LeO.ite ?_ ?_)
      | (with_reducible refine LeO.bind ?_ (fun _ => ?_))
      | apply ih0
      | apply ih1
      | apply ih2
      | apply ih3
      | apply ih4
      | apply ih5
      | apply ih6
      | apply ih7
      | apply ih8
      | apply ih9
      | apply ih10
      | apply ih11
      | apply gamehalllaw3_rates.mono
      | apply gamehalllaw3_sameInts.mono
      | apply gamehallref3_Hundredths.mono
      | apply rating_All.mono
      | apply rating_Change.mono
      | apply rating_Check.mono
      | apply rating_Expect.mono
      | apply rating_Game.mono
      | exact LeO.none _
      | refine LeO.ite ?_ ?_
      | refine LeO.bind ?_ (fun _ => ?_)
    · intros
      unfold gamehalllaw3_RatingMoves.j2
      repeat' first
      | (with_reducible apply ih0)
      | (with_reducible apply ih1)
      | (with_reducible apply ih2)
      | (with_reducible apply ih3)
      | (with_reducible apply ih4)
      | (with_reducible apply ih5)
      | (with_reducible apply ih6)
      | (with_reducible apply ih7)
      | (with_reducible apply ih8)
      | (with_reducible apply ih9)
      | (with_reducible apply ih10)
      | (with_reducible apply ih11)
      | (with_reducible apply gamehalllaw3_rates.mono)
      | (with_reducible apply gamehalllaw3_sameInts.mono)
      | (with_reducible apply gamehallref3_Hundredths.mono)
      | (with_reducible apply rating_All.mono)
      | (with_reducible apply rating_Change.mono)
      | (with_reducible apply rating_Check.mono)
      | (with_reducible apply rating_Expect.mono)
      | (with_reducible apply rating_Game.mono)
      | (with_reducible exact LeO.refl _)
      | (with_reducible exact LeO.none _)
      | (with_reducible refine LeO.ite ?_ ?_)
      | (with_reducible refine LeO.bind ?_ (fun _ => ?_))
      | apply ih0
      | apply ih1
      | apply ih2
      | apply ih3
      | apply ih4
      | apply ih5
      | apply ih6
      | apply ih7
      | apply ih8
      | apply ih9
      | apply ih10
      | apply ih11
      | apply gamehalllaw3_rates.mono
      | apply gamehalllaw3_sameInts.mono
      | apply gamehallref3_Hundredths.mono
      | apply rating_All.mono
      | apply rating_Change.mono
      | apply rating_Check.mono
      | apply rating_Expect.mono
      | apply rating_Game.mono
      | exact LeO.none _
      | refine LeO.ite ?_ ?_
      | refine LeO.bind ?_ (fun _ => ?_)
    · intros
      unfold gamehalllaw3_RatingMoves.l0
      repeat' first
      | (with_reducible apply ih0)
      | (with_reducible apply ih1)
      | (with_reducible apply ih2)
      | (with_reducible apply ih3)
      | (with_reducible apply ih4)
      | (with_reducible apply ih5)
      | (with_reducible apply ih6)
      | (with_reducible apply ih7)
      | (with_reducible apply ih8)
      | (with_reducible apply ih9)
      | (with_reducible apply ih10)
      | (with_reducible apply ih11)
      | (with_reducible apply gamehalllaw3_rates.mono)
      | (with_reducible apply gamehalllaw3_sameInts.mono)
      | (with_reducible apply gamehallref3_Hundredths.mono)
      | (with_reducible apply rating_All.mono)
      | (with_reducible apply rating_Change.mono)
      | (with_reducible apply rating_Check.mono)
      | (with_reducible apply rating_Expect.mono)
      | (with_reducible apply rating_Game.mono)
      | (with_reducible exact LeO.refl _)
      | (with_reducible exact LeO.none _)
      | (with_reducible refine LeO.ite ?_ ?_)
      | (with_reducible refine LeO.bind ?_ (fun _ => ?_))
      | apply ih0
      | apply ih1
      | apply ih2
      | apply ih3
      | apply ih4
      | apply ih5
      | apply ih6
      | apply ih7
      | apply ih8
      | apply ih9
      | apply ih10
      | apply ih11
      | apply gamehalllaw3_rates.mono
      | apply gamehalllaw3_sameInts.mono
      | apply gamehallref3_Hundredths.mono
      | apply rating_All.mono
      | apply rating_Change.mono
      | apply rating_Check.mono
      | apply rating_Expect.mono
      | apply rating_Game.mono
      | exact LeO.none _
      | refine LeO.ite ?_ ?_
      | refine LeO.bind ?_ (fun _ => ?_)
    · intros
      unfold gamehalllaw3_RatingMoves.l1
      repeat' first
      | (with_reducible apply ih0)
      | (with_reducible apply ih1)
      | (with_reducible apply ih2)
      | (with_reducible apply ih3)
      | (with_reducible apply ih4)
      | (with_reducible apply ih5)
      | (with_reducible apply ih6)
      | (with_reducible apply ih7)
      | (with_reducible apply ih8)
      | (with_reducible apply ih9)
      | (with_reducible apply ih10)
      | (with_reducible apply ih11)
      | (with_reducible apply gamehalllaw3_rates.mono)
      | (with_reducible apply gamehalllaw3_sameInts.mono)
      | (with_reducible apply gamehallref3_Hundredths.mono)
      | (with_reducible apply rating_All.mono)
      | (with_reducible apply rating_Change.mono)
      | (with_reducible apply rating_Check.mono)
      | (with_reducible apply rating_Expect.mono)
      | (with_reducible apply rating_Game.mono)
      | (with_reducible exact LeO.refl _)
      | (with_reducible exact LeO.none _)
      | (with_reducible refine LeO.ite ?_ ?_)
      | (with_reducible refine LeO.bind ?_ (fun _ => ?_))
      | apply ih0
      | apply ih1
      | apply ih2
      | apply ih3
      | apply ih4
      | apply ih5
      | apply ih6
      | apply ih7
      | apply ih8
      | apply ih9
      | apply ih10
      | apply ih11
      | apply gamehalllaw3_rates.mono
      | apply gamehalllaw3_sameInts.mono
      | apply gamehallref3_Hundredths.mono
      | apply rating_All.mono
      | apply rating_Change.mono
      | apply rating_Check.mono
      | apply rating_Expect.mono
      | apply rating_Game.mono
      | exact LeO.none _
      | refine LeO.ite ?_ ?_
      | refine LeO.bind ?_ (fun _ => ?_)
    · intros
      unfold gamehalllaw3_RatingMoves.j5
      repeat' first
      | (with_reducible apply ih0)
      | (with_reducible apply ih1)
      | (with_reducible apply ih2)
      | (with_reducible apply ih3)
      | (with_reducible apply ih4)
      | (with_reducible apply ih5)
      | (with_reducible apply ih6)
      | (with_reducible apply ih7)
      | (with_reducible apply ih8)
      | (with_reducible apply ih9)
      | (with_reducible apply ih10)
      | (with_reducible apply ih11)
      | (with_reducible apply gamehalllaw3_rates.mono)
      | (with_reducible apply gamehalllaw3_sameInts.mono)
      | (with_reducible apply gamehallref3_Hundredths.mono)
      | (with_reducible apply rating_All.mono)
      | (with_reducible apply rating_Change.mono)
      | (with_reducible apply rating_Check.mono)
      | (with_reducible apply rating_Expect.mono)
      | (with_reducible apply rating_Game.mono)
      | (with_reducible exact LeO.refl _)
      | (with_reducible exact LeO.none _)
      | (with_reducible refine LeO.ite ?_ ?_)
      | (with_reducible refine LeO.bind ?_ (fun _ => ?_))
      | apply ih0
      | apply ih1
      | apply ih2
      | apply ih3
      | apply ih4
      | apply ih5
      | apply ih6
      | apply ih7
      | apply ih8
      | apply ih9
      | apply ih10
      | apply ih11
      | apply gamehalllaw3_rates.mono
      | apply gamehalllaw3_sameInts.mono
      | apply gamehallref3_Hundredths.mono
      | apply rating_All.mono
      | apply rating_Change.mono
      | apply rating_Check.mono
      | apply rating_Expect.mono
      | apply rating_Game.mono
      | exact LeO.none _
      | refine LeO.ite ?_ ?_
      | refine LeO.bind ?_ (fun _ => ?_)
    · intros
      unfold gamehalllaw3_RatingMoves.j7
      repeat' first
      | (with_reducible apply ih0)
      | (with_reducible apply ih1)
      | (with_reducible apply ih2)
      | (with_reducible apply ih3)
      | (with_reducible apply ih4)
      | (with_reducible apply ih5)
      | (with_reducible apply ih6)
      | (with_reducible apply ih7)
      | (with_reducible apply ih8)
      | (with_reducible apply ih9)
      | (with_reducible apply ih10)
      | (with_reducible apply ih11)
      | (with_reducible apply gamehalllaw3_rates.mono)
      | (with_reducible apply gamehalllaw3_sameInts.mono)
      | (with_reducible apply gamehallref3_Hundredths.mono)
      | (with_reducible apply rating_All.mono)
      | (with_reducible apply rating_Change.mono)
      | (with_reducible apply rating_Check.mono)
      | (with_reducible apply rating_Expect.mono)
      | (with_reducible apply rating_Game.mono)
      | (with_reducible exact LeO.refl _)
      | (with_reducible exact LeO.none _)
      | (with_reducible refine LeO.ite ?_ ?_)
      | (with_reducible refine LeO.bind ?_ (fun _ => ?_))
      | apply ih0
      | apply ih1
      | apply ih2
      | apply ih3
      | apply ih4
      | apply ih5
      | apply ih6
      | apply ih7
      | apply ih8
      | apply ih9
      | apply ih10
      | apply ih11
      | apply gamehalllaw3_rates.mono
      | apply gamehalllaw3_sameInts.mono
      | apply gamehallref3_Hundredths.mono
      | apply rating_All.mono
      | apply rating_Change.mono
      | apply rating_Check.mono
      | apply rating_Expect.mono
      | apply rating_Game.mono
      | exact LeO.none _
      | refine LeO.ite ?_ ?_
      | refine LeO.bind ?_ (fun _ => ?_)
    · intros
      unfold gamehalllaw3_RatingMoves.j8
      repeat' first
      | (with_reducible apply ih0)
      | (with_reducible apply ih1)
      | (with_reducible apply ih2)
      | (with_reducible apply ih3)
      | (with_reducible apply ih4)
      | (with_reducible apply ih5)
      | (with_reducible apply ih6)
      | (with_reducible apply ih7)
      | (with_reducible apply ih8)
      | (with_reducible apply ih9)
      | (with_reducible apply ih10)
      | (with_reducible apply ih11)
      | (with_reducible apply gamehalllaw3_rates.mono)
      | (with_reducible apply gamehalllaw3_sameInts.mono)
      | (with_reducible apply gamehallref3_Hundredths.mono)
      | (with_reducible apply rating_All.mono)
      | (with_reducible apply rating_Change.mono)
      | (with_reducible apply rating_Check.mono)
      | (with_reducible apply rating_Expect.mono)
      | (with_reducible apply rating_Game.mono)
      | (with_reducible exact LeO.refl _)
      | (with_reducible exact LeO.none _)
      | (with_reducible refine LeO.ite ?_ ?_)
      | (with_reducible refine LeO.bind ?_ (fun _ => ?_))
      | apply ih0
      | apply ih1
      | apply ih2
      | apply ih3
      | apply ih4
      | apply ih5
      | apply ih6
      | apply ih7
      | apply ih8
      | apply ih9
      | apply ih10
      | apply ih11
      | apply gamehalllaw3_rates.mono
      | apply gamehalllaw3_sameInts.mono
      | apply gamehallref3_Hundredths.mono
      | apply rating_All.mono
      | apply rating_Change.mono
      | apply rating_Check.mono
      | apply rating_Expect.mono
      | apply rating_Game.mono
      | exact LeO.none _
      | refine LeO.ite ?_ ?_
      | refine LeO.bind ?_ (fun _ => ?_)
    · intros
      unfold gamehalllaw3_RatingMoves.j10
      repeat' first
      | (with_reducible apply ih0)
      | (with_reducible apply ih1)
      | (with_reducible apply ih2)
      | (with_reducible apply ih3)
      | (with_reducible apply ih4)
      | (with_reducible apply ih5)
      | (with_reducible apply ih6)
      | (with_reducible apply ih7)
      | (with_reducible apply ih8)
      | (with_reducible apply ih9)
      | (with_reducible apply ih10)
      | (with_reducible apply ih11)
      | (with_reducible apply gamehalllaw3_rates.mono)
      | (with_reducible apply gamehalllaw3_sameInts.mono)
      | (with_reducible apply gamehallref3_Hundredths.mono)
      | (with_reducible apply rating_All.mono)
      | (with_reducible apply rating_Change.mono)
      | (with_reducible apply rating_Check.mono)
      | (with_reducible apply rating_Expect.mono)
      | (with_reducible apply rating_Game.mono)
      | (with_reducible exact LeO.refl _)
      | (with_reducible exact LeO.none _)
      | (with_reducible refine LeO.ite ?_ ?_)
      | (with_reducible refine LeO.bind ?_ (fun _ => ?_))
      | apply ih0
      | apply ih1
      | apply ih2
      | apply ih3
      | apply ih4
      | apply ih5
      | apply ih6
      | apply ih7
      | apply ih8
      | apply ih9
      | apply ih10
      | apply ih11
      | apply gamehalllaw3_rates.mono
      | apply gamehalllaw3_sameInts.mono
      | apply gamehallref3_Hundredths.mono
      | apply rating_All.mono
      | apply rating_Change.mono
      | apply rating_Check.mono
      | apply rating_Expect.mono
      | apply rating_Game.mono
      | exact LeO.none _
      | refine LeO.ite ?_ ?_
      | refine LeO.bind ?_ (fun _ => ?_)
    · intros
      unfold gamehalllaw3_RatingMoves.l3
      repeat' first
      | (with_reducible apply ih0)
      | (with_reducible apply ih1)
      | (with_reducible apply ih2)
      | (with_reducible apply ih3)
      | (with_reducible apply ih4)
      | (with_reducible apply ih5)
      | (with_reducible apply ih6)
      | (with_reducible apply ih7)
      | (with_reducible apply ih8)
      | (with_reducible apply ih9)
      | (with_reducible apply ih10)
      | (with_reducible apply ih11)
      | (with_reducible apply gamehalllaw3_rates.mono)
      | (with_reducible apply gamehalllaw3_sameInts.mono)
      | (with_reducible apply gamehallref3_Hundredths.mono)
      | (with_reducible apply rating_All.mono)
      | (with_reducible apply rating_Change.mono)
      | (with_reducible apply rating_Check.mono)
      | (with_reducible apply rating_Expect.mono)
      | (with_reducible apply rating_Game.mono)
      | (with_reducible exact LeO.refl _)
      | (with_reducible exact LeO.none _)
      | (with_reducible refine LeO.ite ?_ ?_)
      | (with_reducible refine LeO.bind ?_ (fun _ => ?_))
      | apply ih0
      | apply ih1
      | apply ih2
      | apply ih3
      | apply ih4
      | apply ih5
      | apply ih6
      | apply ih7
      | apply ih8
      | apply ih9
      | apply ih10
      | apply ih11
      | apply gamehalllaw3_rates.mono
      | apply gamehalllaw3_sameInts.mono
      | apply gamehallref3_Hundredths.mono
      | apply rating_All.mono
      | apply rating_Change.mono
      | apply rating_Check.mono
      | apply rating_Expect.mono
      | apply rating_Game.mono
      | exact LeO.none _
      | refine LeO.ite ?_ ?_
      | refine LeO.bind ?_ (fun _ => ?_)
    · intros
      unfold gamehalllaw3_RatingMoves.l2
      repeat' first
      | (with_reducible apply ih0)
      | (with_reducible apply ih1)
      | (with_reducible apply ih2)
      | (with_reducible apply ih3)
      | (with_reducible apply ih4)
      | (with_reducible apply ih5)
      | (with_reducible apply ih6)
      | (with_reducible apply ih7)
      | (with_reducible apply ih8)
      | (with_reducible apply ih9)
      | (with_reducible apply ih10)
      | (with_reducible apply ih11)
      | (with_reducible apply gamehalllaw3_rates.mono)
      | (with_reducible apply gamehalllaw3_sameInts.mono)
      | (with_reducible apply gamehallref3_Hundredths.mono)
      | (with_reducible apply rating_All.mono)
      | (with_reducible apply rating_Change.mono)
      | (with_reducible apply rating_Check.mono)
      | (with_reducible apply rating_Expect.mono)
      | (with_reducible apply rating_Game.mono)
      | (with_reducible exact LeO.refl _)
      | (with_reducible exact LeO.none _)
      | (with_reducible refine LeO.ite ?_ ?_)
      | (with_reducible refine LeO.bind ?_ (fun _ => ?_))
      | apply ih0
      | apply ih1
      | apply ih2
      | apply ih3
      | apply ih4
      | apply ih5
      | apply ih6
      | apply ih7
      | apply ih8
      | apply ih9
      | apply ih10
      | apply ih11
      | apply gamehalllaw3_rates.mono
      | apply gamehalllaw3_sameInts.mono
      | apply gamehallref3_Hundredths.mono
      | apply rating_All.mono
      | apply rating_Change.mono
      | apply rating_Check.mono
      | apply rating_Expect.mono
      | apply rating_Game.mono
      | exact LeO.none _
      | refine LeO.ite ?_ ?_
      | refine LeO.bind ?_ (fun _ => ?_)
    · intros
      unfold gamehalllaw3_RatingMoves.j6
      repeat' first
      | (with_reducible apply ih0)
      | (with_reducible apply ih1)
      | (with_reducible apply ih2)
      | (with_reducible apply ih3)
      | (with_reducible apply ih4)
      | (with_reducible apply ih5)
      | (with_reducible apply ih6)
      | (with_reducible apply ih7)
      | (with_reducible apply ih8)
      | (with_reducible apply ih9)
      | (with_reducible apply ih10)
      | (with_reducible apply ih11)
      | (with_reducible apply gamehalllaw3_rates.mono)
      | (with_reducible apply gamehalllaw3_sameInts.mono)
      | (with_reducible apply gamehallref3_Hundredths.mono)
      | (with_reducible apply rating_All.mono)
      | (with_reducible apply rating_Change.mono)
      | (with_reducible apply rating_Check.mono)
      | (with_reducible apply rating_Expect.mono)
      | (with_reducible apply rating_Game.mono)
      | (with_reducible exact LeO.refl _)
      | (with_reducible exact LeO.none _)
      | (with_reducible refine LeO.ite ?_ ?_)
      | (with_reducible refine LeO.bind ?_ (fun _ => ?_))
      | apply ih0
      | apply ih1
      | apply ih2
      | apply ih3
      | apply ih4
      | apply ih5
      | apply ih6
      | apply ih7
      | apply ih8
      | apply ih9
      | apply ih10
      | apply ih11
      | apply gamehalllaw3_rates.mono
      | apply gamehalllaw3_sameInts.mono
      | apply gamehallref3_Hundredths.mono
      | apply rating_All.mono
      | apply rating_Change.mono
      | apply rating_Check.mono
      | apply rating_Expect.mono
      | apply rating_Game.mono
      | exact LeO.none _
      | refine LeO.ite ?_ ?_
      | refine LeO.bind ?_ (fun _ => ?_)
theorem gamehalllaw3_RatingMoves.mono : ∀ a0 a1 a2 a3 k, LeO (gamehalllaw3_RatingMoves.f k a0 a1 a2 a3) (gamehalllaw3_RatingMoves.f (k + 1) a0 a1 a2 a3) := by
  intro a0 a1 a2 a3 k
  obtain ⟨ih0, ih1, ih2, ih3, ih4, ih5, ih6, ih7, ih8, ih9, ih10, ih11⟩ := gamehalllaw3_RatingMoves.mono_l k
  unfold gamehalllaw3_RatingMoves.f
  repeat' first
      | (with_reducible apply ih0)
      | (with_reducible apply ih1)
      | (with_reducible apply ih2)
      | (with_reducible apply ih3)
      | (with_reducible apply ih4)
      | (with_reducible apply ih5)
      | (with_reducible apply ih6)
      | (with_reducible apply ih7)
      | (with_reducible apply ih8)
      | (with_reducible apply ih9)
      | (with_reducible apply ih10)
      | (with_reducible apply ih11)
      | (with_reducible apply gamehalllaw3_rates.mono)
      | (with_reducible apply gamehalllaw3_sameInts.mono)
      | (with_reducible apply gamehallref3_Hundredths.mono)
      | (with_reducible apply rating_All.mono)
      | (with_reducible apply rating_Change.mono)
      | (with_reducible apply rating_Check.mono)
      | (with_reducible apply rating_Expect.mono)
      | (with_reducible apply rating_Game.mono)
      | (with_reducible exact LeO.refl _)
      | (with_reducible exact LeO.none _)
      | (with_reducible refine LeO.ite ?_ ?_)
      | (with_reducible refine LeO.bind ?_ (fun _ => ?_))
      | apply ih0
      | apply ih1
      | apply ih2
      | apply ih3
      | apply ih4
      | apply ih5
      | apply ih6
      | apply ih7
      | apply ih8
      | apply ih9
      | apply ih10
      | apply ih11
      | apply gamehalllaw3_rates.mono
      | apply gamehalllaw3_sameInts.mono
      | apply gamehallref3_Hundredths.mono
      | apply rating_All.mono
      | apply rating_Change.mono
      | apply rating_Check.mono
      | apply rating_Expect.mono
      | apply rating_Game.mono
      | exact LeO.none _
      | refine LeO.ite ?_ ?_
      | refine LeO.bind ?_ (fun _ => ?_)
def gamehalllaw3_RatingMoves.T3 : Bool × List (List Nat × List Nat) := (true, [([], []), ([], []), ([1], [1]), ([2], [2]), ([0, 3], [0, 3]), ([], []), ([], []), ([6], [6]), ([7], [7]), ([5, 8], [5, 8]), ([4, 0, 1, 2, 3, 4], [0, 1, 4]), ([9, 10, 0, 1, 2, 3, 4, 5, 6, 7, 8, 9, 10], [5, 6, 9])])
def gamehalllaw3_RatingMoves.B3 : List Nat := [0, 0, 2, 6, 15, 0, 0, 64, 192, 480, 31, 2047]
theorem gamehalllaw3_RatingMoves.tab3 : rtab .any (opsOf Tryd.f4 3) = gamehalllaw3_RatingMoves.T3 := by as_aux_lemma => kernel_rfl
theorem gamehalllaw3_RatingMoves.bits3 : waitsOk gamehalllaw3_RatingMoves.T3.2 gamehalllaw3_RatingMoves.B3 = true := by as_aux_lemma => kernel_rfl
def gamehalllaw3_RatingMoves.T33 : Bool × List (List Nat × List Nat) := (true, [([], []), ([], []), ([1], [1]), ([2], [2]), ([], []), ([], []), ([5], [5]), ([4, 6], [4, 6]), ([7], [7]), ([], []), ([], []), ([10], [10]), ([9, 11], [9, 11]), ([12], [12]), ([8, 13], [8, 13]), ([14], [14]), ([3, 15], [3, 15]), ([0, 16], [0, 16]), ([17, 15, 0, 1, 2, 3, 4, 5, 6, 7, 8, 9, 10, 11, 12, 13, 14, 15, 16, 17], [17])])
def gamehalllaw3_RatingMoves.B33 : List Nat := [0, 0, 2, 6, 0, 0, 32, 112, 240, 0, 0, 1024, 3584, 7680, 16368, 32752, 65534, 131071, 262143]
theorem gamehalllaw3_RatingMoves.tab33 : rtab .any (opsOf Tryd.f4 33) = gamehalllaw3_RatingMoves.T33 := by as_aux_lemma => kernel_rfl
theorem gamehalllaw3_RatingMoves.bits33 : waitsOk gamehalllaw3_RatingMoves.T33.2 gamehalllaw3_RatingMoves.B33 = true := by as_aux_lemma => kernel_rfl
def gamehalllaw3_RatingMoves.T34 : Bool × List (List Nat × List Nat) := (true, [([], []), ([], []), ([1], [1]), ([0, 2], [0, 2]), ([3], [3]), ([], []), ([], []), ([6], [6]), ([5, 7], [5, 7]), ([8], [8]), ([], []), ([10], [10]), ([], []), ([4, 9, 11, 12], [4, 9, 11, 12]), ([13], [13]), ([14], [14]), ([14], [14]), ([15, 13, 0, 1, 2, 3, 4, 5, 6, 7, 8, 9, 10, 11, 12, 13, 14, 15], [15]), ([16, 17, 0, 1, 2, 3, 4, 5, 6, 7, 8, 9, 10, 11, 12, 13, 14, 15, 16, 17], [16])])
def gamehalllaw3_RatingMoves.B34 : List Nat := [0, 0, 2, 7, 15, 0, 0, 64, 224, 480, 0, 1024, 0, 8191, 16383, 32767, 32767, 65535, 262143]
theorem gamehalllaw3_RatingMoves.tab34 : rtab .any (opsOf Tryd.f4 34) = gamehalllaw3_RatingMoves.T34 := by as_aux_lemma => kernel_rfl
theorem gamehalllaw3_RatingMoves.bits34 : waitsOk gamehalllaw3_RatingMoves.T34.2 gamehalllaw3_RatingMoves.B34 = true := by as_aux_lemma => kernel_rfl
set_option maxHeartbeats 80000000 in
set_option maxRecDepth 100000 in
theorem gamehalllaw3_RatingMoves.calls (k : Nat) (A0 : Option Addr) (c0 : Nat) (l0 : List Int) (A1 : Option Addr) (c1 : Nat) (l1 : List (S41)) (a2 : Int) (a3 : Int) (r : Bool) (w : World) (hr0 : Kd.C (Kd.int .i64) w A0 l0.length l0) (hc0 : l0.length ≤ c0) (hr1 : Kd.C k41 w A1 l1.length l1) (hc1 : l1.length ≤ c1) (h : gamehalllaw3_RatingMoves.f k l0 l1 a2 a3 = some r) (hlaid : LaidS w) :
    Calls Tryd.prog 4 #[.slice A0 l0.length c0, .slice A1 l1.length c1, .int .i64 a2, .int .i64 a3] w fun e w' => e = .returned (.bool r) ∧ Below w.heap.size w w' := by
 have hu41 := Tryd.underlying41; have HR0 := Aside0.mk hr0; have HC0 := Aside0.mk hc0; clear hr0 hc0; have HR1 := Aside0.mk hr1; have HC1 := Aside0.mk hc1; clear hr1 hc1; have HB := Aside0.mk (Below.refl w.heap.size w); have hss_ := @isSome_setCell
 have H : ((gamehalllaw3_rates.f k).bind fun t165 => (if t165 = true then (if 0 ≤ (mn (l0.length : Int) 70) then (if (mn (l0.length : Int) 70) ≤ (l0.length : Int) then ((some (l0.take ((mn (l0.length : Int) 70) : Int).toNat : List Int)).bind fun y166 => (if 0 ≤ (mn (l1.length : Int) 60) then (if (mn (l1.length : Int) 60) ≤ (l1.length : Int) then ((some (l1.take ((mn (l1.length : Int) 60) : Int).toNat : List (S41))).bind fun y170 => (if a3 > (-1099511627776) then (if a3 < 1099511627776 then ((rating_Expect.f k a3).bind fun t174 => ((gamehallref3_Hundredths.f k a3).bind fun t175 => (gamehalllaw3_RatingMoves.j0 k y166 y170 a2 (t174 != t175)))) else (gamehalllaw3_RatingMoves.j0 k y166 y170 a2 false)) else (gamehalllaw3_RatingMoves.j0 k y166 y170 a2 false))) else (none)) else (none))) else (none)) else (none)) else (some false))) = some r := h
 clear h; replace H := Option.bind_eq_some_iff.mp H
 obtain ⟨t165, A50, H⟩ := H
 try dsimp only at H
 have A5 := Aside0.mk A50; clear A50
 by_cases c6 : t165 = true
 ·subst c6
  rw [if_pos rfl] at H
  obtain ⟨ji7, hji7⟩ : ∃ j_ : Int, (mn (l0.length : Int) 70) = j_ := ⟨_, rfl⟩
  (first | rw [hji7] at H | simp only [hji7] at H)
  (try rw [hji7] at A5)
  (try (have hji7h : ji7 ≤ 70 := by (rw [← hji7]; unfold mn; (repeat' split) <;> omega)))
  (try (have hji7g : ji7 ≤ 64 := by omega))
  (try (have hji7l : 0 ≤ ji7 := by (rw [← hji7]; unfold mn; (repeat' split) <;> omega)))
  (try (have hji7m : 0 ≤ ji7 := by omega))
  have hji7_ : (if 70 < (l0.length : Int) then 70 else (l0.length : Int)) = ji7 := hji7
  by_cases c8 : 0 ≤ (ji7)
  ·as_aux_lemma =>
   rw [if_pos c8] at H
   have c8b0 := eq_true c8
   have c8b1 : decide (0 ≤ (ji7)) = true := decide_eq_true c8
   clear c8
   by_cases c9 : (ji7) ≤ (l0.length : Int)
   ·as_aux_lemma =>
    rw [if_pos c9] at H
    have c9b0 := eq_true c9
    have c9b1 : decide ((ji7) ≤ (l0.length : Int)) = true := decide_eq_true c9
    clear c9
    obtain ⟨y166, hy166⟩ : ∃ y_ : List Int, y_ = (l0.take ((ji7) : Int).toNat) := ⟨_, rfl⟩
    replace H : (if 0 ≤ (mn (l1.length : Int) 60) then (if (mn (l1.length : Int) 60) ≤ (l1.length : Int) then ((some (l1.take ((mn (l1.length : Int) 60) : Int).toNat : List (S41))).bind fun y170 => (if a3 > (-1099511627776) then (if a3 < 1099511627776 then ((rating_Expect.f k a3).bind fun t174 => ((gamehallref3_Hundredths.f k a3).bind fun t175 => (gamehalllaw3_RatingMoves.j0 k y166 y170 a2 (t174 != t175)))) else (gamehalllaw3_RatingMoves.j0 k y166 y170 a2 false)) else (gamehalllaw3_RatingMoves.j0 k y166 y170 a2 false))) else (none)) else (none)) = some r := by first | (rw [hy166]; with_reducible exact H) | (have H2_ := (Option.bind_some _ _).symm.trans H; rw [hy166]; with_reducible exact H2_) | (have H2_ := (Option.bind_some _ _).symm.trans H; with_reducible exact H2_) | with_reducible exact H | (rw [hy166]; exact H) | exact H
    have Ny166 := Aside0.mk hy166; clear hy166
    obtain ⟨ji10, hji10⟩ : ∃ j_ : Int, (mn (l1.length : Int) 60) = j_ := ⟨_, rfl⟩
    (first | rw [hji10] at H | simp only [hji10] at H)
    (try rw [hji10] at A5)
    (try (have hji10h : ji10 ≤ 60 := by (rw [← hji10]; unfold mn; (repeat' split) <;> omega)))
    (try (have hji10g : ji10 ≤ 64 := by omega))
    (try (have hji10l : 0 ≤ ji10 := by (rw [← hji10]; unfold mn; (repeat' split) <;> omega)))
    (try (have hji10m : 0 ≤ ji10 := by omega))
    have hji10_ : (if 60 < (l1.length : Int) then 60 else (l1.length : Int)) = ji10 := hji10
    by_cases c11 : 0 ≤ (ji10)
    ·as_aux_lemma =>
     rw [if_pos c11] at H
     have c11b0 := eq_true c11
     have c11b1 : decide (0 ≤ (ji10)) = true := decide_eq_true c11
     clear c11
     by_cases c12 : (ji10) ≤ (l1.length : Int)
     ·as_aux_lemma =>
      rw [if_pos c12] at H
      have c12b0 := eq_true c12
      have c12b1 : decide ((ji10) ≤ (l1.length : Int)) = true := decide_eq_true c12
      clear c12
      obtain ⟨y170, hy170⟩ : ∃ y_ : List (S41), y_ = (l1.take ((ji10) : Int).toNat) := ⟨_, rfl⟩
      replace H : (if a3 > (-1099511627776) then (if a3 < 1099511627776 then ((rating_Expect.f k a3).bind fun t174 => ((gamehallref3_Hundredths.f k a3).bind fun t175 => (gamehalllaw3_RatingMoves.j0 k y166 y170 a2 (t174 != t175)))) else (gamehalllaw3_RatingMoves.j0 k y166 y170 a2 false)) else (gamehalllaw3_RatingMoves.j0 k y166 y170 a2 false)) = some r := by first | (rw [hy170]; with_reducible exact H) | (have H2_ := (Option.bind_some _ _).symm.trans H; rw [hy170]; with_reducible exact H2_) | (have H2_ := (Option.bind_some _ _).symm.trans H; with_reducible exact H2_) | with_reducible exact H | (rw [hy170]; exact H) | exact H
      have Ny170 := Aside0.mk hy170; clear hy170; have HC13 := Aside0.mk H; clear H
      go_enter Tryd.func4, Tryd.ntmps4
      try go_wp2_with (first | ((with_reducible refine gate_callee (f := 12) rfl ?_); refine goesL_ (some 22) rfl rfl Tryd.func12 kr_ rfl #[] rfl (by (try simp only [List.map_toArray, List.map_cons, List.map_nil]); first | done | rfl | (simp only [List.length_drop, List.length_take]; rfl)) ?_; (with_reducible refine (gamehalllaw3_rates.calls k  true _ A5.out ?sideL).mono ?_); (case sideL => exact xL hlaid); rintro e w' ⟨rfl, ⟨nd, rfl⟩⟩; refine ⟨_, rfl, ?_⟩))
      replace HB := Aside0.mk (below_drew1 (pw_below_drewN HB.out nd))
      have q15 : ((ji7) : Int) ≤ ((l0.length : Int) : Int) := of_decide_eq_true (by first | (with_reducible assumption) | assumption)
      obtain ⟨i015, hi015, _, hsz15, _⟩ := info_parts info3
      have hroom15 : l0.length ≤ c0 := HC0.out
      have hC15 : Kd.C (Kd.int .i64) _ A0 l0.length l0 := HR0.out
      have hcut15 := cut_to (P := Tryd.prog) 22 3 .i64 Tryd.underlying22 hi015 A0 l0.length c0 (ji7) (of_decide_eq_true (by first | (with_reducible assumption) | assumption)) q15 hroom15
      have hr15 := Kd.C_take (m := ((ji7) : Int).toNat) hC15 (by omega)
      have hy15 : y166.length = ((ji7) : Int).toNat := (by rw [Ny166.out, List.length_take]; omega)
      rw [← Ny166.out] at hr15
      rw [← hy15] at hcut15
      have HR169 := Aside0.mk hr15
      have HC169 := Aside0.mk (show y166.length ≤ c0 from by omega)
      clear hr15 hC15 hroom15 hi015 hsz15; have KY15 := Aside0.mk hy15; clear hy15; replace q15 := eq_true q15
      have q16 : ((ji10) : Int) ≤ ((l1.length : Int) : Int) := of_decide_eq_true (by first | (with_reducible assumption) | assumption)
      obtain ⟨i016, hi016, _, hsz16, _⟩ := info_parts info41
      have hroom16 : l1.length ≤ c1 := HC1.out
      have hC16 : Kd.C k41 _ A1 l1.length l1 := HR1.out
      have hcut16 := cut_to (P := Tryd.prog) 34 41 .i64 Tryd.underlying34 hi016 A1 l1.length c1 (ji10) (of_decide_eq_true (by first | (with_reducible assumption) | assumption)) q16 hroom16
      have hr16 := Kd.C_take (m := ((ji10) : Int).toNat) hC16 (by omega)
      have hy16 : y170.length = ((ji10) : Int).toNat := (by rw [Ny170.out, List.length_take]; omega)
      rw [← Ny170.out] at hr16
      rw [← hy16] at hcut16
      have HR173 := Aside0.mk hr16
      have HC173 := Aside0.mk (show y170.length ≤ c1 from by omega)
      clear hr16 hC16 hroom16 hi016 hsz16; have KY16 := Aside0.mk hy16; clear hy16; replace q16 := eq_true q16
      refine start_ (n := 12) (S := fun w' => True) (ds := []) (mk 12 0) kr_ rfl rfl trivial (fun hHeld => ?_); refine with_tabW gamehalllaw3_RatingMoves.tab3 gamehalllaw3_RatingMoves.bits3 (fun HT_ HW_ => ?_)
      generalize (w.drewN nd).drew = w14 at HB HR169 HR173 hHeld ⊢; refine pu_ 0 24 HT_ ?_; refine pu_ 1 25 HT_ ?_; refine pu_ 2 26 HT_ ?_; refine pu_ 3 27 HT_ ?_; refine pu_ 4 28 HT_ ?_; refine pu_ 5 29 HT_ ?_; refine pu_ 6 30 HT_ ?_; refine pu_ 7 31 HT_ ?_; refine pu_ 8 32 HT_ ?_; refine pu_ 9 33 HT_ ?_; refine pu_ 10 0 HT_ ?_; refine pu_ 11 1 HT_ ?_
      refine done_ (done_of HT_.out kr_) ?_
      go_upto_region 4 with (fail)
      go_cut [46] (fun vs46 wc => ∃ (kq : Nat) (x46_12 : Bool), vs46 = .bool x46_12 ∧ Aside0 (gamehalllaw3_RatingMoves.j0 kq y166 y170 a2 x46_12 = some r) ∧ Aside0 (kq ≤ k) ∧ Aside0 (Below w.heap.size w wc))
      case first =>
       as_aux_lemma =>
       have H := HC13.out; clear HC13
       by_cases c17 : a3 > (-1099511627776)
       ·as_aux_lemma =>
        rw [if_pos c17] at H
        have c17b0 : decide ((-1099511627776) < a3) = true := decide_eq_true c17
        clear c17
        (first | rw [c17b0] | (simp only [i64_w, i32_w]; rw [c17b0]) | skip)
        by_cases c18 : a3 < 1099511627776
        ·as_aux_lemma =>
         rw [if_pos c18] at H
         have c18b0 : decide (a3 < 1099511627776) = true := decide_eq_true c18
         clear c18; replace H := Option.bind_eq_some_iff.mp H
         obtain ⟨t174, A190, H⟩ := H
         try dsimp only at H
         have A19 := Aside0.mk A190; clear A190; replace H := Option.bind_eq_some_iff.mp H
         obtain ⟨t175, A200, H⟩ := H
         replace H : (gamehalllaw3_RatingMoves.j0 k y166 y170 a2 (t174 != t175)) = some r := H
         have A20 := Aside0.mk A200; clear A200
         as_aux_lemma =>
          have H' := Aside0.mk H
          clear H
          go_wp2_with (first | (go_at_call 13; (with_reducible refine (rating_Expect.calls k a3 t174 _ A19.out ?sideL).mono ?_); (case sideL => exact xL hlaid); rintro e w' ⟨rfl, ⟨nd, rfl⟩⟩) | (go_at_call 14; (with_reducible refine (gamehallref3_Hundredths.calls k a3 t175 _ A20.out).mono ?_); rintro e w21 ⟨rfl, hb⟩; replace HB := Aside0.mk (xS HB hb); (try clear hb); (try clear hb2); (try clear hk); (try clear hi)))
          go_meet
          case rel => exact ⟨_, ((t174 != t175)), (xrf), H', ⟨by first | omega | exact Nat.le_refl _⟩, ⟨xW HB⟩⟩
        ·rw [if_neg c18] at H
         have c18b0 : decide (a3 < 1099511627776) = false := decide_eq_false c18
         clear c18
         as_aux_lemma =>
          have H' := Aside0.mk H
          clear H
          go_wp2
          go_meet
          case rel => exact ⟨_, (false), (xrf), H', ⟨by first | omega | exact Nat.le_refl _⟩, ⟨xW HB⟩⟩
       ·rw [if_neg c17] at H
        have c17b0 : decide ((-1099511627776) < a3) = false := decide_eq_false c17
        clear c17
        (first | rw [c17b0] | (simp only [i64_w, i32_w]; rw [c17b0]) | skip)
        as_aux_lemma =>
         have H' := Aside0.mk H
         clear H
         go_wp2
         go_meet
         case rel => exact ⟨_, (false), (xrf), H', ⟨by first | omega | exact Nat.le_refl _⟩, ⟨xW HB⟩⟩
      case rest =>
       as_aux_lemma =>
       clear HC13; (try clear q1); (try clear p2); (try clear q15); (try clear q16); (try clear q15); (try clear q16)
       obtain ⟨kq, x46_12, rfl, HA, HJ12, HB⟩ := hcut
       cases kq with
       | zero => exact absurd HA.out (by simp [gamehalllaw3_RatingMoves.j0])
       | succ kj12 =>
        have H := HA.out; clear HA
        simp only [gamehalllaw3_RatingMoves.j0] at H
        by_cases c22 : x46_12 = true
        ·subst c22
         rw [if_pos rfl] at H
         as_aux_lemma =>
          obtain rfl := Option.some.inj H
          go_wp2
          go_ret
          exact ⟨by first | rfl | (simp [errW_none, errW_some] <;> rfl) | (simp only [← hji7, ← hji10]; first | rfl | (simp [errW_none, errW_some] <;> rfl)) | (simp [*, errW_none, errW_some] <;> rfl), xW HB⟩
        ·replace c22 := Bool.eq_false_iff.mpr c22
         subst c22
         rw [if_neg (show ¬ (false = true) by decide)] at H
         replace H := Option.bind_eq_some_iff.mp H
         obtain ⟨⟨t176, t177⟩, A230, H⟩ := H
         try dsimp only at H
         have A23 := Aside0.mk A230; clear A230; have HC24 := Aside0.mk H; clear H
         go_upto_region 8 with (first | ((with_reducible refine gate_callee (f := 15) rfl ?_); refine goesL_ (some 51) rfl rfl Tryd.func15 kr_ rfl #[.slice A0 y166.length c0, .slice A1 y170.length c1, .int .i64 a2] rfl (by (try simp only [List.map_toArray, List.map_cons, List.map_nil]); first | done | rfl | (simp only [List.length_drop, List.length_take]; rfl)) ?_; (with_reducible refine (rating_All.calls kj12 _ _ y166 _ _ y170 a2 t176 t177 _ ?side1 ?side2 ?side3 ?side4 A23.out ?sideL).mono ?_); (case sideL => exact xL hlaid); (case side1 => exact xC (Kd.C_below HR169.out HB.out)); (case side2 => exact HC169.out); (case side3 => exact xC (Kd.C_below HR173.out HB.out)); (case side4 => exact HC173.out); rintro e w25 ⟨v178, rfl, ho0, hb⟩; refine ⟨_, rfl, ?_⟩; have HO179 := Aside0.mk (Kd.R_lower ho0 (below_size (xW HB))); replace HB := Aside0.mk (xS HB hb); (try clear hb); (try clear hb2); (try clear hk); (try clear hi); (try clear ho0)))
         (try simp only [Act.put, List.setIfInBounds_toArray, List.set_cons_zero, List.set_cons_succ])
         go_cut [61] (fun vs61 wc => ∃ (kq : Nat) (x61_23 : Bool), vs61 = .bool x61_23 ∧ Aside0 (gamehalllaw3_RatingMoves.j1 kq y166 y170 a2 t176 t177 0 x61_23 = some r) ∧ Aside0 (kq ≤ kj12) ∧ Aside0 (Kd.R (Kd.int .i64) 3 wc w.heap.size (fun _ => True) v178 t176) ∧ Aside0 (Below w.heap.size w wc))
         case first =>
          as_aux_lemma =>
          have H := HC24.out; clear HC24
          by_cases c26 : (y166.length : Int) = 0
          ·rw [if_pos c26] at H
           have c26b0 : ((y166.length : Int) == 0) = true := beq_iff_eq.mpr c26
           have c26b1 : ((y166.length : Int) != 0) = false := bne_eq_false_iff_eq.mpr c26
           clear c26
           (first | rw [c26b0] | (simp only [i64_w, i32_w]; rw [c26b0]) | skip)
           as_aux_lemma =>
            have H' := Aside0.mk H
            clear H
            go_wp2
            go_meet
            case rel => exact ⟨_, (true), (xrf), H', ⟨by have := HJ12.out; first | omega | exact Nat.le_refl _⟩, ⟨by (with_reducible repeat (first | apply Kd.R_alloc | apply Kd.R_drewN | apply Kd.R_drew)); exact HO179.out⟩, ⟨xW HB⟩⟩
          ·rw [if_neg c26] at H
           have c26b0 : ((y166.length : Int) == 0) = false := beq_eq_false_iff_ne.mpr c26
           have c26b1 : ((y166.length : Int) != 0) = true := bne_iff_ne.mpr c26
           have c26b2 : ¬ (y166 = []) := fun h_ => c26 (by rw [h_]; rfl)
           (first | rw [c26b0] | (simp only [i64_w, i32_w]; rw [c26b0]) | skip)
           as_aux_lemma =>
            have H' := Aside0.mk H
            clear H
            go_wp2
            go_meet
            case rel => exact ⟨_, (decide ((y166.length : Int) > 64)), (xrf), H', ⟨by have := HJ12.out; first | omega | exact Nat.le_refl _⟩, ⟨by (with_reducible repeat (first | apply Kd.R_alloc | apply Kd.R_drewN | apply Kd.R_drew)); exact HO179.out⟩, ⟨xW HB⟩⟩
         case rest =>
          as_aux_lemma =>
          clear HC24; (try clear q1); (try clear p2); (try clear q15); (try clear q16); (try clear p2); (try clear q1); (try clear q15); (try clear q16)
          obtain ⟨kq, x61_23, rfl, HA, HJ23, HO_9, HB⟩ := hcut
          cases kq with
          | zero => exact absurd HA.out (by simp [gamehalllaw3_RatingMoves.j1])
          | succ kj23 =>
           have H := HA.out; clear HA
           simp only [gamehalllaw3_RatingMoves.j1] at H
           have HC27 := Aside0.mk H; clear H
           go_upto_if 61 with (fail)
           go_cut [11] (fun vs11 wc => ∃ (kq : Nat) (x11_26 : Int), vs11 = .int .i64 x11_26 ∧ Aside0 (gamehalllaw3_RatingMoves.j2 kq y166 y170 a2 t176 t177 x11_26 = some r) ∧ Aside0 (kq ≤ kj23) ∧ Aside0 (Kd.R (Kd.int .i64) 3 wc w.heap.size (fun _ => True) v178 t176) ∧ Aside0 (Below w.heap.size w wc))
           case first =>
            as_aux_lemma =>
            have H := HC27.out; clear HC27
            by_cases c28 : x61_23 = true
            ·subst c28
             rw [if_pos rfl] at H
             as_aux_lemma =>
              have H' := Aside0.mk H
              clear H
              go_wp2
              go_meet
              case rel => exact ⟨_, (2), (xrf), H', ⟨by have := HJ12.out; have := HJ23.out; first | omega | exact Nat.le_refl _⟩, ⟨by (with_reducible repeat (first | apply Kd.R_alloc | apply Kd.R_drewN | apply Kd.R_drew)); exact HO_9.out⟩, ⟨xW HB⟩⟩
            ·replace c28 := Bool.eq_false_iff.mpr c28
             subst c28
             rw [if_neg (show ¬ (false = true) by decide)] at H
             as_aux_lemma =>
              have H' := Aside0.mk H
              clear H
              go_wp2
              go_meet
              case rel => exact ⟨_, (0), (xrf), H', ⟨by have := HJ12.out; have := HJ23.out; first | omega | exact Nat.le_refl _⟩, ⟨by (with_reducible repeat (first | apply Kd.R_alloc | apply Kd.R_drewN | apply Kd.R_drew)); exact HO_9.out⟩, ⟨xW HB⟩⟩
           case rest =>
            as_aux_lemma =>
            clear HC27; (try clear q1); (try clear p2); (try clear q15); (try clear q16); (try clear p2); (try clear q1); (try clear q15); (try clear q16)
            obtain ⟨kq, x11_26, rfl, HA, HJ26, HO_9, HB⟩ := hcut
            cases kq with
            | zero => exact absurd HA.out (by simp [gamehalllaw3_RatingMoves.j2])
            | succ kj26 =>
             have H := HA.out; clear HA
             simp only [gamehalllaw3_RatingMoves.j2] at H
             have H' := Aside0.mk H
             clear H
             go_wp2
             go_loopg [11, 64] kj26 (fun kq vs11 vs64 w' => ∃ (x11_4 : Int) (x64_4 : Int), vs11 = .int .i64 x11_4 ∧ vs64 = .int .i64 x64_4 ∧ Aside0 (gamehalllaw3_RatingMoves.l0 kq y166 y170 a2 t176 t177 x11_4 y166 (y166.length : Int) x64_4 = some r) ∧ Aside0 (kq ≤ kj26) ∧ Aside0 (Kd.R (Kd.int .i64) 3 w' w.heap.size (fun _ => True) v178 t176) ∧ Aside0 (Below w.heap.size w w'))
             case atStart => exact ⟨(x11_26), (0), (xrf), (xrf), H', ⟨Nat.le_refl _⟩, ⟨by (with_reducible repeat (first | apply Kd.R_alloc | apply Kd.R_drewN | apply Kd.R_drew)); exact HO_9.out⟩, ⟨xW HB⟩⟩
             case round =>
              clear H'; (try clear q1); (try clear p2); (try clear q15); (try clear q16); (try clear p2); (try clear q1); (try clear q15); (try clear q16)
              obtain ⟨x11_4, x64_4, rfl, rfl, HA, HK4, HO_9, HB⟩ := hrel
              cases gk with
              | zero => exact absurd HA.out (by simp [gamehalllaw3_RatingMoves.l0])
              | succ k4 =>
               have H := HA.out; clear HA
               simp only [gamehalllaw3_RatingMoves.l0] at H
               by_cases c29 : x64_4 < (y166.length : Int)
               ·as_aux_lemma =>
                rw [if_pos c29] at H
                have c29b0 : decide (x64_4 < (y166.length : Int)) = true := decide_eq_true c29
                clear c29
                by_cases c30 : 0 ≤ x64_4
                ·as_aux_lemma =>
                 rw [if_pos c30] at H
                 have c30b0 : decide (0 ≤ x64_4) = true := decide_eq_true c30
                 clear c30
                 by_cases c31 : x64_4 < (y166.length : Int)
                 ·as_aux_lemma =>
                  rw [if_pos c31] at H
                  have c31b0 : decide (x64_4 < (y166.length : Int)) = true := decide_eq_true c31
                  clear c31
                  by_cases c32 : x11_4 = 0
                  ·as_aux_lemma =>
                   rw [if_pos c32] at H
                   have c32b0 : (x11_4 == 0) = true := beq_iff_eq.mpr c32
                   have c32b1 : (x11_4 != 0) = false := bne_eq_false_iff_eq.mpr c32
                   clear c32
                   by_cases c33 : (rd y166 x64_4) < (-1000000)
                   ·as_aux_lemma =>
                    rw [if_pos c33] at H
                    have c33b0 : decide ((rd y166 x64_4) < (-1000000)) = true := decide_eq_true c33
                    clear c33
                    as_aux_lemma =>
                     have H' := Aside0.mk H
                     clear H
                     have p180 : 0 ≤ (x64_4 : Int) := of_decide_eq_true (by first | (with_reducible assumption) | assumption)
                     have q180 : x64_4 < (y166.length : Int) := of_decide_eq_true (by first | (with_reducible assumption) | assumption)
                     obtain ⟨ad180, e180, hx180_0⟩ := Kd.at_int HR169.out x64_4 p180 q180
                     cases e180
                     (first | replace hx180_0 := (HB.out.cell (World.block_lt_of_cell? w _ hx180_0)).trans hx180_0 | skip); replace p180 := eq_true p180; replace q180 := eq_true q180
                     go_wp2
                     go_roundg k4
                     case measure => have := HJ12.out; have := HJ23.out; have := HJ26.out; have := HK4.out; omega
                     case rel => exact ⟨(4), (wrap64 (x64_4 + 1)), (xrf), (xrf), H', ⟨by have := HJ12.out; have := HJ23.out; have := HJ26.out; have := HK4.out; omega⟩, ⟨by (with_reducible repeat (first | apply Kd.R_alloc | apply Kd.R_drewN | apply Kd.R_drew)); exact HO_9.out⟩, ⟨xW HB⟩⟩
                   ·as_aux_lemma =>
                    rw [if_neg c33] at H
                    have c33b0 : decide ((rd y166 x64_4) < (-1000000)) = false := decide_eq_false c33
                    clear c33
                    by_cases c34 : (rd y166 x64_4) > 1000000
                    ·as_aux_lemma =>
                     rw [if_pos c34] at H
                     have c34b0 : decide (1000000 < (rd y166 x64_4)) = true := decide_eq_true c34
                     clear c34
                     as_aux_lemma =>
                      have H' := Aside0.mk H
                      clear H
                      have p180 : 0 ≤ (x64_4 : Int) := of_decide_eq_true (by first | (with_reducible assumption) | assumption)
                      have q180 : x64_4 < (y166.length : Int) := of_decide_eq_true (by first | (with_reducible assumption) | assumption)
                      obtain ⟨ad180, e180, hx180_0⟩ := Kd.at_int HR169.out x64_4 p180 q180
                      cases e180
                      (first | replace hx180_0 := (HB.out.cell (World.block_lt_of_cell? w _ hx180_0)).trans hx180_0 | skip); replace p180 := eq_true p180; replace q180 := eq_true q180
                      go_wp2
                      go_roundg k4
                      case measure => have := HJ12.out; have := HJ23.out; have := HJ26.out; have := HK4.out; omega
                      case rel => exact ⟨(4), (wrap64 (x64_4 + 1)), (xrf), (xrf), H', ⟨by have := HJ12.out; have := HJ23.out; have := HJ26.out; have := HK4.out; omega⟩, ⟨by (with_reducible repeat (first | apply Kd.R_alloc | apply Kd.R_drewN | apply Kd.R_drew)); exact HO_9.out⟩, ⟨xW HB⟩⟩
                    ·as_aux_lemma =>
                     rw [if_neg c34] at H
                     have c34b0 : decide (1000000 < (rd y166 x64_4)) = false := decide_eq_false c34
                     clear c34
                     as_aux_lemma =>
                      have H' := Aside0.mk H
                      clear H
                      have p180 : 0 ≤ (x64_4 : Int) := of_decide_eq_true (by first | (with_reducible assumption) | assumption)
                      have q180 : x64_4 < (y166.length : Int) := of_decide_eq_true (by first | (with_reducible assumption) | assumption)
                      obtain ⟨ad180, e180, hx180_0⟩ := Kd.at_int HR169.out x64_4 p180 q180
                      cases e180
                      (first | replace hx180_0 := (HB.out.cell (World.block_lt_of_cell? w _ hx180_0)).trans hx180_0 | skip); replace p180 := eq_true p180; replace q180 := eq_true q180
                      go_wp2
                      go_roundg k4
                      case measure => have := HJ12.out; have := HJ23.out; have := HJ26.out; have := HK4.out; omega
                      case rel => exact ⟨(x11_4), (wrap64 (x64_4 + 1)), (xrf), (xrf), H', ⟨by have := HJ12.out; have := HJ23.out; have := HJ26.out; have := HK4.out; omega⟩, ⟨by (with_reducible repeat (first | apply Kd.R_alloc | apply Kd.R_drewN | apply Kd.R_drew)); exact HO_9.out⟩, ⟨xW HB⟩⟩
                  ·as_aux_lemma =>
                   rw [if_neg c32] at H
                   have c32b0 : (x11_4 == 0) = false := beq_eq_false_iff_ne.mpr c32
                   have c32b1 : (x11_4 != 0) = true := bne_iff_ne.mpr c32
                   as_aux_lemma =>
                    have H' := Aside0.mk H
                    clear H
                    have p180 : 0 ≤ (x64_4 : Int) := of_decide_eq_true (by first | (with_reducible assumption) | assumption)
                    have q180 : x64_4 < (y166.length : Int) := of_decide_eq_true (by first | (with_reducible assumption) | assumption)
                    obtain ⟨ad180, e180, hx180_0⟩ := Kd.at_int HR169.out x64_4 p180 q180
                    cases e180
                    (first | replace hx180_0 := (HB.out.cell (World.block_lt_of_cell? w _ hx180_0)).trans hx180_0 | skip); replace p180 := eq_true p180; replace q180 := eq_true q180
                    go_wp2
                    go_roundg k4
                    case measure => have := HJ12.out; have := HJ23.out; have := HJ26.out; have := HK4.out; omega
                    case rel => exact ⟨(x11_4), (wrap64 (x64_4 + 1)), (xrf), (xrf), H', ⟨by have := HJ12.out; have := HJ23.out; have := HJ26.out; have := HK4.out; omega⟩, ⟨by (with_reducible repeat (first | apply Kd.R_alloc | apply Kd.R_drewN | apply Kd.R_drew)); exact HO_9.out⟩, ⟨xW HB⟩⟩
                 ·rw [if_neg c31] at H
                  exact absurd H (by simp)
                ·rw [if_neg c30] at H
                 exact absurd H (by simp)
               ·as_aux_lemma =>
                rw [if_neg c29] at H
                have c29b0 : decide (x64_4 < (y166.length : Int)) = false := decide_eq_false c29
                clear c29; replace H := Option.bind_eq_some_iff.mp H
                obtain ⟨t181, A350, H⟩ := H
                try dsimp only at H
                have A35 := Aside0.mk A350; clear A350
                by_cases c36 : t181 = x11_4
                ·as_aux_lemma =>
                 rw [if_pos c36] at H
                 have c36b0 : (t181 == x11_4) = true := beq_iff_eq.mpr c36
                 have c36b1 : (t181 != x11_4) = false := bne_eq_false_iff_eq.mpr c36
                 clear c36
                 by_cases c37 : x11_4 = 0
                 ·as_aux_lemma =>
                  rw [if_pos c37] at H
                  have c37b0 : (x11_4 == 0) = true := beq_iff_eq.mpr c37
                  have c37b1 : (x11_4 != 0) = false := bne_eq_false_iff_eq.mpr c37
                  clear c37
                  obtain ⟨y182, hy182⟩ : ∃ y_ : List Int, y_ = (([] : List Int)) := ⟨_, rfl⟩
                  replace H : (if y182.length + y166.length < 17592186044416 then (gamehalllaw3_RatingMoves.l1 k4 y166 a2 t176 t177 x11_4 (y182 ++ y166) y170 (y170.length : Int) 0) else (none)) = some r := by first | (rw [hy182]; with_reducible exact H) | (have H2_ := (Option.bind_some _ _).symm.trans H; rw [hy182]; with_reducible exact H2_) | (have H2_ := (Option.bind_some _ _).symm.trans H; with_reducible exact H2_) | with_reducible exact H | (rw [hy182]; exact H) | exact H
                  have Ny182 := Aside0.mk hy182; clear hy182
                  by_cases c38 : y182.length + y166.length < 17592186044416
                  ·as_aux_lemma =>
                   rw [if_pos c38] at H
                   have LMc38 := Aside0.mk c38; clear c38
                   obtain ⟨y185, hy185⟩ : ∃ y_ : List Int, y_ = (y182 ++ y166) := ⟨_, rfl⟩
                   replace H : (gamehalllaw3_RatingMoves.l1 k4 y166 a2 t176 t177 x11_4 y185 y170 (y170.length : Int) 0) = some r := by first | (rw [hy185]; with_reducible exact H) | (have H2_ := (Option.bind_some _ _).symm.trans H; rw [hy185]; with_reducible exact H2_) | (have H2_ := (Option.bind_some _ _).symm.trans H; with_reducible exact H2_) | with_reducible exact H | (rw [hy185]; exact H) | exact H
                   have Ny185 := Aside0.mk hy185; clear hy185
                   have H' := Aside0.mk H
                   clear H
                   go_wp2_with (first | ((with_reducible refine gate_callee (f := 16) rfl ?_); refine goesL_ (some 80) rfl rfl Tryd.func16 kr_ rfl #[.slice A0 y166.length c0] rfl (by (try simp only [List.map_toArray, List.map_cons, List.map_nil]); first | done | rfl | (simp only [List.length_drop, List.length_take]; rfl)) ?_; (with_reducible refine (rating_Check.calls k4 _ _ y166 t181 _ ?side1 ?side2 A35.out).mono ?_); (case side1 => exact xC (Kd.C_below HR169.out HB.out)); (case side2 => exact HC169.out); rintro e w' ⟨rfl, ⟨nd, rfl⟩⟩; refine ⟨_, rfl, ?_⟩) | ((with_reducible refine gate_dst (N := 93) rfl ?_); (try (refine gate_guard (by rfl) ?_; dsimp only)); refine Kd.R_lit (Kd.int .i64) _ 3 ?hg (N := 93) ?hd (xs := ([] : List Int)) (inner := []) (ok := fun _ => True) (okp := fun _ => True) ?hr ?hp (fun _ hk => hk) trivial (Below.refl _ _) (Nat.le_refl _) (by simp) ?_; (case hd => rfl); (case hg => rfl); (case hr => first | (go_simp; done) | (go_simp; rfl)); (case hp => exact (Reps.none _ _)); intro v183 w39 ho40 hb hg_ hnew_; clear hg_ hnew_; (first | rw [← Ny182.out] at ho40 | (simp only [Int.reduceToNat] at ho40; rw [← Ny182.out] at ho40)); have HO184 := Aside0.mk (Kd.R_lower (Kd.R_new' ho40 (Kd.R_lt (by (with_reducible repeat (first | apply Kd.R_alloc | apply Kd.R_drewN | apply Kd.R_drew)); exact HO_9.out))) (below_size (xW HB))); replace HO_9 := Aside0.mk (Kd.R_elder' (by (with_reducible repeat (first | apply Kd.R_alloc | apply Kd.R_drewN | apply Kd.R_drew)); exact HO_9.out) (Kd.R_base ho40) hb); replace HB := Aside0.mk (xS HB hb); clear hb ho40) | ((with_reducible refine gate_builtin (b := .append) (xs := #[.tmp 93, .tmp 94]) rfl ?_); (try (refine gate_guard (by rfl) ?_; dsimp only)); at_builtin; refine Kd.R_append_rows (Kd.int .i64) (w0 := w) w.heap.size rfl (.tmp 93) (.tmp 94) 22 3 (.int .i64 0) 8 rfl Tryd.underlying22 info3 rfl (by decide) (by omega) v183 y182 y166 _ _ _ (fun k_ => some k_ ≠ (v178 : Value).ownBlock) (fun _ => False) rfl rfl ?aO ?aR (fun _ _ h => h) (fun _ h => h.elim) ?aF ?aB ?aS ?aL ?_; (case aR => exact xC (Kd.C_below HR169.out HB.out)); (case aB => exact (xW HB)); (case aF => exact (fun k_ hk => Kd.fresh' (Kd.R_lt (by (with_reducible repeat (first | apply Kd.R_alloc | apply Kd.R_drewN | apply Kd.R_drew)); exact HO_9.out)) k_ hk)); (case aO => exact (by (with_reducible repeat (first | apply Kd.R_alloc | apply Kd.R_drewN | apply Kd.R_drew)); exact Kd.R_mono HO184.out (fun _ hk => hk.2))); (case aS => exact (below_size (xW HB))); (case aL => have := LMc38.out; omega); intro v186 w41 ho hb hg hat; rw [← Ny185.out] at ho; have HO187 := Aside0.mk (ho); replace HO_9 := Aside0.mk (Kd.R_after (ok := (fun _ => True)) (by (with_reducible repeat (first | apply Kd.R_alloc | apply Kd.R_drewN | apply Kd.R_drew)); exact HO_9.out) hg hat); replace HB := Aside0.mk (hb); clear HO184; clear ho hb hg hat))
                   go_loopg [11, 98] k4 (fun kq vs11 vs98 w' => ∃ (x11_5 : Int) (x14_5 : List Int) (x98_5 : Int), vs11 = .int .i64 x11_5 ∧ vs98 = .int .i64 x98_5 ∧ Aside0 (gamehalllaw3_RatingMoves.l1 kq y166 a2 t176 t177 x11_5 x14_5 y170 (y170.length : Int) x98_5 = some r) ∧ Aside0 (kq ≤ k4) ∧ Aside0 (Kd.R (Kd.int .i64) 3 w' w.heap.size (fun k_ => some k_ ≠ (v186 : Value).ownBlock) v178 t176) ∧ Aside0 (Kd.R (Kd.int .i64) 3 w' w.heap.size (fun k_ => some k_ ≠ (v178 : Value).ownBlock) v186 x14_5) ∧ Aside0 (Below w.heap.size w w'))
                   case atStart => exact ⟨(x11_4), (y185), (0), (xrf), (xrf), H', ⟨Nat.le_refl _⟩, ⟨by (with_reducible repeat (first | apply Kd.R_alloc | apply Kd.R_drewN | apply Kd.R_drew)); exact Kd.R_mono HO_9.out (fun _ hk => hk.2)⟩, ⟨by (with_reducible repeat (first | apply Kd.R_alloc | apply Kd.R_drewN | apply Kd.R_drew)); exact HO187.out⟩, ⟨xW HB⟩⟩
                   case round =>
                    clear H'; (try clear p1); (try clear q1); (try clear hx1); (try clear p2); (try clear p6); (try clear q15); (try clear q16); (try clear p18); (try clear q18); (try clear hx18); (try clear hx180_0); (try clear p180); (try clear p2); (try clear q1); (try clear q15); (try clear q16); (try clear q180)
                    obtain ⟨x11_5, x14_5, x98_5, rfl, rfl, HA, HK5, HO_9, HO_14, HB⟩ := hrel
                    cases gk with
                    | zero => exact absurd HA.out (by simp [gamehalllaw3_RatingMoves.l1])
                    | succ k5 =>
                     have H := HA.out; clear HA
                     simp only [gamehalllaw3_RatingMoves.l1] at H
                     by_cases c42 : x98_5 < (y170.length : Int)
                     ·as_aux_lemma =>
                      rw [if_pos c42] at H
                      have c42b0 : decide (x98_5 < (y170.length : Int)) = true := decide_eq_true c42
                      clear c42
                      by_cases c43 : 0 ≤ x98_5
                      ·as_aux_lemma =>
                       rw [if_pos c43] at H
                       have c43b0 : decide (0 ≤ x98_5) = true := decide_eq_true c43
                       clear c43
                       by_cases c44 : x98_5 < (y170.length : Int)
                       ·as_aux_lemma =>
                        rw [if_pos c44] at H
                        have c44b0 : decide (x98_5 < (y170.length : Int)) = true := decide_eq_true c44
                        clear c44; replace H := Option.bind_eq_some_iff.mp H
                        obtain ⟨⟨t191, t194⟩, A450, H⟩ := H
                        try dsimp only at H
                        have A45 := Aside0.mk A450; clear A450; have HC46 := Aside0.mk H; clear H
                        have p189 : 0 ≤ (x98_5 : Int) := of_decide_eq_true (by first | (with_reducible assumption) | assumption)
                        have q189 : x98_5 < (y170.length : Int) := of_decide_eq_true (by first | (with_reducible assumption) | assumption)
                        obtain ⟨ad189, e189, hx189_0, hx189_1, hx189_2⟩ := at_T41 HR173.out x98_5 p189 q189
                        cases e189
                        (first | replace hx189_0 := (HB.out.cell (World.block_lt_of_cell? w _ hx189_0)).trans hx189_0 | skip); (first | replace hx189_1 := (HB.out.cell (World.block_lt_of_cell? w _ hx189_1)).trans hx189_1 | skip); (first | replace hx189_2 := (HB.out.cell (World.block_lt_of_cell? w _ hx189_2)).trans hx189_2 | skip); replace p189 := eq_true p189; replace q189 := eq_true q189
                        go_upto_region 25 with (first | ((with_reducible refine gate_dst (N := 16) rfl ?_); (try (refine gate_guard (by rfl) ?_; dsimp only)); refine box_event ?hg (N := 16) ?hd (cs := #[.int .i64 0, .int .i64 0, .int .i64 0]) (t := 41) ?hr ?_; (case hd => rfl); (case hg => rfl); (case hr => first | (go_simp; done) | (go_simp; rfl)); intro gb190 hg w47 hbox hb; have BK190 := Aside0.mk (hbox); have GW190 := Aside0.mk (xZ HB hg); have GE190 := Aside0.mk (xZ HB hg); replace HO_9 := Aside0.mk (Kd.R_below (by (with_reducible repeat (first | apply Kd.R_alloc | apply Kd.R_drewN | apply Kd.R_drew)); exact HO_9.out) hb); replace HO_14 := Aside0.mk (Kd.R_below (by (with_reducible repeat (first | apply Kd.R_alloc | apply Kd.R_drewN | apply Kd.R_drew)); exact HO_14.out) hb); replace HB := Aside0.mk (xS HB hb); clear hb hbox hg; have hcz48_0 := blkc3 BK190.out; obtain ⟨Ao49, co49, eo49⟩ := Kd.R_slice HO_14.out; subst eo49) | ((with_reducible refine gate_callee (f := 17) rfl ?_); refine goesL_ (some 106) rfl rfl Tryd.func17 kr_ rfl #[.slice Ao49 x14_5.length co49, .agg #[.int .i64 ((rd_T41 y170 x98_5).f0), .int .i64 ((rd_T41 y170 x98_5).f1), .int .i64 ((rd_T41 y170 x98_5).f2)], .int .i64 a2] rfl (by (try simp only [List.map_toArray, List.map_cons, List.map_nil]); first | done | rfl | (simp only [List.length_drop, List.length_take]; rfl)) ?_; (with_reducible refine (rating_Game.calls k5 _ _ x14_5 ((rd_T41 y170 x98_5).f0) ((rd_T41 y170 x98_5).f1) ((rd_T41 y170 x98_5).f2) a2 t191 t194 _ ?side1 ?side2 A45.out ?sideL).mono ?_); (case sideL => exact xL hlaid); (case side1 => refine (Kd.R_reads' (e := 3) (base := w.heap.size) (ok := fun k_ => some k_ ≠ (v178 : Value).ownBlock) (n := x14_5.length) (c := co49) ?_).2.2; exact (by (with_reducible repeat (first | apply Kd.R_alloc | apply Kd.R_drewN | apply Kd.R_drew)); exact (Kd.R_mono (Kd.R_far (p := ⟨gb190, 2, none⟩) (Kd.R_far (p := ⟨gb190, 1, none⟩) (Kd.R_far (p := ⟨gb190, 0, none⟩) (Kd.R_types HO_14.out BK190.out (by decide)) (fun _ hk => hk.2) (.int .i64 ((rd_T41 y170 x98_5).f0))) (fun _ hk => hk.2) (.int .i64 ((rd_T41 y170 x98_5).f1))) (fun _ hk => hk.2) (.int .i64 ((rd_T41 y170 x98_5).f2))) (fun _ h_ => h_.1)))); (case side2 => exact (Kd.R_reads' HO_14.out).2.1); rintro e w50 ⟨v192, rfl, ho0, hb⟩; refine ⟨_, rfl, ?_⟩; have HO193 := Aside0.mk (Kd.R_lower (Kd.R_new' (Kd.R_new' ho0 (Kd.R_lt (by (with_reducible repeat (first | apply Kd.R_alloc | apply Kd.R_drewN | apply Kd.R_drew)); exact (Kd.R_mono (Kd.R_far (p := ⟨gb190, 2, none⟩) (Kd.R_far (p := ⟨gb190, 1, none⟩) (Kd.R_far (p := ⟨gb190, 0, none⟩) (Kd.R_types HO_9.out BK190.out (by decide)) (fun _ hk => hk.2) (.int .i64 ((rd_T41 y170 x98_5).f0))) (fun _ hk => hk.2) (.int .i64 ((rd_T41 y170 x98_5).f1))) (fun _ hk => hk.2) (.int .i64 ((rd_T41 y170 x98_5).f2))) (fun _ h_ => h_.1))))) (Kd.R_lt (by (with_reducible repeat (first | apply Kd.R_alloc | apply Kd.R_drewN | apply Kd.R_drew)); exact (Kd.R_mono (Kd.R_far (p := ⟨gb190, 2, none⟩) (Kd.R_far (p := ⟨gb190, 1, none⟩) (Kd.R_far (p := ⟨gb190, 0, none⟩) (Kd.R_types HO_14.out BK190.out (by decide)) (fun _ hk => hk.2) (.int .i64 ((rd_T41 y170 x98_5).f0))) (fun _ hk => hk.2) (.int .i64 ((rd_T41 y170 x98_5).f1))) (fun _ hk => hk.2) (.int .i64 ((rd_T41 y170 x98_5).f2))) (fun _ h_ => h_.1))))) (below_size (xW HB))); replace HO_9 := Aside0.mk (Kd.R_elder' (by (with_reducible repeat (first | apply Kd.R_alloc | apply Kd.R_drewN | apply Kd.R_drew)); exact (Kd.R_mono (Kd.R_far (p := ⟨gb190, 2, none⟩) (Kd.R_far (p := ⟨gb190, 1, none⟩) (Kd.R_far (p := ⟨gb190, 0, none⟩) (Kd.R_types HO_9.out BK190.out (by decide)) (fun _ hk => hk.2) (.int .i64 ((rd_T41 y170 x98_5).f0))) (fun _ hk => hk.2) (.int .i64 ((rd_T41 y170 x98_5).f1))) (fun _ hk => hk.2) (.int .i64 ((rd_T41 y170 x98_5).f2))) (fun _ h_ => h_.1))) (Kd.R_base ho0) hb); replace HO_14 := Aside0.mk (Kd.R_elder' (by (with_reducible repeat (first | apply Kd.R_alloc | apply Kd.R_drewN | apply Kd.R_drew)); exact (Kd.R_mono (Kd.R_far (p := ⟨gb190, 2, none⟩) (Kd.R_far (p := ⟨gb190, 1, none⟩) (Kd.R_far (p := ⟨gb190, 0, none⟩) (Kd.R_types HO_14.out BK190.out (by decide)) (fun _ hk => hk.2) (.int .i64 ((rd_T41 y170 x98_5).f0))) (fun _ hk => hk.2) (.int .i64 ((rd_T41 y170 x98_5).f1))) (fun _ hk => hk.2) (.int .i64 ((rd_T41 y170 x98_5).f2))) (fun _ h_ => h_.1))) (Kd.R_base ho0) hb); replace BK190 := Aside0.mk (xP (l' := [.int .i64 ((rd_T41 y170 x98_5).f0), .int .i64 ((rd_T41 y170 x98_5).f1), .int .i64 ((rd_T41 y170 x98_5).f2)]) BK190 hb); replace HB := Aside0.mk (xS HB hb); (try clear hb); (try clear hb2); (try clear hk); (try clear hi); (try clear ho0)))
                        (try simp only [Act.put, List.setIfInBounds_toArray, List.set_cons_zero, List.set_cons_succ])
                        go_cut [131] (fun vs131 wc => ∃ (kq : Nat) (x131_45 : Bool), vs131 = .bool x131_45 ∧ Aside0 (gamehalllaw3_RatingMoves.j5 kq y166 a2 t176 t177 x11_5 x14_5 t191 t194 y170 (y170.length : Int) x98_5 x131_45 ((rd_T41 y170 x98_5).f0) ((rd_T41 y170 x98_5).f1) ((rd_T41 y170 x98_5).f2) = some r) ∧ Aside0 (kq ≤ k5) ∧ Aside0 (Kd.R (Kd.int .i64) 3 wc w.heap.size (fun k_ => some k_ ≠ ((.slice Ao49 x14_5.length co49) : Value).ownBlock ∧ some k_ ≠ (v192 : Value).ownBlock) v178 t176) ∧ Aside0 (Kd.R (Kd.int .i64) 3 wc w.heap.size (fun k_ => some k_ ≠ (v178 : Value).ownBlock ∧ some k_ ≠ (v192 : Value).ownBlock) (.slice Ao49 x14_5.length co49) x14_5) ∧ Aside0 (Kd.R (Kd.int .i64) 3 wc w.heap.size (fun k_ => some k_ ≠ (v178 : Value).ownBlock ∧ some k_ ≠ ((.slice Ao49 x14_5.length co49) : Value).ownBlock) v192 t191) ∧ Aside0 (wc.heap[gb190]? = some (.cells #[.int .i64 ((rd_T41 y170 x98_5).f0), .int .i64 ((rd_T41 y170 x98_5).f1), .int .i64 ((rd_T41 y170 x98_5).f2)] 41 (0, 0))) ∧ Aside0 (Below w.heap.size w wc))
                        case first =>
                         as_aux_lemma =>
                         have H := HC46.out; clear HC46
                         obtain ⟨ji51, hji51⟩ : ∃ j_ : Int, (mn ((rd_T41 y170 x98_5).f0) ((rd_T41 y170 x98_5).f1)) = j_ := ⟨_, rfl⟩
                         (first | rw [hji51] at H | simp only [hji51] at H)
                         have hji51_ : (if ((rd_T41 y170 x98_5).f1) < ((rd_T41 y170 x98_5).f0) then ((rd_T41 y170 x98_5).f1) else ((rd_T41 y170 x98_5).f0)) = ji51 := hji51
                         by_cases c52 : (ji51) < 0
                         ·rw [if_pos c52] at H
                          have c52b0 : decide ((ji51) < 0) = true := decide_eq_true c52
                          clear c52
                          (first | rw [c52b0] | (simp only [i64_w, i32_w]; rw [c52b0]) | skip)
                          as_aux_lemma =>
                           have H' := Aside0.mk H
                           clear H; have hcz53_0 := blkc3 BK190.out
                           go_wp2
                           go_meet
                           case rel => exact ⟨_, (true), (xrf), H', ⟨by have := HJ12.out; have := HJ23.out; have := HJ26.out; have := HK4.out; have := HK5.out; first | omega | exact Nat.le_refl _⟩, ⟨by (with_reducible repeat (first | apply Kd.R_alloc | apply Kd.R_drewN | apply Kd.R_drew)); exact HO_9.out⟩, ⟨by (with_reducible repeat (first | apply Kd.R_alloc | apply Kd.R_drewN | apply Kd.R_drew)); exact HO_14.out⟩, ⟨by (with_reducible repeat (first | apply Kd.R_alloc | apply Kd.R_drewN | apply Kd.R_drew)); exact Kd.R_mono HO193.out (fun _ hk => ⟨hk.1.2, hk.2⟩)⟩, ⟨xK BK190⟩, ⟨xW HB⟩⟩
                         ·as_aux_lemma =>
                          rw [if_neg c52] at H
                          have c52b0 : decide ((ji51) < 0) = false := decide_eq_false c52
                          clear c52
                          (first | rw [c52b0] | (simp only [i64_w, i32_w]; rw [c52b0]) | skip)
                          obtain ⟨ji54, hji54⟩ : ∃ j_ : Int, (mx ((rd_T41 y170 x98_5).f0) ((rd_T41 y170 x98_5).f1)) = j_ := ⟨_, rfl⟩
                          (first | rw [hji54] at H | simp only [hji54] at H)
                          have hji54_ : (if ((rd_T41 y170 x98_5).f0) < ((rd_T41 y170 x98_5).f1) then ((rd_T41 y170 x98_5).f1) else ((rd_T41 y170 x98_5).f0)) = ji54 := hji54
                          by_cases c55 : (ji54) ≥ (y166.length : Int)
                          ·rw [if_pos c55] at H
                           have c55b0 : decide ((y166.length : Int) ≤ (ji54)) = true := decide_eq_true c55
                           clear c55
                           as_aux_lemma =>
                            have H' := Aside0.mk H
                            clear H; have hcz56_0 := blkc3 BK190.out
                            go_wp2
                            go_meet
                            case rel => exact ⟨_, (true), (xrf), H', ⟨by have := HJ12.out; have := HJ23.out; have := HJ26.out; have := HK4.out; have := HK5.out; first | omega | exact Nat.le_refl _⟩, ⟨by (with_reducible repeat (first | apply Kd.R_alloc | apply Kd.R_drewN | apply Kd.R_drew)); exact HO_9.out⟩, ⟨by (with_reducible repeat (first | apply Kd.R_alloc | apply Kd.R_drewN | apply Kd.R_drew)); exact HO_14.out⟩, ⟨by (with_reducible repeat (first | apply Kd.R_alloc | apply Kd.R_drewN | apply Kd.R_drew)); exact Kd.R_mono HO193.out (fun _ hk => ⟨hk.1.2, hk.2⟩)⟩, ⟨xK BK190⟩, ⟨xW HB⟩⟩
                          ·rw [if_neg c55] at H
                           have c55b0 : decide ((y166.length : Int) ≤ (ji54)) = false := decide_eq_false c55
                           clear c55
                           as_aux_lemma =>
                            have H' := Aside0.mk H
                            clear H; have hcz57_0 := blkc3 BK190.out
                            go_wp2
                            go_meet
                            case rel => exact ⟨_, ((((rd_T41 y170 x98_5).f0) == ((rd_T41 y170 x98_5).f1))), (xrf), H', ⟨by have := HJ12.out; have := HJ23.out; have := HJ26.out; have := HK4.out; have := HK5.out; first | omega | exact Nat.le_refl _⟩, ⟨by (with_reducible repeat (first | apply Kd.R_alloc | apply Kd.R_drewN | apply Kd.R_drew)); exact HO_9.out⟩, ⟨by (with_reducible repeat (first | apply Kd.R_alloc | apply Kd.R_drewN | apply Kd.R_drew)); exact HO_14.out⟩, ⟨by (with_reducible repeat (first | apply Kd.R_alloc | apply Kd.R_drewN | apply Kd.R_drew)); exact Kd.R_mono HO193.out (fun _ hk => ⟨hk.1.2, hk.2⟩)⟩, ⟨xK BK190⟩, ⟨xW HB⟩⟩
                        case rest =>
                         as_aux_lemma =>
                         clear HC46; (try clear p1); (try clear q1); (try clear hx1); (try clear p2); (try clear p6); (try clear q15); (try clear q16); (try clear p18); (try clear q18); (try clear hx18); (try clear hx180_0); (try clear hx189_0); (try clear hx189_1); (try clear hx189_2); (try clear p1); (try clear p18); (try clear p180); (try clear p189); (try clear p2); (try clear p6); (try clear q1); (try clear q15); (try clear q16); (try clear q18); (try clear q180); (try clear q189)
                         obtain ⟨kq, x131_45, rfl, HA, HJ45, HO_9, HO_14, HO_17, BK190, HB⟩ := hcut
                         cases kq with
                         | zero => exact absurd HA.out (by simp [gamehalllaw3_RatingMoves.j5])
                         | succ kj45 =>
                          have H := HA.out; clear HA
                          simp only [gamehalllaw3_RatingMoves.j5] at H
                          have HC58 := Aside0.mk H; clear H
                          go_upto_if 131 with (fail)
                          go_cut [11] (fun vs11 wc => ∃ (kq : Nat) (x11_57 : Int), vs11 = .int .i64 x11_57 ∧ Aside0 (gamehalllaw3_RatingMoves.j7 kq y166 a2 t176 t177 x11_57 x14_5 t191 t194 y170 (y170.length : Int) x98_5 ((rd_T41 y170 x98_5).f0) ((rd_T41 y170 x98_5).f1) ((rd_T41 y170 x98_5).f2) = some r) ∧ Aside0 (kq ≤ kj45) ∧ Aside0 (Kd.R (Kd.int .i64) 3 wc w.heap.size (fun k_ => some k_ ≠ ((.slice Ao49 x14_5.length co49) : Value).ownBlock ∧ some k_ ≠ (v192 : Value).ownBlock) v178 t176) ∧ Aside0 (Kd.R (Kd.int .i64) 3 wc w.heap.size (fun k_ => some k_ ≠ (v178 : Value).ownBlock ∧ some k_ ≠ (v192 : Value).ownBlock) (.slice Ao49 x14_5.length co49) x14_5) ∧ Aside0 (Kd.R (Kd.int .i64) 3 wc w.heap.size (fun k_ => some k_ ≠ (v178 : Value).ownBlock ∧ some k_ ≠ ((.slice Ao49 x14_5.length co49) : Value).ownBlock) v192 t191) ∧ Aside0 (wc.heap[gb190]? = some (.cells #[.int .i64 ((rd_T41 y170 x98_5).f0), .int .i64 ((rd_T41 y170 x98_5).f1), .int .i64 ((rd_T41 y170 x98_5).f2)] 41 (0, 0))) ∧ Aside0 (Below w.heap.size w wc))
                          case first =>
                           as_aux_lemma =>
                           have H := HC58.out; clear HC58
                           by_cases c59 : x131_45 = true
                           ·subst c59
                            rw [if_pos rfl] at H
                            as_aux_lemma =>
                             have H' := Aside0.mk H
                             clear H
                             go_wp2
                             go_meet
                             case rel => exact ⟨_, (3), (xrf), H', ⟨by have := HJ12.out; have := HJ23.out; have := HJ26.out; have := HK4.out; have := HK5.out; have := HJ45.out; first | omega | exact Nat.le_refl _⟩, ⟨by (with_reducible repeat (first | apply Kd.R_alloc | apply Kd.R_drewN | apply Kd.R_drew)); exact HO_9.out⟩, ⟨by (with_reducible repeat (first | apply Kd.R_alloc | apply Kd.R_drewN | apply Kd.R_drew)); exact HO_14.out⟩, ⟨by (with_reducible repeat (first | apply Kd.R_alloc | apply Kd.R_drewN | apply Kd.R_drew)); exact HO_17.out⟩, ⟨xK BK190⟩, ⟨xW HB⟩⟩
                           ·replace c59 := Bool.eq_false_iff.mpr c59
                            subst c59
                            rw [if_neg (show ¬ (false = true) by decide)] at H
                            have HC60 := Aside0.mk H; clear H
                            go_upto_region 27 with (fail)
                            go_cut [139] (fun vs139 wc => ∃ (kq : Nat) (x139_59 : Bool), vs139 = .bool x139_59 ∧ Aside0 (gamehalllaw3_RatingMoves.j6 kq y166 a2 t176 t177 x11_5 x14_5 t191 t194 y170 (y170.length : Int) x98_5 x139_59 ((rd_T41 y170 x98_5).f0) ((rd_T41 y170 x98_5).f1) ((rd_T41 y170 x98_5).f2) = some r) ∧ Aside0 (kq ≤ kj45) ∧ Aside0 (Kd.R (Kd.int .i64) 3 wc w.heap.size (fun k_ => some k_ ≠ ((.slice Ao49 x14_5.length co49) : Value).ownBlock ∧ some k_ ≠ (v192 : Value).ownBlock) v178 t176) ∧ Aside0 (Kd.R (Kd.int .i64) 3 wc w.heap.size (fun k_ => some k_ ≠ (v178 : Value).ownBlock ∧ some k_ ≠ (v192 : Value).ownBlock) (.slice Ao49 x14_5.length co49) x14_5) ∧ Aside0 (Kd.R (Kd.int .i64) 3 wc w.heap.size (fun k_ => some k_ ≠ (v178 : Value).ownBlock ∧ some k_ ≠ ((.slice Ao49 x14_5.length co49) : Value).ownBlock) v192 t191) ∧ Aside0 (wc.heap[gb190]? = some (.cells #[.int .i64 ((rd_T41 y170 x98_5).f0), .int .i64 ((rd_T41 y170 x98_5).f1), .int .i64 ((rd_T41 y170 x98_5).f2)] 41 (0, 0))) ∧ Aside0 (Below w.heap.size w wc))
                            case first =>
                             as_aux_lemma =>
                             have H := HC60.out; clear HC60
                             by_cases c61 : ((rd_T41 y170 x98_5).f2) < 0
                             ·rw [if_pos c61] at H
                              have c61b0 : decide (((rd_T41 y170 x98_5).f2) < 0) = true := decide_eq_true c61
                              clear c61
                              (first | rw [c61b0] | (simp only [i64_w, i32_w]; rw [c61b0]) | skip)
                              as_aux_lemma =>
                               have H' := Aside0.mk H
                               clear H; have hcz62_0 := blkc3 BK190.out
                               go_wp2
                               go_meet
                               case rel => exact ⟨_, (true), (xrf), H', ⟨by have := HJ12.out; have := HJ23.out; have := HJ26.out; have := HK4.out; have := HK5.out; have := HJ45.out; first | omega | exact Nat.le_refl _⟩, ⟨by (with_reducible repeat (first | apply Kd.R_alloc | apply Kd.R_drewN | apply Kd.R_drew)); exact HO_9.out⟩, ⟨by (with_reducible repeat (first | apply Kd.R_alloc | apply Kd.R_drewN | apply Kd.R_drew)); exact HO_14.out⟩, ⟨by (with_reducible repeat (first | apply Kd.R_alloc | apply Kd.R_drewN | apply Kd.R_drew)); exact HO_17.out⟩, ⟨xK BK190⟩, ⟨xW HB⟩⟩
                             ·rw [if_neg c61] at H
                              have c61b0 : decide (((rd_T41 y170 x98_5).f2) < 0) = false := decide_eq_false c61
                              clear c61
                              (first | rw [c61b0] | (simp only [i64_w, i32_w]; rw [c61b0]) | skip)
                              as_aux_lemma =>
                               have H' := Aside0.mk H
                               clear H; have hcz63_0 := blkc3 BK190.out
                               go_wp2
                               go_meet
                               case rel => exact ⟨_, (decide (((rd_T41 y170 x98_5).f2) > 2)), (xrf), H', ⟨by have := HJ12.out; have := HJ23.out; have := HJ26.out; have := HK4.out; have := HK5.out; have := HJ45.out; first | omega | exact Nat.le_refl _⟩, ⟨by (with_reducible repeat (first | apply Kd.R_alloc | apply Kd.R_drewN | apply Kd.R_drew)); exact HO_9.out⟩, ⟨by (with_reducible repeat (first | apply Kd.R_alloc | apply Kd.R_drewN | apply Kd.R_drew)); exact HO_14.out⟩, ⟨by (with_reducible repeat (first | apply Kd.R_alloc | apply Kd.R_drewN | apply Kd.R_drew)); exact HO_17.out⟩, ⟨xK BK190⟩, ⟨xW HB⟩⟩
                            case rest =>
                             as_aux_lemma =>
                             clear HC60; (try clear p1); (try clear q1); (try clear hx1); (try clear p2); (try clear p6); (try clear q15); (try clear q16); (try clear p18); (try clear q18); (try clear hx18); (try clear hx180_0); (try clear hx189_0); (try clear hx189_1); (try clear hx189_2); (try clear p1); (try clear p18); (try clear p180); (try clear p189); (try clear p2); (try clear p6); (try clear q1); (try clear q15); (try clear q16); (try clear q18); (try clear q180); (try clear q189)
                             obtain ⟨kq, x139_59, rfl, HA, HJ59, HO_9, HO_14, HO_17, BK190, HB⟩ := hcut
                             cases kq with
                             | zero => exact absurd HA.out (by simp [gamehalllaw3_RatingMoves.j6])
                             | succ kj59 =>
                              have H := HA.out; clear HA
                              simp only [gamehalllaw3_RatingMoves.j6] at H
                              by_cases c64 : x139_59 = true
                              ·subst c64
                               rw [if_pos rfl] at H
                               as_aux_lemma =>
                                have H' := Aside0.mk H
                                clear H
                                go_wp2
                                go_meet
                                case rel => exact ⟨_, (1), (xrf), H', ⟨by have := HJ12.out; have := HJ23.out; have := HJ26.out; have := HK4.out; have := HK5.out; have := HJ45.out; have := HJ59.out; first | omega | exact Nat.le_refl _⟩, ⟨by (with_reducible repeat (first | apply Kd.R_alloc | apply Kd.R_drewN | apply Kd.R_drew)); exact HO_9.out⟩, ⟨by (with_reducible repeat (first | apply Kd.R_alloc | apply Kd.R_drewN | apply Kd.R_drew)); exact HO_14.out⟩, ⟨by (with_reducible repeat (first | apply Kd.R_alloc | apply Kd.R_drewN | apply Kd.R_drew)); exact HO_17.out⟩, ⟨xK BK190⟩, ⟨xW HB⟩⟩
                              ·replace c64 := Bool.eq_false_iff.mpr c64
                               subst c64
                               rw [if_neg (show ¬ (false = true) by decide)] at H
                               by_cases c65 : a2 < 1
                               ·rw [if_pos c65] at H
                                have c65b0 : decide (a2 < 1) = true := decide_eq_true c65
                                clear c65
                                as_aux_lemma =>
                                 have H' := Aside0.mk H
                                 clear H
                                 go_wp2
                                 go_meet
                                 case rel => exact ⟨_, (4), (xrf), H', ⟨by have := HJ12.out; have := HJ23.out; have := HJ26.out; have := HK4.out; have := HK5.out; have := HJ45.out; have := HJ59.out; first | omega | exact Nat.le_refl _⟩, ⟨by (with_reducible repeat (first | apply Kd.R_alloc | apply Kd.R_drewN | apply Kd.R_drew)); exact HO_9.out⟩, ⟨by (with_reducible repeat (first | apply Kd.R_alloc | apply Kd.R_drewN | apply Kd.R_drew)); exact HO_14.out⟩, ⟨by (with_reducible repeat (first | apply Kd.R_alloc | apply Kd.R_drewN | apply Kd.R_drew)); exact HO_17.out⟩, ⟨xK BK190⟩, ⟨xW HB⟩⟩
                               ·as_aux_lemma =>
                                rw [if_neg c65] at H
                                have c65b0 : decide (a2 < 1) = false := decide_eq_false c65
                                clear c65
                                by_cases c66 : a2 > 64
                                ·rw [if_pos c66] at H
                                 have c66b0 : decide (64 < a2) = true := decide_eq_true c66
                                 clear c66
                                 as_aux_lemma =>
                                  have H' := Aside0.mk H
                                  clear H
                                  go_wp2
                                  go_meet
                                  case rel => exact ⟨_, (4), (xrf), H', ⟨by have := HJ12.out; have := HJ23.out; have := HJ26.out; have := HK4.out; have := HK5.out; have := HJ45.out; have := HJ59.out; first | omega | exact Nat.le_refl _⟩, ⟨by (with_reducible repeat (first | apply Kd.R_alloc | apply Kd.R_drewN | apply Kd.R_drew)); exact HO_9.out⟩, ⟨by (with_reducible repeat (first | apply Kd.R_alloc | apply Kd.R_drewN | apply Kd.R_drew)); exact HO_14.out⟩, ⟨by (with_reducible repeat (first | apply Kd.R_alloc | apply Kd.R_drewN | apply Kd.R_drew)); exact HO_17.out⟩, ⟨xK BK190⟩, ⟨xW HB⟩⟩
                                ·rw [if_neg c66] at H
                                 have c66b0 : decide (64 < a2) = false := decide_eq_false c66
                                 clear c66
                                 as_aux_lemma =>
                                  have H' := Aside0.mk H
                                  clear H
                                  go_wp2
                                  go_meet
                                  case rel => exact ⟨_, (x11_5), (xrf), H', ⟨by have := HJ12.out; have := HJ23.out; have := HJ26.out; have := HK4.out; have := HK5.out; have := HJ45.out; have := HJ59.out; first | omega | exact Nat.le_refl _⟩, ⟨by (with_reducible repeat (first | apply Kd.R_alloc | apply Kd.R_drewN | apply Kd.R_drew)); exact HO_9.out⟩, ⟨by (with_reducible repeat (first | apply Kd.R_alloc | apply Kd.R_drewN | apply Kd.R_drew)); exact HO_14.out⟩, ⟨by (with_reducible repeat (first | apply Kd.R_alloc | apply Kd.R_drewN | apply Kd.R_drew)); exact HO_17.out⟩, ⟨xK BK190⟩, ⟨xW HB⟩⟩
                          case rest =>
                           as_aux_lemma =>
                           clear HC58; (try clear p1); (try clear q1); (try clear hx1); (try clear p2); (try clear p6); (try clear q15); (try clear q16); (try clear p18); (try clear q18); (try clear hx18); (try clear p64); (try clear hx180_0); (try clear hx189_0); (try clear hx189_1); (try clear hx189_2); (try clear p1); (try clear p18); (try clear p180); (try clear p189); (try clear p2); (try clear p6); (try clear q1); (try clear q15); (try clear q16); (try clear q18); (try clear q180); (try clear q189)
                           obtain ⟨kq, x11_57, rfl, HA, HJ57, HO_9, HO_14, HO_17, BK190, HB⟩ := hcut
                           cases kq with
                           | zero => exact absurd HA.out (by simp [gamehalllaw3_RatingMoves.j7])
                           | succ kj57 =>
                            have H := HA.out; clear HA
                            simp only [gamehalllaw3_RatingMoves.j7] at H
                            by_cases c67 : x11_57 = 0
                            ·as_aux_lemma =>
                             rw [if_pos c67] at H
                             have c67b0 : (x11_57 == 0) = true := beq_iff_eq.mpr c67
                             have c67b1 : (x11_57 != 0) = false := bne_eq_false_iff_eq.mpr c67
                             clear c67
                             by_cases c68 : 0 ≤ ((rd_T41 y170 x98_5).f0)
                             ·as_aux_lemma =>
                              rw [if_pos c68] at H
                              have c68b0 : decide (0 ≤ ((rd_T41 y170 x98_5).f0)) = true := decide_eq_true c68
                              clear c68
                              by_cases c69 : ((rd_T41 y170 x98_5).f0) < (x14_5.length : Int)
                              ·as_aux_lemma =>
                               rw [if_pos c69] at H
                               have c69b0 : decide (((rd_T41 y170 x98_5).f0) < (x14_5.length : Int)) = true := decide_eq_true c69
                               clear c69
                               by_cases c70 : 0 ≤ ((rd_T41 y170 x98_5).f1)
                               ·as_aux_lemma =>
                                rw [if_pos c70] at H
                                have c70b0 : decide (0 ≤ ((rd_T41 y170 x98_5).f1)) = true := decide_eq_true c70
                                clear c70
                                by_cases c71 : ((rd_T41 y170 x98_5).f1) < (x14_5.length : Int)
                                ·as_aux_lemma =>
                                 rw [if_pos c71] at H
                                 have c71b0 : decide (((rd_T41 y170 x98_5).f1) < (x14_5.length : Int)) = true := decide_eq_true c71
                                 clear c71; replace H := Option.bind_eq_some_iff.mp H
                                 obtain ⟨t197, A720, H⟩ := H
                                 try dsimp only at H
                                 have A72 := Aside0.mk A720; clear A720; replace H := Option.bind_eq_some_iff.mp H
                                 obtain ⟨⟨t200, t201⟩, A730, H⟩ := H
                                 try dsimp only at H
                                 have A73 := Aside0.mk A730; clear A730; have HC74 := Aside0.mk H; clear H
                                 try go_wp2
                                 replace HO_9 := Aside0.mk (Kd.R_drew HO_9.out); replace HO_14 := Aside0.mk (Kd.R_drew HO_14.out); replace HO_17 := Aside0.mk (Kd.R_drew HO_17.out); replace BK190 := Aside0.mk (blk_drew BK190.out); replace HB := Aside0.mk (below_drew1 HB.out)
                                 have p195 : 0 ≤ (((rd_T41 y170 x98_5).f0) : Int) := of_decide_eq_true (by first | (with_reducible assumption) | assumption)
                                 have q195 : ((rd_T41 y170 x98_5).f0) < (x14_5.length : Int) := of_decide_eq_true (by first | (with_reducible assumption) | assumption)
                                 obtain ⟨ad195, e195, hx195_0⟩ := Kd.at_int (Kd.R_reads' HO_14.out).2.2 ((rd_T41 y170 x98_5).f0) p195 q195
                                 cases e195
                                 replace p195 := eq_true p195; replace q195 := eq_true q195
                                 have p196 : 0 ≤ (((rd_T41 y170 x98_5).f1) : Int) := of_decide_eq_true (by first | (with_reducible assumption) | assumption)
                                 have q196 : ((rd_T41 y170 x98_5).f1) < (x14_5.length : Int) := of_decide_eq_true (by first | (with_reducible assumption) | assumption)
                                 obtain ⟨ad196, e196, hx196_0⟩ := Kd.at_int (Kd.R_reads' HO_14.out).2.2 ((rd_T41 y170 x98_5).f1) p196 q196
                                 obtain rfl : ad195 = ad196 := (by injection e196)
                                 replace p196 := eq_true p196; replace q196 := eq_true q196
                                 refine start_ (n := 19) (S := fun w' => w'.cell? ⟨gb190, 0, none⟩ = some (.int .i64 ((rd_T41 y170 x98_5).f0)) ∧ w'.cell? ⟨gb190, 1, none⟩ = some (.int .i64 ((rd_T41 y170 x98_5).f1)) ∧ w'.cell? ⟨gb190, 2, none⟩ = some (.int .i64 ((rd_T41 y170 x98_5).f2)) ∧ w'.cell? (ad195.add (((rd_T41 y170 x98_5).f0)).toNat) = some (.int .i64 (rd x14_5 ((rd_T41 y170 x98_5).f0))) ∧ w'.cell? (ad195.add (((rd_T41 y170 x98_5).f1)).toNat) = some (.int .i64 (rd x14_5 ((rd_T41 y170 x98_5).f1)))) (ds := []) (mk 19 0) kr_ rfl rfl ⟨xc BK190 0, xc BK190 1, xc BK190 2, hx195_0, hx196_0⟩ (fun hHeld => ?_); refine with_tabW gamehalllaw3_RatingMoves.tab33 gamehalllaw3_RatingMoves.bits33 (fun HT_ HW_ => ?_)
                                 generalize wc.drew = w75 at HO_9 HO_14 HO_17 BK190 HB hx195_0 hx196_0 hHeld ⊢; refine pu_ 0 166 HT_ ?_; refine pu_ 1 167 HT_ ?_; refine pu_ 4 170 HT_ ?_; refine pu_ 5 171 HT_ ?_; refine pu_ 9 175 HT_ ?_; refine pu_ 10 176 HT_ ?_; refine tk_ 2 168 HT_ HW_ hHeld ?_; refine pu_ 3 169 HT_ ?_; refine tk_ 6 172 HT_ HW_ hHeld ?_; refine pu_ 7 173 HT_ ?_; refine tk_ 8 174 HT_ HW_ hHeld ?_; refine tk_ 11 177 HT_ HW_ hHeld ?_; refine pu_ 12 178 HT_ ?_; refine tk_ 13 179 HT_ HW_ hHeld ?_; refine pu_ 14 180 HT_ ?_
                                 refine one_ (i := 15) (N := some 181) #[true, true, true, true, true, true, true, true, true, true, true, true, true, true, true, true, false, false, false] rfl rfl (one_of HT_.out kr_) (by decide) (fun K hK => ?_)
                                 refine goes_ Tryd.func14 kr_ rfl #[.int .i64 (wrap64 ((rd x14_5 ((rd_T41 y170 x98_5).f0)) - (rd x14_5 ((rd_T41 y170 x98_5).f1))))] (by rfl) rfl rfl (by (try simp only [List.map_toArray, List.map_cons, List.map_nil]); first | done | rfl | (simp only [List.length_drop, List.length_take]; rfl)) ?_
                                 with_reducible refine (gamehallref3_Hundredths.calls kj57 (wrap64 ((rd x14_5 ((rd_T41 y170 x98_5).f0)) - (rd x14_5 ((rd_T41 y170 x98_5).f1)))) t197 _ A72.out).mono ?_
                                 rintro e w76 ⟨rfl, hb⟩
                                 have HS3_ := (hb.cell (World.block_lt_of_cell? _ _ (hHeld.2.2.2.1))).trans (hHeld.2.2.2.1); have HS4_ := (hb.cell (World.block_lt_of_cell? _ _ (hHeld.2.2.2.2))).trans (hHeld.2.2.2.2)
                                 refine ⟨_, rfl, ?_⟩
                                 have n0_ := Aside0.mk (Kd.R_below (by (with_reducible repeat (first | apply Kd.R_alloc | apply Kd.R_drewN | apply Kd.R_drew)); exact HO_9.out) hb)
                                 have n1_ := Aside0.mk (Kd.R_below (by (with_reducible repeat (first | apply Kd.R_alloc | apply Kd.R_drewN | apply Kd.R_drew)); exact HO_14.out) hb)
                                 have n2_ := Aside0.mk (Kd.R_below (by (with_reducible repeat (first | apply Kd.R_alloc | apply Kd.R_drewN | apply Kd.R_drew)); exact HO_17.out) hb)
                                 have n3_ := Aside0.mk (xB BK190 hb); have n4_ := Aside0.mk (xS HB hb); clear HO_9; clear HO_14; clear HO_17; clear BK190; clear HB; have HO_9 := n0_; have HO_14 := n1_; have HO_17 := n2_; have BK190 := n3_; have HB := n4_; clear n0_ n1_ n2_ n3_ n4_
                                 (try clear hb)
                                 (try clear hb2)
                                 (try clear hk)
                                 (try clear hi)
                                 refine hK.out _ _ ⟨(blk_cell BK190.out 0).trans rfl, (blk_cell BK190.out 1).trans rfl, (blk_cell BK190.out 2).trans rfl, HS3_, HS4_⟩ (fun hHeld => ?_)
                                 clear hK K
                                 refine norm_ (a' := ?_) ?_ ?_
                                 rotate_left
                                 ·show Act.put _ (some 181) _ = _
                                  simp only [Act.put, List.setIfInBounds_toArray, List.set_cons_zero, List.set_cons_succ, i64_w, i32_w]
                                  rfl
                                 refine pu_ 16 182 HT_ ?_; refine pu_ 17 183 HT_ ?_; refine pu_ 18 19 HT_ ?_
                                 refine done_ (done_of HT_.out kr_) ?_
                                 try go_wp2
                                 replace HO_9 := Aside0.mk (Kd.R_drew HO_9.out); replace HO_14 := Aside0.mk (Kd.R_drew HO_14.out); replace HO_17 := Aside0.mk (Kd.R_drew HO_17.out); replace BK190 := Aside0.mk (blk_drew BK190.out); replace HB := Aside0.mk (below_drew1 HB.out)
                                 have p198 : 0 ≤ (((rd_T41 y170 x98_5).f0) : Int) := of_decide_eq_true (by first | (with_reducible assumption) | assumption)
                                 have q198 : ((rd_T41 y170 x98_5).f0) < (x14_5.length : Int) := of_decide_eq_true (by first | (with_reducible assumption) | assumption)
                                 obtain ⟨ad198, e198, hx198_0⟩ := Kd.at_int (Kd.R_reads' HO_14.out).2.2 ((rd_T41 y170 x98_5).f0) p198 q198
                                 obtain rfl : ad195 = ad198 := (by injection e198)
                                 replace p198 := eq_true p198; replace q198 := eq_true q198
                                 have p199 : 0 ≤ (((rd_T41 y170 x98_5).f1) : Int) := of_decide_eq_true (by first | (with_reducible assumption) | assumption)
                                 have q199 : ((rd_T41 y170 x98_5).f1) < (x14_5.length : Int) := of_decide_eq_true (by first | (with_reducible assumption) | assumption)
                                 obtain ⟨ad199, e199, hx199_0⟩ := Kd.at_int (Kd.R_reads' HO_14.out).2.2 ((rd_T41 y170 x98_5).f1) p199 q199
                                 obtain rfl : ad195 = ad199 := (by injection e199)
                                 replace p199 := eq_true p199; replace q199 := eq_true q199
                                 refine start_ (n := 19) (S := fun w' => w'.cell? ⟨gb190, 0, none⟩ = some (.int .i64 ((rd_T41 y170 x98_5).f0)) ∧ w'.cell? ⟨gb190, 1, none⟩ = some (.int .i64 ((rd_T41 y170 x98_5).f1)) ∧ w'.cell? ⟨gb190, 2, none⟩ = some (.int .i64 ((rd_T41 y170 x98_5).f2)) ∧ w'.cell? (ad195.add (((rd_T41 y170 x98_5).f0)).toNat) = some (.int .i64 (rd x14_5 ((rd_T41 y170 x98_5).f0))) ∧ w'.cell? (ad195.add (((rd_T41 y170 x98_5).f1)).toNat) = some (.int .i64 (rd x14_5 ((rd_T41 y170 x98_5).f1)))) (ds := []) (mk 19 0) kr_ rfl rfl ⟨xc BK190 0, xc BK190 1, xc BK190 2, hx198_0, hx199_0⟩ (fun hHeld => ?_); refine with_tabW gamehalllaw3_RatingMoves.tab34 gamehalllaw3_RatingMoves.bits34 (fun HT_ HW_ => ?_)
                                 generalize w76.drew = w77 at HO_9 HO_14 HO_17 BK190 HB hx198_0 hx199_0 hHeld ⊢; refine pu_ 0 185 HT_ ?_; refine pu_ 1 186 HT_ ?_; refine pu_ 5 190 HT_ ?_; refine pu_ 6 191 HT_ ?_; refine pu_ 10 195 HT_ ?_; refine pu_ 12 197 HT_ ?_; refine tk_ 2 187 HT_ HW_ hHeld ?_; refine pu_ 3 188 HT_ ?_; refine tk_ 4 189 HT_ HW_ hHeld ?_; refine tk_ 7 192 HT_ HW_ hHeld ?_; refine pu_ 8 193 HT_ ?_; refine tk_ 9 194 HT_ HW_ hHeld ?_; refine tk_ 11 196 HT_ HW_ hHeld ?_
                                 refine one_ (i := 13) (N := some 198) #[true, true, true, true, true, true, true, true, true, true, true, true, true, true, false, false, false, false, false] rfl rfl (one_of HT_.out kr_) (by decide) (fun K hK => ?_)
                                 refine goes_ Tryd.func18 kr_ rfl #[.int .i64 (rd x14_5 ((rd_T41 y170 x98_5).f0)), .int .i64 (rd x14_5 ((rd_T41 y170 x98_5).f1)), .int .i64 ((rd_T41 y170 x98_5).f2), .int .i64 a2] (by rfl) rfl rfl (by (try simp only [List.map_toArray, List.map_cons, List.map_nil]); first | done | rfl | (simp only [List.length_drop, List.length_take]; rfl)) ?_
                                 with_reducible refine (rating_Change.calls kj57 (rd x14_5 ((rd_T41 y170 x98_5).f0)) (rd x14_5 ((rd_T41 y170 x98_5).f1)) ((rd_T41 y170 x98_5).f2) a2 t200 t201 _ A73.out ?sideL).mono ?_
                                 case sideL => exact xL hlaid
                                 rintro e w78 ⟨rfl, hb⟩
                                 have HS3_ := (hb.cell (World.block_lt_of_cell? _ _ (hHeld.2.2.2.1))).trans (hHeld.2.2.2.1); have HS4_ := (hb.cell (World.block_lt_of_cell? _ _ (hHeld.2.2.2.2))).trans (hHeld.2.2.2.2)
                                 refine ⟨_, rfl, ?_⟩
                                 have n0_ := Aside0.mk (Kd.R_below (by (with_reducible repeat (first | apply Kd.R_alloc | apply Kd.R_drewN | apply Kd.R_drew)); exact HO_9.out) hb)
                                 have n1_ := Aside0.mk (Kd.R_below (by (with_reducible repeat (first | apply Kd.R_alloc | apply Kd.R_drewN | apply Kd.R_drew)); exact HO_14.out) hb)
                                 have n2_ := Aside0.mk (Kd.R_below (by (with_reducible repeat (first | apply Kd.R_alloc | apply Kd.R_drewN | apply Kd.R_drew)); exact HO_17.out) hb)
                                 have n3_ := Aside0.mk (xB BK190 hb); have n4_ := Aside0.mk (xS HB hb); clear HO_9; clear HO_14; clear HO_17; clear BK190; clear HB; have HO_9 := n0_; have HO_14 := n1_; have HO_17 := n2_; have BK190 := n3_; have HB := n4_; clear n0_ n1_ n2_ n3_ n4_
                                 (try clear hb)
                                 (try clear hb2)
                                 (try clear hk)
                                 (try clear hi)
                                 refine hK.out _ _ ⟨(blk_cell BK190.out 0).trans rfl, (blk_cell BK190.out 1).trans rfl, (blk_cell BK190.out 2).trans rfl, HS3_, HS4_⟩ (fun hHeld => ?_)
                                 clear hK K
                                 refine norm_ (a' := ?_) ?_ ?_
                                 rotate_left
                                 ·show Act.put _ (some 198) _ = _
                                  simp only [Act.put, List.setIfInBounds_toArray, List.set_cons_zero, List.set_cons_succ, i64_w, i32_w]
                                  rfl
                                 refine pu_ 14 184 HT_ ?_; refine pu_ 15 199 HT_ ?_; refine pu_ 16 200 HT_ ?_; refine pu_ 17 20 HT_ ?_; refine pu_ 18 21 HT_ ?_
                                 refine done_ (done_of HT_.out kr_) ?_
                                 go_upto_region 35 with (fail)
                                 go_cut [207] (fun vs207 wc => ∃ (kq : Nat) (x207_73 : Bool), vs207 = .bool x207_73 ∧ Aside0 (gamehalllaw3_RatingMoves.j8 kq y166 a2 t176 t177 x11_57 x14_5 t191 t194 (wrap64 (a2 * (wrap64 ((wrap64 (50 * ((rd_T41 y170 x98_5).f2))) - t197)))) y170 (y170.length : Int) x98_5 x207_73 ((rd_T41 y170 x98_5).f0) ((rd_T41 y170 x98_5).f1) ((rd_T41 y170 x98_5).f2) = some r) ∧ Aside0 (kq ≤ kj57) ∧ Aside0 (Kd.R (Kd.int .i64) 3 wc w.heap.size (fun k_ => some k_ ≠ ((.slice (some ad195) x14_5.length co49) : Value).ownBlock ∧ some k_ ≠ (v192 : Value).ownBlock) v178 t176) ∧ Aside0 (Kd.R (Kd.int .i64) 3 wc w.heap.size (fun k_ => some k_ ≠ (v178 : Value).ownBlock ∧ some k_ ≠ (v192 : Value).ownBlock) (.slice (some ad195) x14_5.length co49) x14_5) ∧ Aside0 (Kd.R (Kd.int .i64) 3 wc w.heap.size (fun k_ => some k_ ≠ (v178 : Value).ownBlock ∧ some k_ ≠ ((.slice (some ad195) x14_5.length co49) : Value).ownBlock) v192 t191) ∧ Aside0 (wc.heap[gb190]? = some (.cells #[.int .i64 ((rd_T41 y170 x98_5).f0), .int .i64 ((rd_T41 y170 x98_5).f1), .int .i64 ((rd_T41 y170 x98_5).f2)] 41 (0, 0))) ∧ Aside0 (Below w.heap.size w wc))
                                 case first =>
                                  as_aux_lemma =>
                                  have H := HC74.out; clear HC74
                                  by_cases c79 : t201 = 0
                                  ·rw [if_pos c79] at H
                                   have c79b0 : (t201 == 0) = true := beq_iff_eq.mpr c79
                                   have c79b1 : (t201 != 0) = false := bne_eq_false_iff_eq.mpr c79
                                   clear c79
                                   (first | rw [c79b0] | (simp only [i64_w, i32_w]; rw [c79b0]) | skip)
                                   as_aux_lemma =>
                                    have H' := Aside0.mk H
                                    clear H
                                    go_wp2
                                    go_meet
                                    case rel => exact ⟨_, ((t200 != (wrap64 (a2 * (wrap64 ((wrap64 (50 * ((rd_T41 y170 x98_5).f2))) - t197)))))), (xrf), H', ⟨by have := HJ12.out; have := HJ23.out; have := HJ26.out; have := HK4.out; have := HK5.out; have := HJ45.out; have := HJ57.out; first | omega | exact Nat.le_refl _⟩, ⟨by (with_reducible repeat (first | apply Kd.R_alloc | apply Kd.R_drewN | apply Kd.R_drew)); exact HO_9.out⟩, ⟨by (with_reducible repeat (first | apply Kd.R_alloc | apply Kd.R_drewN | apply Kd.R_drew)); exact HO_14.out⟩, ⟨by (with_reducible repeat (first | apply Kd.R_alloc | apply Kd.R_drewN | apply Kd.R_drew)); exact HO_17.out⟩, ⟨xK BK190⟩, ⟨xW HB⟩⟩
                                  ·rw [if_neg c79] at H
                                   have c79b0 : (t201 == 0) = false := beq_eq_false_iff_ne.mpr c79
                                   have c79b1 : (t201 != 0) = true := bne_iff_ne.mpr c79
                                   (first | rw [c79b0] | (simp only [i64_w, i32_w]; rw [c79b0]) | skip)
                                   as_aux_lemma =>
                                    have H' := Aside0.mk H
                                    clear H
                                    go_wp2
                                    go_meet
                                    case rel => exact ⟨_, (true), (xrf), H', ⟨by have := HJ12.out; have := HJ23.out; have := HJ26.out; have := HK4.out; have := HK5.out; have := HJ45.out; have := HJ57.out; first | omega | exact Nat.le_refl _⟩, ⟨by (with_reducible repeat (first | apply Kd.R_alloc | apply Kd.R_drewN | apply Kd.R_drew)); exact HO_9.out⟩, ⟨by (with_reducible repeat (first | apply Kd.R_alloc | apply Kd.R_drewN | apply Kd.R_drew)); exact HO_14.out⟩, ⟨by (with_reducible repeat (first | apply Kd.R_alloc | apply Kd.R_drewN | apply Kd.R_drew)); exact HO_17.out⟩, ⟨xK BK190⟩, ⟨xW HB⟩⟩
                                 case rest =>
                                  as_aux_lemma =>
                                  clear HC74; (try clear p1); (try clear q1); (try clear hx1); (try clear p2); (try clear p6); (try clear q15); (try clear q16); (try clear p18); (try clear q18); (try clear hx18); (try clear p19); (try clear q19); (try clear hx19); (try clear p64); (try clear hx180_0); (try clear hx189_0); (try clear hx189_1); (try clear hx189_2); (try clear hx195_0); (try clear hx196_0); (try clear hx198_0); (try clear hx199_0); (try clear p1); (try clear p18); (try clear p180); (try clear p189); (try clear p195); (try clear p196); (try clear p198); (try clear p199); (try clear p2); (try clear p6); (try clear p64); (try clear q1); (try clear q15); (try clear q16); (try clear q18); (try clear q180); (try clear q189); (try clear q195); (try clear q196); (try clear q198); (try clear q199)
                                  obtain ⟨kq, x207_73, rfl, HA, HJ73, HO_9, HO_14, HO_17, BK190, HB⟩ := hcut
                                  cases kq with
                                  | zero => exact absurd HA.out (by simp [gamehalllaw3_RatingMoves.j8])
                                  | succ kj73 =>
                                   have H := HA.out; clear HA
                                   simp only [gamehalllaw3_RatingMoves.j8] at H
                                   by_cases c80 : x207_73 = true
                                   ·subst c80
                                    rw [if_pos rfl] at H
                                    as_aux_lemma =>
                                     obtain rfl := Option.some.inj H
                                     go_wp2
                                     go_ret
                                     exact ⟨by first | rfl | (simp [errW_none, errW_some] <;> rfl) | (simp only [← hji7, ← hji10]; first | rfl | (simp [errW_none, errW_some] <;> rfl)) | (simp [*, errW_none, errW_some] <;> rfl), xW HB⟩
                                   ·replace c80 := Bool.eq_false_iff.mpr c80
                                    subst c80
                                    rw [if_neg (show ¬ (false = true) by decide)] at H
                                    have HC81 := Aside0.mk H; clear H
                                    go_upto_block 4 with (fail)
                                    go_cut [19] (fun vs19 wc => ∃ (kq : Nat) (x19_80 : Int), vs19 = .int .i64 x19_80 ∧ Aside0 (gamehalllaw3_RatingMoves.j10 kq y166 a2 t176 t177 x11_57 x14_5 t191 t194 x19_80 y170 (y170.length : Int) x98_5 ((rd_T41 y170 x98_5).f0) ((rd_T41 y170 x98_5).f1) ((rd_T41 y170 x98_5).f2) = some r) ∧ Aside0 (kq ≤ kj73) ∧ Aside0 (Kd.R (Kd.int .i64) 3 wc w.heap.size (fun k_ => some k_ ≠ ((.slice (some ad195) x14_5.length co49) : Value).ownBlock ∧ some k_ ≠ (v192 : Value).ownBlock) v178 t176) ∧ Aside0 (Kd.R (Kd.int .i64) 3 wc w.heap.size (fun k_ => some k_ ≠ (v178 : Value).ownBlock ∧ some k_ ≠ (v192 : Value).ownBlock) (.slice (some ad195) x14_5.length co49) x14_5) ∧ Aside0 (Kd.R (Kd.int .i64) 3 wc w.heap.size (fun k_ => some k_ ≠ (v178 : Value).ownBlock ∧ some k_ ≠ ((.slice (some ad195) x14_5.length co49) : Value).ownBlock) v192 t191) ∧ Aside0 (wc.heap[gb190]? = some (.cells #[.int .i64 ((rd_T41 y170 x98_5).f0), .int .i64 ((rd_T41 y170 x98_5).f1), .int .i64 ((rd_T41 y170 x98_5).f2)] 41 (0, 0))) ∧ Aside0 (Below w.heap.size w wc))
                                    case first =>
                                     as_aux_lemma =>
                                     have H := HC81.out; clear HC81
                                     have H' := Aside0.mk H
                                     clear H
                                     go_wp2
                                     go_loopg [19] kj73 (fun kq vs19 w' => ∃ (x19_9 : Int), vs19 = .int .i64 x19_9 ∧ Aside0 (gamehalllaw3_RatingMoves.l2 kq y166 a2 t176 t177 x11_57 x14_5 t191 t194 x19_9 y170 (y170.length : Int) x98_5 ((rd_T41 y170 x98_5).f0) ((rd_T41 y170 x98_5).f1) ((rd_T41 y170 x98_5).f2) = some r) ∧ Aside0 (kq ≤ kj73) ∧ Aside0 (Kd.R (Kd.int .i64) 3 w' w.heap.size (fun k_ => some k_ ≠ ((.slice (some ad195) x14_5.length co49) : Value).ownBlock ∧ some k_ ≠ (v192 : Value).ownBlock) v178 t176) ∧ Aside0 (Kd.R (Kd.int .i64) 3 w' w.heap.size (fun k_ => some k_ ≠ (v178 : Value).ownBlock ∧ some k_ ≠ (v192 : Value).ownBlock) (.slice (some ad195) x14_5.length co49) x14_5) ∧ Aside0 (Kd.R (Kd.int .i64) 3 w' w.heap.size (fun k_ => some k_ ≠ (v178 : Value).ownBlock ∧ some k_ ≠ ((.slice (some ad195) x14_5.length co49) : Value).ownBlock) v192 t191) ∧ Aside0 (w'.heap[gb190]? = some (.cells #[.int .i64 ((rd_T41 y170 x98_5).f0), .int .i64 ((rd_T41 y170 x98_5).f1), .int .i64 ((rd_T41 y170 x98_5).f2)] 41 (0, 0))) ∧ Aside0 (Below w.heap.size w w'))
                                     case atStart => exact ⟨((wrap64 (a2 * (wrap64 ((wrap64 (50 * ((rd_T41 y170 x98_5).f2))) - t197))))), (xrf), H', ⟨Nat.le_refl _⟩, ⟨by (with_reducible repeat (first | apply Kd.R_alloc | apply Kd.R_drewN | apply Kd.R_drew)); exact HO_9.out⟩, ⟨by (with_reducible repeat (first | apply Kd.R_alloc | apply Kd.R_drewN | apply Kd.R_drew)); exact HO_14.out⟩, ⟨by (with_reducible repeat (first | apply Kd.R_alloc | apply Kd.R_drewN | apply Kd.R_drew)); exact HO_17.out⟩, ⟨xK BK190⟩, ⟨xW HB⟩⟩
                                     case round =>
                                      clear H'; (try clear p1); (try clear q1); (try clear hx1); (try clear p2); (try clear p6); (try clear q15); (try clear q16); (try clear p18); (try clear q18); (try clear hx18); (try clear p19); (try clear q19); (try clear hx19); (try clear p64); (try clear hx180_0); (try clear hx189_0); (try clear hx189_1); (try clear hx189_2); (try clear hx195_0); (try clear hx196_0); (try clear hx198_0); (try clear hx199_0); (try clear p1); (try clear p18); (try clear p180); (try clear p189); (try clear p19); (try clear p195); (try clear p196); (try clear p198); (try clear p199); (try clear p2); (try clear p6); (try clear p64); (try clear q1); (try clear q15); (try clear q16); (try clear q18); (try clear q180); (try clear q189); (try clear q19); (try clear q195); (try clear q196); (try clear q198); (try clear q199)
                                      obtain ⟨x19_9, rfl, HA, HK9, HO_9, HO_14, HO_17, BK190, HB⟩ := hrel
                                      cases gk with
                                      | zero => exact absurd HA.out (by simp [gamehalllaw3_RatingMoves.l2])
                                      | succ k9 =>
                                       have H := HA.out; clear HA
                                       simp only [gamehalllaw3_RatingMoves.l2] at H
                                       by_cases c82 : x19_9 > 0
                                       ·as_aux_lemma =>
                                        rw [if_pos c82] at H
                                        have c82b0 : decide (0 < x19_9) = true := decide_eq_true c82
                                        clear c82
                                        (first | rw [c82b0] | (simp only [i64_w, i32_w]; rw [c82b0]) | skip)
                                        by_cases c83 : 0 ≤ ((rd_T41 y170 x98_5).f0)
                                        ·as_aux_lemma =>
                                         rw [if_pos c83] at H
                                         have c83b0 : decide (0 ≤ ((rd_T41 y170 x98_5).f0)) = true := decide_eq_true c83
                                         clear c83
                                         by_cases c84 : ((rd_T41 y170 x98_5).f0) < (x14_5.length : Int)
                                         ·as_aux_lemma =>
                                          rw [if_pos c84] at H
                                          have c84b0 : decide (((rd_T41 y170 x98_5).f0) < (x14_5.length : Int)) = true := decide_eq_true c84
                                          clear c84
                                          by_cases c85 : (wrap64 ((rd x14_5 ((rd_T41 y170 x98_5).f0)) + x19_9)) > 1000000
                                          ·as_aux_lemma =>
                                           rw [if_pos c85] at H
                                           have c85b0 : decide (1000000 < (wrap64 ((rd x14_5 ((rd_T41 y170 x98_5).f0)) + x19_9))) = true := decide_eq_true c85
                                           clear c85
                                           as_aux_lemma =>
                                            have H' := Aside0.mk H
                                            clear H; have hcz86_0 := blkc3 BK190.out
                                            have p202 : 0 ≤ (((rd_T41 y170 x98_5).f0) : Int) := of_decide_eq_true (by first | (with_reducible assumption) | assumption)
                                            have q202 : ((rd_T41 y170 x98_5).f0) < (x14_5.length : Int) := of_decide_eq_true (by first | (with_reducible assumption) | assumption)
                                            obtain ⟨ad202, e202, hx202_0⟩ := Kd.at_int (Kd.R_reads' HO_14.out).2.2 ((rd_T41 y170 x98_5).f0) p202 q202
                                            obtain rfl : ad195 = ad202 := (by injection e202)
                                            replace p202 := eq_true p202; replace q202 := eq_true q202
                                            go_wp2
                                            go_roundg k9
                                            case measure => have := HJ12.out; have := HJ23.out; have := HJ26.out; have := HK4.out; have := HK5.out; have := HJ45.out; have := HJ57.out; have := HJ73.out; have := HK9.out; omega
                                            case rel => exact ⟨(wrap64 (x19_9 - 1)), (xrf), H', ⟨by have := HJ12.out; have := HJ23.out; have := HJ26.out; have := HK4.out; have := HK5.out; have := HJ45.out; have := HJ57.out; have := HJ73.out; have := HK9.out; omega⟩, ⟨by (with_reducible repeat (first | apply Kd.R_alloc | apply Kd.R_drewN | apply Kd.R_drew)); exact HO_9.out⟩, ⟨by (with_reducible repeat (first | apply Kd.R_alloc | apply Kd.R_drewN | apply Kd.R_drew)); exact HO_14.out⟩, ⟨by (with_reducible repeat (first | apply Kd.R_alloc | apply Kd.R_drewN | apply Kd.R_drew)); exact HO_17.out⟩, ⟨xK BK190⟩, ⟨xW HB⟩⟩
                                          ·as_aux_lemma =>
                                           rw [if_neg c85] at H
                                           have c85b0 : decide (1000000 < (wrap64 ((rd x14_5 ((rd_T41 y170 x98_5).f0)) + x19_9))) = false := decide_eq_false c85
                                           clear c85
                                           by_cases c87 : 0 ≤ ((rd_T41 y170 x98_5).f1)
                                           ·as_aux_lemma =>
                                            rw [if_pos c87] at H
                                            have c87b0 : decide (0 ≤ ((rd_T41 y170 x98_5).f1)) = true := decide_eq_true c87
                                            clear c87
                                            by_cases c88 : ((rd_T41 y170 x98_5).f1) < (x14_5.length : Int)
                                            ·as_aux_lemma =>
                                             rw [if_pos c88] at H
                                             have c88b0 : decide (((rd_T41 y170 x98_5).f1) < (x14_5.length : Int)) = true := decide_eq_true c88
                                             clear c88
                                             by_cases c89 : (wrap64 ((rd x14_5 ((rd_T41 y170 x98_5).f1)) - x19_9)) < (-1000000)
                                             ·as_aux_lemma =>
                                              rw [if_pos c89] at H
                                              have c89b0 : decide ((wrap64 ((rd x14_5 ((rd_T41 y170 x98_5).f1)) - x19_9)) < (-1000000)) = true := decide_eq_true c89
                                              clear c89
                                              as_aux_lemma =>
                                               have H' := Aside0.mk H
                                               clear H; have hcz90_0 := blkc3 BK190.out
                                               have p202 : 0 ≤ (((rd_T41 y170 x98_5).f0) : Int) := of_decide_eq_true (by first | (with_reducible assumption) | assumption)
                                               have q202 : ((rd_T41 y170 x98_5).f0) < (x14_5.length : Int) := of_decide_eq_true (by first | (with_reducible assumption) | assumption)
                                               obtain ⟨ad202, e202, hx202_0⟩ := Kd.at_int (Kd.R_reads' HO_14.out).2.2 ((rd_T41 y170 x98_5).f0) p202 q202
                                               obtain rfl : ad195 = ad202 := (by injection e202)
                                               replace p202 := eq_true p202; replace q202 := eq_true q202
                                               have p203 : 0 ≤ (((rd_T41 y170 x98_5).f1) : Int) := of_decide_eq_true (by first | (with_reducible assumption) | assumption)
                                               have q203 : ((rd_T41 y170 x98_5).f1) < (x14_5.length : Int) := of_decide_eq_true (by first | (with_reducible assumption) | assumption)
                                               obtain ⟨ad203, e203, hx203_0⟩ := Kd.at_int (Kd.R_reads' HO_14.out).2.2 ((rd_T41 y170 x98_5).f1) p203 q203
                                               obtain rfl : ad195 = ad203 := (by injection e203)
                                               replace p203 := eq_true p203; replace q203 := eq_true q203
                                               go_wp2
                                               go_roundg k9
                                               case measure => have := HJ12.out; have := HJ23.out; have := HJ26.out; have := HK4.out; have := HK5.out; have := HJ45.out; have := HJ57.out; have := HJ73.out; have := HK9.out; omega
                                               case rel => exact ⟨(wrap64 (x19_9 - 1)), (xrf), H', ⟨by have := HJ12.out; have := HJ23.out; have := HJ26.out; have := HK4.out; have := HK5.out; have := HJ45.out; have := HJ57.out; have := HJ73.out; have := HK9.out; omega⟩, ⟨by (with_reducible repeat (first | apply Kd.R_alloc | apply Kd.R_drewN | apply Kd.R_drew)); exact HO_9.out⟩, ⟨by (with_reducible repeat (first | apply Kd.R_alloc | apply Kd.R_drewN | apply Kd.R_drew)); exact HO_14.out⟩, ⟨by (with_reducible repeat (first | apply Kd.R_alloc | apply Kd.R_drewN | apply Kd.R_drew)); exact HO_17.out⟩, ⟨xK BK190⟩, ⟨xW HB⟩⟩
                                             ·as_aux_lemma =>
                                              rw [if_neg c89] at H
                                              have c89b0 : decide ((wrap64 ((rd x14_5 ((rd_T41 y170 x98_5).f1)) - x19_9)) < (-1000000)) = false := decide_eq_false c89
                                              clear c89
                                              as_aux_lemma =>
                                               have H' := Aside0.mk H
                                               clear H; have hcz91_0 := blkc3 BK190.out
                                               have p202 : 0 ≤ (((rd_T41 y170 x98_5).f0) : Int) := of_decide_eq_true (by first | (with_reducible assumption) | assumption)
                                               have q202 : ((rd_T41 y170 x98_5).f0) < (x14_5.length : Int) := of_decide_eq_true (by first | (with_reducible assumption) | assumption)
                                               obtain ⟨ad202, e202, hx202_0⟩ := Kd.at_int (Kd.R_reads' HO_14.out).2.2 ((rd_T41 y170 x98_5).f0) p202 q202
                                               obtain rfl : ad195 = ad202 := (by injection e202)
                                               replace p202 := eq_true p202; replace q202 := eq_true q202
                                               have p203 : 0 ≤ (((rd_T41 y170 x98_5).f1) : Int) := of_decide_eq_true (by first | (with_reducible assumption) | assumption)
                                               have q203 : ((rd_T41 y170 x98_5).f1) < (x14_5.length : Int) := of_decide_eq_true (by first | (with_reducible assumption) | assumption)
                                               obtain ⟨ad203, e203, hx203_0⟩ := Kd.at_int (Kd.R_reads' HO_14.out).2.2 ((rd_T41 y170 x98_5).f1) p203 q203
                                               obtain rfl : ad195 = ad203 := (by injection e203)
                                               replace p203 := eq_true p203; replace q203 := eq_true q203
                                               go_wp2
                                               go_meet
                                               case rel => exact ⟨_, (x19_9), (xrf), H', ⟨by have := HJ12.out; have := HJ23.out; have := HJ26.out; have := HK4.out; have := HK5.out; have := HJ45.out; have := HJ57.out; have := HJ73.out; have := HK9.out; first | omega | exact Nat.le_refl _⟩, ⟨by (with_reducible repeat (first | apply Kd.R_alloc | apply Kd.R_drewN | apply Kd.R_drew)); exact HO_9.out⟩, ⟨by (with_reducible repeat (first | apply Kd.R_alloc | apply Kd.R_drewN | apply Kd.R_drew)); exact HO_14.out⟩, ⟨by (with_reducible repeat (first | apply Kd.R_alloc | apply Kd.R_drewN | apply Kd.R_drew)); exact HO_17.out⟩, ⟨xK BK190⟩, ⟨xW HB⟩⟩
                                            ·rw [if_neg c88] at H
                                             exact absurd H (by simp)
                                           ·rw [if_neg c87] at H
                                            exact absurd H (by simp)
                                         ·rw [if_neg c84] at H
                                          exact absurd H (by simp)
                                        ·rw [if_neg c83] at H
                                         exact absurd H (by simp)
                                       ·rw [if_neg c82] at H
                                        have c82b0 : decide (0 < x19_9) = false := decide_eq_false c82
                                        clear c82
                                        (first | rw [c82b0] | (simp only [i64_w, i32_w]; rw [c82b0]) | skip)
                                        as_aux_lemma =>
                                         have H' := Aside0.mk H
                                         clear H
                                         go_wp2
                                         go_meet
                                         case rel => exact ⟨_, (x19_9), (xrf), H', ⟨by have := HJ12.out; have := HJ23.out; have := HJ26.out; have := HK4.out; have := HK5.out; have := HJ45.out; have := HJ57.out; have := HJ73.out; have := HK9.out; first | omega | exact Nat.le_refl _⟩, ⟨by (with_reducible repeat (first | apply Kd.R_alloc | apply Kd.R_drewN | apply Kd.R_drew)); exact HO_9.out⟩, ⟨by (with_reducible repeat (first | apply Kd.R_alloc | apply Kd.R_drewN | apply Kd.R_drew)); exact HO_14.out⟩, ⟨by (with_reducible repeat (first | apply Kd.R_alloc | apply Kd.R_drewN | apply Kd.R_drew)); exact HO_17.out⟩, ⟨xK BK190⟩, ⟨xW HB⟩⟩
                                    case rest =>
                                     as_aux_lemma =>
                                     clear HC81; (try clear p1); (try clear q1); (try clear hx1); (try clear p2); (try clear q2); (try clear hx2); (try clear p6); (try clear q15); (try clear q16); (try clear p18); (try clear q18); (try clear hx18); (try clear p19); (try clear q19); (try clear hx19); (try clear p20); (try clear q20); (try clear hx20); (try clear p64); (try clear hx180_0); (try clear hx189_0); (try clear hx189_1); (try clear hx189_2); (try clear hx195_0); (try clear hx196_0); (try clear hx198_0); (try clear hx199_0); (try clear hx202_0); (try clear hx203_0); (try clear p1); (try clear p18); (try clear p180); (try clear p189); (try clear p19); (try clear p195); (try clear p196); (try clear p198); (try clear p199); (try clear p2); (try clear p202); (try clear p203); (try clear p6); (try clear p64); (try clear q1); (try clear q15); (try clear q16); (try clear q18); (try clear q180); (try clear q189); (try clear q19); (try clear q195); (try clear q196); (try clear q198); (try clear q199); (try clear q202); (try clear q203)
                                     obtain ⟨kq, x19_80, rfl, HA, HJ80, HO_9, HO_14, HO_17, BK190, HB⟩ := hcut
                                     cases kq with
                                     | zero => exact absurd HA.out (by simp [gamehalllaw3_RatingMoves.j10])
                                     | succ kj80 =>
                                      have H := HA.out; clear HA
                                      simp only [gamehalllaw3_RatingMoves.j10] at H
                                      have H' := Aside0.mk H
                                      clear H
                                      go_wp2
                                      go_loopg [19] kj80 (fun kq vs19 w' => ∃ (x19_10 : Int), vs19 = .int .i64 x19_10 ∧ Aside0 (gamehalllaw3_RatingMoves.l3 kq y166 a2 t176 t177 x11_57 x14_5 t191 t194 x19_10 y170 (y170.length : Int) x98_5 ((rd_T41 y170 x98_5).f0) ((rd_T41 y170 x98_5).f1) ((rd_T41 y170 x98_5).f2) = some r) ∧ Aside0 (kq ≤ kj80) ∧ Aside0 (Kd.R (Kd.int .i64) 3 w' w.heap.size (fun k_ => some k_ ≠ ((.slice (some ad195) x14_5.length co49) : Value).ownBlock ∧ some k_ ≠ (v192 : Value).ownBlock) v178 t176) ∧ Aside0 (Kd.R (Kd.int .i64) 3 w' w.heap.size (fun k_ => some k_ ≠ (v178 : Value).ownBlock ∧ some k_ ≠ (v192 : Value).ownBlock) (.slice (some ad195) x14_5.length co49) x14_5) ∧ Aside0 (Kd.R (Kd.int .i64) 3 w' w.heap.size (fun k_ => some k_ ≠ (v178 : Value).ownBlock ∧ some k_ ≠ ((.slice (some ad195) x14_5.length co49) : Value).ownBlock) v192 t191) ∧ Aside0 (w'.heap[gb190]? = some (.cells #[.int .i64 ((rd_T41 y170 x98_5).f0), .int .i64 ((rd_T41 y170 x98_5).f1), .int .i64 ((rd_T41 y170 x98_5).f2)] 41 (0, 0))) ∧ Aside0 (Below w.heap.size w w'))
                                      case atStart => exact ⟨(x19_80), (xrf), H', ⟨Nat.le_refl _⟩, ⟨by (with_reducible repeat (first | apply Kd.R_alloc | apply Kd.R_drewN | apply Kd.R_drew)); exact HO_9.out⟩, ⟨by (with_reducible repeat (first | apply Kd.R_alloc | apply Kd.R_drewN | apply Kd.R_drew)); exact HO_14.out⟩, ⟨by (with_reducible repeat (first | apply Kd.R_alloc | apply Kd.R_drewN | apply Kd.R_drew)); exact HO_17.out⟩, ⟨xK BK190⟩, ⟨xW HB⟩⟩
                                      case round =>
                                       clear H'; (try clear p1); (try clear q1); (try clear hx1); (try clear p2); (try clear q2); (try clear hx2); (try clear p6); (try clear q15); (try clear q16); (try clear p18); (try clear q18); (try clear hx18); (try clear p19); (try clear q19); (try clear hx19); (try clear p20); (try clear q20); (try clear hx20); (try clear p64); (try clear hx180_0); (try clear hx189_0); (try clear hx189_1); (try clear hx189_2); (try clear hx195_0); (try clear hx196_0); (try clear hx198_0); (try clear hx199_0); (try clear hx202_0); (try clear hx203_0); (try clear p1); (try clear p18); (try clear p180); (try clear p189); (try clear p19); (try clear p195); (try clear p196); (try clear p198); (try clear p199); (try clear p2); (try clear p20); (try clear p202); (try clear p203); (try clear p6); (try clear p64); (try clear q1); (try clear q15); (try clear q16); (try clear q18); (try clear q180); (try clear q189); (try clear q19); (try clear q195); (try clear q196); (try clear q198); (try clear q199); (try clear q2); (try clear q20); (try clear q202); (try clear q203)
                                       obtain ⟨x19_10, rfl, HA, HK10, HO_9, HO_14, HO_17, BK190, HB⟩ := hrel
                                       cases gk with
                                       | zero => exact absurd HA.out (by simp [gamehalllaw3_RatingMoves.l3])
                                       | succ k10 =>
                                        have H := HA.out; clear HA
                                        simp only [gamehalllaw3_RatingMoves.l3] at H
                                        by_cases c92 : x19_10 < 0
                                        ·as_aux_lemma =>
                                         rw [if_pos c92] at H
                                         have c92b0 : decide (x19_10 < 0) = true := decide_eq_true c92
                                         clear c92
                                         by_cases c93 : 0 ≤ ((rd_T41 y170 x98_5).f0)
                                         ·as_aux_lemma =>
                                          rw [if_pos c93] at H
                                          have c93b0 : decide (0 ≤ ((rd_T41 y170 x98_5).f0)) = true := decide_eq_true c93
                                          clear c93
                                          by_cases c94 : ((rd_T41 y170 x98_5).f0) < (x14_5.length : Int)
                                          ·as_aux_lemma =>
                                           rw [if_pos c94] at H
                                           have c94b0 : decide (((rd_T41 y170 x98_5).f0) < (x14_5.length : Int)) = true := decide_eq_true c94
                                           clear c94
                                           by_cases c95 : (wrap64 ((rd x14_5 ((rd_T41 y170 x98_5).f0)) + x19_10)) < (-1000000)
                                           ·as_aux_lemma =>
                                            rw [if_pos c95] at H
                                            have c95b0 : decide ((wrap64 ((rd x14_5 ((rd_T41 y170 x98_5).f0)) + x19_10)) < (-1000000)) = true := decide_eq_true c95
                                            clear c95
                                            as_aux_lemma =>
                                             have H' := Aside0.mk H
                                             clear H; have hcz96_0 := blkc3 BK190.out
                                             have p204 : 0 ≤ (((rd_T41 y170 x98_5).f0) : Int) := of_decide_eq_true (by first | (with_reducible assumption) | assumption)
                                             have q204 : ((rd_T41 y170 x98_5).f0) < (x14_5.length : Int) := of_decide_eq_true (by first | (with_reducible assumption) | assumption)
                                             obtain ⟨ad204, e204, hx204_0⟩ := Kd.at_int (Kd.R_reads' HO_14.out).2.2 ((rd_T41 y170 x98_5).f0) p204 q204
                                             obtain rfl : ad195 = ad204 := (by injection e204)
                                             replace p204 := eq_true p204; replace q204 := eq_true q204
                                             go_wp2
                                             go_roundg k10
                                             case measure => have := HJ12.out; have := HJ23.out; have := HJ26.out; have := HK4.out; have := HK5.out; have := HJ45.out; have := HJ57.out; have := HJ73.out; have := HJ80.out; have := HK10.out; omega
                                             case rel => exact ⟨(wrap64 (x19_10 + 1)), (xrf), H', ⟨by have := HJ12.out; have := HJ23.out; have := HJ26.out; have := HK4.out; have := HK5.out; have := HJ45.out; have := HJ57.out; have := HJ73.out; have := HJ80.out; have := HK10.out; omega⟩, ⟨by (with_reducible repeat (first | apply Kd.R_alloc | apply Kd.R_drewN | apply Kd.R_drew)); exact HO_9.out⟩, ⟨by (with_reducible repeat (first | apply Kd.R_alloc | apply Kd.R_drewN | apply Kd.R_drew)); exact HO_14.out⟩, ⟨by (with_reducible repeat (first | apply Kd.R_alloc | apply Kd.R_drewN | apply Kd.R_drew)); exact HO_17.out⟩, ⟨xK BK190⟩, ⟨xW HB⟩⟩
                                           ·as_aux_lemma =>
                                            rw [if_neg c95] at H
                                            have c95b0 : decide ((wrap64 ((rd x14_5 ((rd_T41 y170 x98_5).f0)) + x19_10)) < (-1000000)) = false := decide_eq_false c95
                                            clear c95
                                            by_cases c97 : 0 ≤ ((rd_T41 y170 x98_5).f1)
                                            ·as_aux_lemma =>
                                             rw [if_pos c97] at H
                                             have c97b0 : decide (0 ≤ ((rd_T41 y170 x98_5).f1)) = true := decide_eq_true c97
                                             clear c97
                                             by_cases c98 : ((rd_T41 y170 x98_5).f1) < (x14_5.length : Int)
                                             ·as_aux_lemma =>
                                              rw [if_pos c98] at H
                                              have c98b0 : decide (((rd_T41 y170 x98_5).f1) < (x14_5.length : Int)) = true := decide_eq_true c98
                                              clear c98
                                              by_cases c99 : (wrap64 ((rd x14_5 ((rd_T41 y170 x98_5).f1)) - x19_10)) > 1000000
                                              ·as_aux_lemma =>
                                               rw [if_pos c99] at H
                                               have c99b0 : decide (1000000 < (wrap64 ((rd x14_5 ((rd_T41 y170 x98_5).f1)) - x19_10))) = true := decide_eq_true c99
                                               clear c99
                                               as_aux_lemma =>
                                                have H' := Aside0.mk H
                                                clear H; have hcz100_0 := blkc3 BK190.out
                                                have p204 : 0 ≤ (((rd_T41 y170 x98_5).f0) : Int) := of_decide_eq_true (by first | (with_reducible assumption) | assumption)
                                                have q204 : ((rd_T41 y170 x98_5).f0) < (x14_5.length : Int) := of_decide_eq_true (by first | (with_reducible assumption) | assumption)
                                                obtain ⟨ad204, e204, hx204_0⟩ := Kd.at_int (Kd.R_reads' HO_14.out).2.2 ((rd_T41 y170 x98_5).f0) p204 q204
                                                obtain rfl : ad195 = ad204 := (by injection e204)
                                                replace p204 := eq_true p204; replace q204 := eq_true q204
                                                have p205 : 0 ≤ (((rd_T41 y170 x98_5).f1) : Int) := of_decide_eq_true (by first | (with_reducible assumption) | assumption)
                                                have q205 : ((rd_T41 y170 x98_5).f1) < (x14_5.length : Int) := of_decide_eq_true (by first | (with_reducible assumption) | assumption)
                                                obtain ⟨ad205, e205, hx205_0⟩ := Kd.at_int (Kd.R_reads' HO_14.out).2.2 ((rd_T41 y170 x98_5).f1) p205 q205
                                                obtain rfl : ad195 = ad205 := (by injection e205)
                                                replace p205 := eq_true p205; replace q205 := eq_true q205
                                                go_wp2
                                                go_roundg k10
                                                case measure => have := HJ12.out; have := HJ23.out; have := HJ26.out; have := HK4.out; have := HK5.out; have := HJ45.out; have := HJ57.out; have := HJ73.out; have := HJ80.out; have := HK10.out; omega
                                                case rel => exact ⟨(wrap64 (x19_10 + 1)), (xrf), H', ⟨by have := HJ12.out; have := HJ23.out; have := HJ26.out; have := HK4.out; have := HK5.out; have := HJ45.out; have := HJ57.out; have := HJ73.out; have := HJ80.out; have := HK10.out; omega⟩, ⟨by (with_reducible repeat (first | apply Kd.R_alloc | apply Kd.R_drewN | apply Kd.R_drew)); exact HO_9.out⟩, ⟨by (with_reducible repeat (first | apply Kd.R_alloc | apply Kd.R_drewN | apply Kd.R_drew)); exact HO_14.out⟩, ⟨by (with_reducible repeat (first | apply Kd.R_alloc | apply Kd.R_drewN | apply Kd.R_drew)); exact HO_17.out⟩, ⟨xK BK190⟩, ⟨xW HB⟩⟩
                                              ·as_aux_lemma =>
                                               rw [if_neg c99] at H
                                               have c99b0 : decide (1000000 < (wrap64 ((rd x14_5 ((rd_T41 y170 x98_5).f1)) - x19_10))) = false := decide_eq_false c99
                                               clear c99
                                               obtain ⟨y207, hy207⟩ : ∃ y_ : List Int, y_ = (x14_5.set (((rd_T41 y170 x98_5).f0) : Int).toNat (wrap64 ((rd x14_5 ((rd_T41 y170 x98_5).f0)) + x19_10))) := ⟨_, rfl⟩
                                               replace H : ((some (y207.set (((rd_T41 y170 x98_5).f1) : Int).toNat (wrap64 ((rd y207 ((rd_T41 y170 x98_5).f1)) - x19_10)) : List Int)).bind fun y209 => (if t194 = 0 then ((gamehalllaw3_sameInts.f k10 t191 y209).bind fun t210 => (if t210 = true then (gamehalllaw3_RatingMoves.l1 k10 y166 a2 t176 t177 x11_57 y209 y170 (y170.length : Int) (wrap64 (x98_5 + 1))) else (some false))) else (some false))) = some r := by first | (rw [hy207]; with_reducible exact H) | (have H2_ := (Option.bind_some _ _).symm.trans H; rw [hy207]; with_reducible exact H2_) | (have H2_ := (Option.bind_some _ _).symm.trans H; with_reducible exact H2_) | with_reducible exact H | (rw [hy207]; exact H) | exact H
                                               have Ny207 := Aside0.mk hy207; clear hy207
                                               obtain ⟨y209, hy209⟩ : ∃ y_ : List Int, y_ = (y207.set (((rd_T41 y170 x98_5).f1) : Int).toNat (wrap64 ((rd y207 ((rd_T41 y170 x98_5).f1)) - x19_10))) := ⟨_, rfl⟩
                                               replace H : (if t194 = 0 then ((gamehalllaw3_sameInts.f k10 t191 y209).bind fun t210 => (if t210 = true then (gamehalllaw3_RatingMoves.l1 k10 y166 a2 t176 t177 x11_57 y209 y170 (y170.length : Int) (wrap64 (x98_5 + 1))) else (some false))) else (some false)) = some r := by first | (rw [hy209]; with_reducible exact H) | (have H2_ := (Option.bind_some _ _).symm.trans H; rw [hy209]; with_reducible exact H2_) | (have H2_ := (Option.bind_some _ _).symm.trans H; with_reducible exact H2_) | with_reducible exact H | (rw [hy209]; exact H) | exact H
                                               have Ny209 := Aside0.mk hy209; clear hy209
                                               by_cases c103 : t194 = 0
                                               ·as_aux_lemma =>
                                                rw [if_pos c103] at H
                                                have c103b0 : (t194 == 0) = true := beq_iff_eq.mpr c103
                                                have c103b1 : (t194 != 0) = false := bne_eq_false_iff_eq.mpr c103
                                                clear c103; replace H := Option.bind_eq_some_iff.mp H
                                                obtain ⟨t210, A1040, H⟩ := H
                                                try dsimp only at H
                                                have A104 := Aside0.mk A1040; clear A1040
                                                by_cases c105 : t210 = true
                                                ·subst c105
                                                 rw [if_pos rfl] at H
                                                 as_aux_lemma =>
                                                  have H' := Aside0.mk H
                                                  clear H; have hcz106_0 := blkc3 BK190.out
                                                  have p204 : 0 ≤ (((rd_T41 y170 x98_5).f0) : Int) := of_decide_eq_true (by first | (with_reducible assumption) | assumption)
                                                  have q204 : ((rd_T41 y170 x98_5).f0) < (x14_5.length : Int) := of_decide_eq_true (by first | (with_reducible assumption) | assumption)
                                                  obtain ⟨ad204, e204, hx204_0⟩ := Kd.at_int (Kd.R_reads' HO_14.out).2.2 ((rd_T41 y170 x98_5).f0) p204 q204
                                                  obtain rfl : ad195 = ad204 := (by injection e204)
                                                  replace p204 := eq_true p204; replace q204 := eq_true q204
                                                  have p205 : 0 ≤ (((rd_T41 y170 x98_5).f1) : Int) := of_decide_eq_true (by first | (with_reducible assumption) | assumption)
                                                  have q205 : ((rd_T41 y170 x98_5).f1) < (x14_5.length : Int) := of_decide_eq_true (by first | (with_reducible assumption) | assumption)
                                                  obtain ⟨ad205, e205, hx205_0⟩ := Kd.at_int (Kd.R_reads' HO_14.out).2.2 ((rd_T41 y170 x98_5).f1) p205 q205
                                                  obtain rfl : ad195 = ad205 := (by injection e205)
                                                  replace p205 := eq_true p205; replace q205 := eq_true q205
                                                  have p206 : 0 ≤ (((rd_T41 y170 x98_5).f0) : Int) := of_decide_eq_true (by first | (with_reducible assumption) | assumption)
                                                  have q206 : ((rd_T41 y170 x98_5).f0) < (x14_5.length : Int) := of_decide_eq_true (by first | (with_reducible assumption) | assumption)
                                                  obtain ⟨ad206, e206, hx206_0⟩ := Kd.at_int (Kd.R_reads' HO_14.out).2.2 ((rd_T41 y170 x98_5).f0) p206 q206
                                                  obtain rfl : ad195 = ad206 := (by injection e206)
                                                  replace p206 := eq_true p206; replace q206 := eq_true q206
                                                  have p101 : 0 ≤ (((rd_T41 y170 x98_5).f0) : Int) := of_decide_eq_true (by first | (with_reducible assumption) | assumption)
                                                  have q101 : (((rd_T41 y170 x98_5).f0) : Int) < ((x14_5.length : Int) : Int) := of_decide_eq_true (by first | (with_reducible assumption) | assumption)
                                                  obtain ⟨go101, co101, eo101, gb101, gl101, cl101, HG101⟩ := Kd.R_form HO_14.out (by omega)
                                                  (first | cases eo101 | (injection eo101 with ea_ en_ ec_; (first | subst ea_ | (injection ea_ with ea_; subst ea_)); subst ec_; clear en_))
                                                  have GB101 := Aside0.mk gb101; have GG101 := Aside0.mk HG101; clear gb101 gl101 HG101
                                                  (first | simp only [add_plain] at hx195_0 | skip)
                                                  (first | simp only [add_plain] at hx196_0 | skip)
                                                  (first | simp only [add_plain] at hx198_0 | skip)
                                                  (first | simp only [add_plain] at hx199_0 | skip)
                                                  (first | simp only [add_plain] at hx202_0 | skip)
                                                  (first | simp only [add_plain] at hx203_0 | skip)
                                                  (first | simp only [add_plain] at hx204_0 | skip)
                                                  (first | simp only [add_plain] at hx205_0 | skip)
                                                  (first | simp only [add_plain] at hx206_0 | skip)
                                                  obtain ⟨hx101_0, hf101_0⟩ := Kd.R_celln 0 HO_14.out (((rd_T41 y170 x98_5).f0) : Int) p101 q101
                                                  replace p101 := eq_true p101; replace q101 := eq_true q101; have HP107 := Kd.R_putg HO_14.out (((rd_T41 y170 x98_5).f0) : Int) (wrap64 ((rd x14_5 ((rd_T41 y170 x98_5).f0)) + x19_10))
                                                  go_wp2_with (first | ((with_reducible refine gate_store (t := 3) (p := 263) rfl ?_); refine store_event (t := 3) (p := 263) (v := ?vo_w108) (w1 := (wr.setCell ⟨go101, (((rd_T41 y170 x98_5).f0) : Int).toNat, none⟩ (.int .i64 (wrap64 ((rd x14_5 ((rd_T41 y170 x98_5).f0)) + x19_10))))) ?hg ?ho ?hn ?hr ?_; (case ho => rfl); (case hg => rfl); (case hn => rfl); (case hr => first | (go_simp; done) | (go_simp; rfl)); intro w108 hw; have hg : wr.grownBy w108 (some go101) := (by rw [hw]; exact HP107.2); have hp_ : Kd.R (Kd.int .i64) 3 w108 w.heap.size (fun k_ => some k_ ≠ (v178 : Value).ownBlock ∧ some k_ ≠ (v192 : Value).ownBlock) (.slice (some ⟨go101, 0, none⟩) x14_5.length co49) y207 := (by rw [hw, Ny207.out]; exact HP107.1); clear HP107; replace HO_9 := Aside0.mk (Kd.R_after (v := (.slice (some ⟨go101, 0, none⟩) x14_5.length co49)) (v1 := (.slice (some ⟨go101, 0, none⟩) x14_5.length co49)) (ok := (fun k_ => some k_ ≠ (v192 : Value).ownBlock)) (by (with_reducible repeat (first | apply Kd.R_alloc | apply Kd.R_drewN | apply Kd.R_drew)); exact Kd.R_mono HO_9.out (fun _ hk => ⟨hk.2, hk.1⟩)) hg (.inl rfl)); replace HO_17 := Aside0.mk (Kd.R_after (v := (.slice (some ⟨go101, 0, none⟩) x14_5.length co49)) (v1 := (.slice (some ⟨go101, 0, none⟩) x14_5.length co49)) (ok := (fun k_ => some k_ ≠ (v178 : Value).ownBlock)) (by (with_reducible repeat (first | apply Kd.R_alloc | apply Kd.R_drewN | apply Kd.R_drew)); exact HO_17.out) hg (.inl rfl)); replace BK190 := Aside0.mk (blk_grown (g := gb190) (o := .cells #[.int .i64 ((rd_T41 y170 x98_5).f0), .int .i64 ((rd_T41 y170 x98_5).f1), .int .i64 ((rd_T41 y170 x98_5).f2)] 41 (0, 0)) (xK BK190) hg (Kd.R_ne HO_14.out BK190.out (by decide))); replace HO_14 := Aside0.mk (hp_); replace HB := Aside0.mk ((by rw [hw]; exact below_set (HB.out) GB101.out : Below w.heap.size w w108)); clear hg hw hp_; have hcz109_0 := blkc3 BK190.out; have p208 : 0 ≤ (((rd_T41 y170 x98_5).f1) : Int) := of_decide_eq_true (by first | (with_reducible assumption) | assumption); have q208 : ((rd_T41 y170 x98_5).f1) < (y207.length : Int) := (by have h_ : (((rd_T41 y170 x98_5).f1) : Int) < ((x14_5.length : Int) : Int) := of_decide_eq_true (by first | (with_reducible assumption) | assumption); first | (have e_ := (Kd.R_reads' HO_14.out).1; omega) | simpa only [Ny207.out, List.length_set] using h_); have ql208 : ((((rd_T41 y170 x98_5).f1) : Int) < ((x14_5.length : Int) : Int)) = True := eq_true (of_decide_eq_true (by first | (with_reducible assumption) | assumption)); obtain ⟨ad208, e208, hx208_0⟩ := Kd.at_int (Kd.R_reads' HO_14.out).2.2 ((rd_T41 y170 x98_5).f1) p208 q208; obtain rfl : (⟨go101, 0, none⟩ : Addr) = ad208 := (by injection e208); (first | simp only [add_plain] at hx208_0 | simp only [add_at] at hx208_0 | simp only [Addr.add, Nat.zero_add] at hx208_0 | skip); replace p208 := eq_true p208; replace q208 := eq_true q208; have p102 : 0 ≤ (((rd_T41 y170 x98_5).f1) : Int) := of_decide_eq_true (by first | (with_reducible assumption) | assumption); have q102 : (((rd_T41 y170 x98_5).f1) : Int) < ((x14_5.length : Int) : Int) := of_decide_eq_true (by first | (with_reducible assumption) | assumption); obtain ⟨hx102_0, hf102_0⟩ := Kd.R_celln 0 HO_14.out (((rd_T41 y170 x98_5).f1) : Int) p102 q102; replace p102 := eq_true p102; replace q102 := eq_true q102; obtain ⟨hy110_, hz110_⟩ := Kd.R_celln 0 HO_14.out (((rd_T41 y170 x98_5).f1) : Int) (of_decide_eq_true (by first | (with_reducible assumption) | assumption)) (of_decide_eq_true (by first | (with_reducible assumption) | assumption)); have HP110 := Kd.R_putg HO_14.out (((rd_T41 y170 x98_5).f1) : Int) (wrap64 ((rd y207 ((rd_T41 y170 x98_5).f1)) - x19_10))) | ((with_reducible refine gate_store (t := 3) (p := 271) rfl ?_); refine store_event (t := 3) (p := 271) (v := ?vo_w111) (w1 := (w108.setCell ⟨go101, (((rd_T41 y170 x98_5).f1) : Int).toNat, none⟩ (.int .i64 (wrap64 ((rd y207 ((rd_T41 y170 x98_5).f1)) - x19_10))))) ?hg ?ho ?hn ?hr ?_; (case ho => rfl); (case hg => rfl); (case hn => rfl); (case hr => first | (go_simp; done) | (go_simp; rfl)); intro w111 hw; have hg : w108.grownBy w111 (some go101) := (by rw [hw]; exact HP110.2); have hp_ : Kd.R (Kd.int .i64) 3 w111 w.heap.size (fun k_ => some k_ ≠ (v178 : Value).ownBlock ∧ some k_ ≠ (v192 : Value).ownBlock) (.slice (some ⟨go101, 0, none⟩) x14_5.length co49) y209 := (by rw [hw, Ny209.out]; exact HP110.1); clear HP110; replace HO_9 := Aside0.mk (Kd.R_after (v := (.slice (some ⟨go101, 0, none⟩) x14_5.length co49)) (v1 := (.slice (some ⟨go101, 0, none⟩) x14_5.length co49)) (ok := (fun k_ => some k_ ≠ (v192 : Value).ownBlock)) (by (with_reducible repeat (first | apply Kd.R_alloc | apply Kd.R_drewN | apply Kd.R_drew)); exact HO_9.out) hg (.inl rfl)); replace HO_17 := Aside0.mk (Kd.R_after (v := (.slice (some ⟨go101, 0, none⟩) x14_5.length co49)) (v1 := (.slice (some ⟨go101, 0, none⟩) x14_5.length co49)) (ok := (fun k_ => some k_ ≠ (v178 : Value).ownBlock)) (by (with_reducible repeat (first | apply Kd.R_alloc | apply Kd.R_drewN | apply Kd.R_drew)); exact HO_17.out) hg (.inl rfl)); replace BK190 := Aside0.mk (blk_grown (g := gb190) (o := .cells #[.int .i64 ((rd_T41 y170 x98_5).f0), .int .i64 ((rd_T41 y170 x98_5).f1), .int .i64 ((rd_T41 y170 x98_5).f2)] 41 (0, 0)) (xK BK190) hg (Kd.R_ne HO_14.out BK190.out (by decide))); replace HO_14 := Aside0.mk (hp_); replace HB := Aside0.mk ((by rw [hw]; exact below_set (HB.out) GB101.out : Below w.heap.size w w111)); clear hg hw hp_; obtain ⟨Ao112, co112, eo112⟩ := Kd.R_slice HO_17.out; subst eo112) | (go_at_call 19; refine calls_of_args (args' := #[.slice Ao112 t191.length co112, .slice (some ⟨go101, 0, none⟩) y209.length co49]) (by first | (rw [show y209.length = x14_5.length from (Kd.R_reads' HO_14.out).1.symm] <;> rfl) | rfl) ?_; (with_reducible refine (gamehalllaw3_sameInts.calls k10 _ _ t191 _ _ y209 true _ ?side1 ?side2 ?side3 ?side4 A104.out).mono ?_); (case side1 => repeat (first | exact (Kd.R_reads' HO_17.out).2.2 | (with_reducible refine Kd.C_alloc ?_ _) | (with_reducible refine Kd.C_drewN ?_ _) | (with_reducible refine Kd.C_drew ?_))); (case side2 => exact (Kd.R_reads' HO_17.out).2.1); (case side3 => repeat (first | exact (Kd.R_reads' HO_14.out).2.2 | (with_reducible refine Kd.C_alloc ?_ _) | (with_reducible refine Kd.C_drewN ?_ _) | (with_reducible refine Kd.C_drew ?_))); (case side4 => rw [show y209.length = x14_5.length from (Kd.R_reads' HO_14.out).1.symm]; exact (Kd.R_reads' HO_14.out).2.1); rintro e w' ⟨rfl, ⟨nd, rfl⟩⟩))
                                                  go_roundg k10
                                                  case measure => have := HJ12.out; have := HJ23.out; have := HJ26.out; have := HK4.out; have := HK5.out; have := HJ45.out; have := HJ57.out; have := HJ73.out; have := HJ80.out; have := HK10.out; omega
                                                  case rel => exact ⟨(x11_57), (y209), (wrap64 (x98_5 + 1)), (xrf), (xrf), H', ⟨by have := HJ12.out; have := HJ23.out; have := HJ26.out; have := HK4.out; have := HK5.out; have := HJ45.out; have := HJ57.out; have := HJ73.out; have := HJ80.out; have := HK10.out; omega⟩, ⟨by (with_reducible repeat (first | apply Kd.R_alloc | apply Kd.R_drewN | apply Kd.R_drew)); exact Kd.R_mono HO_9.out (fun _ hk => hk.2)⟩, ⟨by (with_reducible repeat (first | apply Kd.R_alloc | apply Kd.R_drewN | apply Kd.R_drew)); exact Kd.R_mono HO_14.out (fun _ hk => hk.1)⟩, ⟨xW HB⟩⟩
                                                ·replace c105 := Bool.eq_false_iff.mpr c105
                                                 subst c105
                                                 rw [if_neg (show ¬ (false = true) by decide)] at H
                                                 as_aux_lemma =>
                                                  obtain rfl := Option.some.inj H
                                                  have hcz113_0 := blkc3 BK190.out
                                                  have p204 : 0 ≤ (((rd_T41 y170 x98_5).f0) : Int) := of_decide_eq_true (by first | (with_reducible assumption) | assumption)
                                                  have q204 : ((rd_T41 y170 x98_5).f0) < (x14_5.length : Int) := of_decide_eq_true (by first | (with_reducible assumption) | assumption)
                                                  obtain ⟨ad204, e204, hx204_0⟩ := Kd.at_int (Kd.R_reads' HO_14.out).2.2 ((rd_T41 y170 x98_5).f0) p204 q204
                                                  obtain rfl : ad195 = ad204 := (by injection e204)
                                                  replace p204 := eq_true p204; replace q204 := eq_true q204
                                                  have p205 : 0 ≤ (((rd_T41 y170 x98_5).f1) : Int) := of_decide_eq_true (by first | (with_reducible assumption) | assumption)
                                                  have q205 : ((rd_T41 y170 x98_5).f1) < (x14_5.length : Int) := of_decide_eq_true (by first | (with_reducible assumption) | assumption)
                                                  obtain ⟨ad205, e205, hx205_0⟩ := Kd.at_int (Kd.R_reads' HO_14.out).2.2 ((rd_T41 y170 x98_5).f1) p205 q205
                                                  obtain rfl : ad195 = ad205 := (by injection e205)
                                                  replace p205 := eq_true p205; replace q205 := eq_true q205
                                                  have p206 : 0 ≤ (((rd_T41 y170 x98_5).f0) : Int) := of_decide_eq_true (by first | (with_reducible assumption) | assumption)
                                                  have q206 : ((rd_T41 y170 x98_5).f0) < (x14_5.length : Int) := of_decide_eq_true (by first | (with_reducible assumption) | assumption)
                                                  obtain ⟨ad206, e206, hx206_0⟩ := Kd.at_int (Kd.R_reads' HO_14.out).2.2 ((rd_T41 y170 x98_5).f0) p206 q206
                                                  obtain rfl : ad195 = ad206 := (by injection e206)
                                                  replace p206 := eq_true p206; replace q206 := eq_true q206
                                                  have p101 : 0 ≤ (((rd_T41 y170 x98_5).f0) : Int) := of_decide_eq_true (by first | (with_reducible assumption) | assumption)
                                                  have q101 : (((rd_T41 y170 x98_5).f0) : Int) < ((x14_5.length : Int) : Int) := of_decide_eq_true (by first | (with_reducible assumption) | assumption)
                                                  obtain ⟨go101, co101, eo101, gb101, gl101, cl101, HG101⟩ := Kd.R_form HO_14.out (by omega)
                                                  (first | cases eo101 | (injection eo101 with ea_ en_ ec_; (first | subst ea_ | (injection ea_ with ea_; subst ea_)); subst ec_; clear en_))
                                                  have GB101 := Aside0.mk gb101; have GG101 := Aside0.mk HG101; clear gb101 gl101 HG101
                                                  (first | simp only [add_plain] at hx204_0 | skip)
                                                  (first | simp only [add_plain] at hx205_0 | skip)
                                                  (first | simp only [add_plain] at hx206_0 | skip)
                                                  obtain ⟨hx101_0, hf101_0⟩ := Kd.R_celln 0 HO_14.out (((rd_T41 y170 x98_5).f0) : Int) p101 q101
                                                  replace p101 := eq_true p101; replace q101 := eq_true q101; have HP114 := Kd.R_putg HO_14.out (((rd_T41 y170 x98_5).f0) : Int) (wrap64 ((rd x14_5 ((rd_T41 y170 x98_5).f0)) + x19_10))
                                                  go_wp2_with (first | ((with_reducible refine gate_store (t := 3) (p := 263) rfl ?_); refine store_event (t := 3) (p := 263) (v := ?vo_w115) (w1 := (wr.setCell ⟨go101, (((rd_T41 y170 x98_5).f0) : Int).toNat, none⟩ (.int .i64 (wrap64 ((rd x14_5 ((rd_T41 y170 x98_5).f0)) + x19_10))))) ?hg ?ho ?hn ?hr ?_; (case ho => rfl); (case hg => rfl); (case hn => rfl); (case hr => first | (go_simp; done) | (go_simp; rfl)); intro w115 hw; have hg : wr.grownBy w115 (some go101) := (by rw [hw]; exact HP114.2); have hp_ : Kd.R (Kd.int .i64) 3 w115 w.heap.size (fun k_ => some k_ ≠ (v178 : Value).ownBlock ∧ some k_ ≠ (v192 : Value).ownBlock) (.slice (some ⟨go101, 0, none⟩) x14_5.length co49) y207 := (by rw [hw, Ny207.out]; exact HP114.1); clear HP114; replace HO_9 := Aside0.mk (Kd.R_after (v := (.slice (some ⟨go101, 0, none⟩) x14_5.length co49)) (v1 := (.slice (some ⟨go101, 0, none⟩) x14_5.length co49)) (ok := (fun k_ => some k_ ≠ (v192 : Value).ownBlock)) (by (with_reducible repeat (first | apply Kd.R_alloc | apply Kd.R_drewN | apply Kd.R_drew)); exact Kd.R_mono HO_9.out (fun _ hk => ⟨hk.2, hk.1⟩)) hg (.inl rfl)); replace HO_17 := Aside0.mk (Kd.R_after (v := (.slice (some ⟨go101, 0, none⟩) x14_5.length co49)) (v1 := (.slice (some ⟨go101, 0, none⟩) x14_5.length co49)) (ok := (fun k_ => some k_ ≠ (v178 : Value).ownBlock)) (by (with_reducible repeat (first | apply Kd.R_alloc | apply Kd.R_drewN | apply Kd.R_drew)); exact HO_17.out) hg (.inl rfl)); replace BK190 := Aside0.mk (blk_grown (g := gb190) (o := .cells #[.int .i64 ((rd_T41 y170 x98_5).f0), .int .i64 ((rd_T41 y170 x98_5).f1), .int .i64 ((rd_T41 y170 x98_5).f2)] 41 (0, 0)) (xK BK190) hg (Kd.R_ne HO_14.out BK190.out (by decide))); replace HO_14 := Aside0.mk (hp_); replace HB := Aside0.mk ((by rw [hw]; exact below_set (HB.out) GB101.out : Below w.heap.size w w115)); clear hg hw hp_; have hcz116_0 := blkc3 BK190.out; have p208 : 0 ≤ (((rd_T41 y170 x98_5).f1) : Int) := of_decide_eq_true (by first | (with_reducible assumption) | assumption); have q208 : ((rd_T41 y170 x98_5).f1) < (y207.length : Int) := (by have h_ : (((rd_T41 y170 x98_5).f1) : Int) < ((x14_5.length : Int) : Int) := of_decide_eq_true (by first | (with_reducible assumption) | assumption); first | (have e_ := (Kd.R_reads' HO_14.out).1; omega) | simpa only [Ny207.out, List.length_set] using h_); have ql208 : ((((rd_T41 y170 x98_5).f1) : Int) < ((x14_5.length : Int) : Int)) = True := eq_true (of_decide_eq_true (by first | (with_reducible assumption) | assumption)); obtain ⟨ad208, e208, hx208_0⟩ := Kd.at_int (Kd.R_reads' HO_14.out).2.2 ((rd_T41 y170 x98_5).f1) p208 q208; obtain rfl : (⟨go101, 0, none⟩ : Addr) = ad208 := (by injection e208); (first | simp only [add_plain] at hx208_0 | simp only [add_at] at hx208_0 | simp only [Addr.add, Nat.zero_add] at hx208_0 | skip); replace p208 := eq_true p208; replace q208 := eq_true q208; have p102 : 0 ≤ (((rd_T41 y170 x98_5).f1) : Int) := of_decide_eq_true (by first | (with_reducible assumption) | assumption); have q102 : (((rd_T41 y170 x98_5).f1) : Int) < ((x14_5.length : Int) : Int) := of_decide_eq_true (by first | (with_reducible assumption) | assumption); obtain ⟨hx102_0, hf102_0⟩ := Kd.R_celln 0 HO_14.out (((rd_T41 y170 x98_5).f1) : Int) p102 q102; replace p102 := eq_true p102; replace q102 := eq_true q102; obtain ⟨hy117_, hz117_⟩ := Kd.R_celln 0 HO_14.out (((rd_T41 y170 x98_5).f1) : Int) (of_decide_eq_true (by first | (with_reducible assumption) | assumption)) (of_decide_eq_true (by first | (with_reducible assumption) | assumption)); have HP117 := Kd.R_putg HO_14.out (((rd_T41 y170 x98_5).f1) : Int) (wrap64 ((rd y207 ((rd_T41 y170 x98_5).f1)) - x19_10))) | ((with_reducible refine gate_store (t := 3) (p := 271) rfl ?_); refine store_event (t := 3) (p := 271) (v := ?vo_w118) (w1 := (w115.setCell ⟨go101, (((rd_T41 y170 x98_5).f1) : Int).toNat, none⟩ (.int .i64 (wrap64 ((rd y207 ((rd_T41 y170 x98_5).f1)) - x19_10))))) ?hg ?ho ?hn ?hr ?_; (case ho => rfl); (case hg => rfl); (case hn => rfl); (case hr => first | (go_simp; done) | (go_simp; rfl)); intro w118 hw; have hg : w115.grownBy w118 (some go101) := (by rw [hw]; exact HP117.2); have hp_ : Kd.R (Kd.int .i64) 3 w118 w.heap.size (fun k_ => some k_ ≠ (v178 : Value).ownBlock ∧ some k_ ≠ (v192 : Value).ownBlock) (.slice (some ⟨go101, 0, none⟩) x14_5.length co49) y209 := (by rw [hw, Ny209.out]; exact HP117.1); clear HP117; replace HO_9 := Aside0.mk (Kd.R_after (v := (.slice (some ⟨go101, 0, none⟩) x14_5.length co49)) (v1 := (.slice (some ⟨go101, 0, none⟩) x14_5.length co49)) (ok := (fun k_ => some k_ ≠ (v192 : Value).ownBlock)) (by (with_reducible repeat (first | apply Kd.R_alloc | apply Kd.R_drewN | apply Kd.R_drew)); exact HO_9.out) hg (.inl rfl)); replace HO_17 := Aside0.mk (Kd.R_after (v := (.slice (some ⟨go101, 0, none⟩) x14_5.length co49)) (v1 := (.slice (some ⟨go101, 0, none⟩) x14_5.length co49)) (ok := (fun k_ => some k_ ≠ (v178 : Value).ownBlock)) (by (with_reducible repeat (first | apply Kd.R_alloc | apply Kd.R_drewN | apply Kd.R_drew)); exact HO_17.out) hg (.inl rfl)); replace BK190 := Aside0.mk (blk_grown (g := gb190) (o := .cells #[.int .i64 ((rd_T41 y170 x98_5).f0), .int .i64 ((rd_T41 y170 x98_5).f1), .int .i64 ((rd_T41 y170 x98_5).f2)] 41 (0, 0)) (xK BK190) hg (Kd.R_ne HO_14.out BK190.out (by decide))); replace HO_14 := Aside0.mk (hp_); replace HB := Aside0.mk ((by rw [hw]; exact below_set (HB.out) GB101.out : Below w.heap.size w w118)); clear hg hw hp_; obtain ⟨Ao119, co119, eo119⟩ := Kd.R_slice HO_17.out; subst eo119) | (go_at_call 19; refine calls_of_args (args' := #[.slice Ao119 t191.length co119, .slice (some ⟨go101, 0, none⟩) y209.length co49]) (by first | (rw [show y209.length = x14_5.length from (Kd.R_reads' HO_14.out).1.symm] <;> rfl) | rfl) ?_; (with_reducible refine (gamehalllaw3_sameInts.calls k10 _ _ t191 _ _ y209 false _ ?side1 ?side2 ?side3 ?side4 A104.out).mono ?_); (case side1 => repeat (first | exact (Kd.R_reads' HO_17.out).2.2 | (with_reducible refine Kd.C_alloc ?_ _) | (with_reducible refine Kd.C_drewN ?_ _) | (with_reducible refine Kd.C_drew ?_))); (case side2 => exact (Kd.R_reads' HO_17.out).2.1); (case side3 => repeat (first | exact (Kd.R_reads' HO_14.out).2.2 | (with_reducible refine Kd.C_alloc ?_ _) | (with_reducible refine Kd.C_drewN ?_ _) | (with_reducible refine Kd.C_drew ?_))); (case side4 => rw [show y209.length = x14_5.length from (Kd.R_reads' HO_14.out).1.symm]; exact (Kd.R_reads' HO_14.out).2.1); rintro e w' ⟨rfl, ⟨nd, rfl⟩⟩))
                                                  go_ret
                                                  exact ⟨by first | rfl | (simp [errW_none, errW_some] <;> rfl) | (simp only [← hji7, ← hji10]; first | rfl | (simp [errW_none, errW_some] <;> rfl)) | (simp [*, errW_none, errW_some] <;> rfl), xW HB⟩
                                               ·as_aux_lemma =>
                                                rw [if_neg c103] at H
                                                have c103b0 : (t194 == 0) = false := beq_eq_false_iff_ne.mpr c103
                                                have c103b1 : (t194 != 0) = true := bne_iff_ne.mpr c103
                                                as_aux_lemma =>
                                                 obtain rfl := Option.some.inj H
                                                 have hcz120_0 := blkc3 BK190.out
                                                 have p204 : 0 ≤ (((rd_T41 y170 x98_5).f0) : Int) := of_decide_eq_true (by first | (with_reducible assumption) | assumption)
                                                 have q204 : ((rd_T41 y170 x98_5).f0) < (x14_5.length : Int) := of_decide_eq_true (by first | (with_reducible assumption) | assumption)
                                                 obtain ⟨ad204, e204, hx204_0⟩ := Kd.at_int (Kd.R_reads' HO_14.out).2.2 ((rd_T41 y170 x98_5).f0) p204 q204
                                                 obtain rfl : ad195 = ad204 := (by injection e204)
                                                 replace p204 := eq_true p204; replace q204 := eq_true q204
                                                 have p205 : 0 ≤ (((rd_T41 y170 x98_5).f1) : Int) := of_decide_eq_true (by first | (with_reducible assumption) | assumption)
                                                 have q205 : ((rd_T41 y170 x98_5).f1) < (x14_5.length : Int) := of_decide_eq_true (by first | (with_reducible assumption) | assumption)
                                                 obtain ⟨ad205, e205, hx205_0⟩ := Kd.at_int (Kd.R_reads' HO_14.out).2.2 ((rd_T41 y170 x98_5).f1) p205 q205
                                                 obtain rfl : ad195 = ad205 := (by injection e205)
                                                 replace p205 := eq_true p205; replace q205 := eq_true q205
                                                 have p206 : 0 ≤ (((rd_T41 y170 x98_5).f0) : Int) := of_decide_eq_true (by first | (with_reducible assumption) | assumption)
                                                 have q206 : ((rd_T41 y170 x98_5).f0) < (x14_5.length : Int) := of_decide_eq_true (by first | (with_reducible assumption) | assumption)
                                                 obtain ⟨ad206, e206, hx206_0⟩ := Kd.at_int (Kd.R_reads' HO_14.out).2.2 ((rd_T41 y170 x98_5).f0) p206 q206
                                                 obtain rfl : ad195 = ad206 := (by injection e206)
                                                 replace p206 := eq_true p206; replace q206 := eq_true q206
                                                 have p101 : 0 ≤ (((rd_T41 y170 x98_5).f0) : Int) := of_decide_eq_true (by first | (with_reducible assumption) | assumption)
                                                 have q101 : (((rd_T41 y170 x98_5).f0) : Int) < ((x14_5.length : Int) : Int) := of_decide_eq_true (by first | (with_reducible assumption) | assumption)
                                                 obtain ⟨go101, co101, eo101, gb101, gl101, cl101, HG101⟩ := Kd.R_form HO_14.out (by omega)
                                                 (first | cases eo101 | (injection eo101 with ea_ en_ ec_; (first | subst ea_ | (injection ea_ with ea_; subst ea_)); subst ec_; clear en_))
                                                 have GB101 := Aside0.mk gb101; have GG101 := Aside0.mk HG101; clear gb101 gl101 HG101
                                                 (first | simp only [add_plain] at hx204_0 | skip)
                                                 (first | simp only [add_plain] at hx205_0 | skip)
                                                 (first | simp only [add_plain] at hx206_0 | skip)
                                                 obtain ⟨hx101_0, hf101_0⟩ := Kd.R_celln 0 HO_14.out (((rd_T41 y170 x98_5).f0) : Int) p101 q101
                                                 replace p101 := eq_true p101; replace q101 := eq_true q101; have HP121 := Kd.R_putg HO_14.out (((rd_T41 y170 x98_5).f0) : Int) (wrap64 ((rd x14_5 ((rd_T41 y170 x98_5).f0)) + x19_10))
                                                 go_wp2_with (first | ((with_reducible refine gate_store (t := 3) (p := 263) rfl ?_); refine store_event (t := 3) (p := 263) (v := ?vo_w122) (w1 := (wr.setCell ⟨go101, (((rd_T41 y170 x98_5).f0) : Int).toNat, none⟩ (.int .i64 (wrap64 ((rd x14_5 ((rd_T41 y170 x98_5).f0)) + x19_10))))) ?hg ?ho ?hn ?hr ?_; (case ho => rfl); (case hg => rfl); (case hn => rfl); (case hr => first | (go_simp; done) | (go_simp; rfl)); intro w122 hw; have hg : wr.grownBy w122 (some go101) := (by rw [hw]; exact HP121.2); have hp_ : Kd.R (Kd.int .i64) 3 w122 w.heap.size (fun k_ => some k_ ≠ (v178 : Value).ownBlock ∧ some k_ ≠ (v192 : Value).ownBlock) (.slice (some ⟨go101, 0, none⟩) x14_5.length co49) y207 := (by rw [hw, Ny207.out]; exact HP121.1); clear HP121; replace HO_9 := Aside0.mk (Kd.R_after (v := (.slice (some ⟨go101, 0, none⟩) x14_5.length co49)) (v1 := (.slice (some ⟨go101, 0, none⟩) x14_5.length co49)) (ok := (fun k_ => some k_ ≠ (v192 : Value).ownBlock)) (by (with_reducible repeat (first | apply Kd.R_alloc | apply Kd.R_drewN | apply Kd.R_drew)); exact Kd.R_mono HO_9.out (fun _ hk => ⟨hk.2, hk.1⟩)) hg (.inl rfl)); replace HO_17 := Aside0.mk (Kd.R_after (v := (.slice (some ⟨go101, 0, none⟩) x14_5.length co49)) (v1 := (.slice (some ⟨go101, 0, none⟩) x14_5.length co49)) (ok := (fun k_ => some k_ ≠ (v178 : Value).ownBlock)) (by (with_reducible repeat (first | apply Kd.R_alloc | apply Kd.R_drewN | apply Kd.R_drew)); exact HO_17.out) hg (.inl rfl)); replace BK190 := Aside0.mk (blk_grown (g := gb190) (o := .cells #[.int .i64 ((rd_T41 y170 x98_5).f0), .int .i64 ((rd_T41 y170 x98_5).f1), .int .i64 ((rd_T41 y170 x98_5).f2)] 41 (0, 0)) (xK BK190) hg (Kd.R_ne HO_14.out BK190.out (by decide))); replace HO_14 := Aside0.mk (hp_); replace HB := Aside0.mk ((by rw [hw]; exact below_set (HB.out) GB101.out : Below w.heap.size w w122)); clear hg hw hp_; have hcz123_0 := blkc3 BK190.out; have p208 : 0 ≤ (((rd_T41 y170 x98_5).f1) : Int) := of_decide_eq_true (by first | (with_reducible assumption) | assumption); have q208 : ((rd_T41 y170 x98_5).f1) < (y207.length : Int) := (by have h_ : (((rd_T41 y170 x98_5).f1) : Int) < ((x14_5.length : Int) : Int) := of_decide_eq_true (by first | (with_reducible assumption) | assumption); first | (have e_ := (Kd.R_reads' HO_14.out).1; omega) | simpa only [Ny207.out, List.length_set] using h_); have ql208 : ((((rd_T41 y170 x98_5).f1) : Int) < ((x14_5.length : Int) : Int)) = True := eq_true (of_decide_eq_true (by first | (with_reducible assumption) | assumption)); obtain ⟨ad208, e208, hx208_0⟩ := Kd.at_int (Kd.R_reads' HO_14.out).2.2 ((rd_T41 y170 x98_5).f1) p208 q208; obtain rfl : (⟨go101, 0, none⟩ : Addr) = ad208 := (by injection e208); (first | simp only [add_plain] at hx208_0 | simp only [add_at] at hx208_0 | simp only [Addr.add, Nat.zero_add] at hx208_0 | skip); replace p208 := eq_true p208; replace q208 := eq_true q208; have p102 : 0 ≤ (((rd_T41 y170 x98_5).f1) : Int) := of_decide_eq_true (by first | (with_reducible assumption) | assumption); have q102 : (((rd_T41 y170 x98_5).f1) : Int) < ((x14_5.length : Int) : Int) := of_decide_eq_true (by first | (with_reducible assumption) | assumption); obtain ⟨hx102_0, hf102_0⟩ := Kd.R_celln 0 HO_14.out (((rd_T41 y170 x98_5).f1) : Int) p102 q102; replace p102 := eq_true p102; replace q102 := eq_true q102; obtain ⟨hy124_, hz124_⟩ := Kd.R_celln 0 HO_14.out (((rd_T41 y170 x98_5).f1) : Int) (of_decide_eq_true (by first | (with_reducible assumption) | assumption)) (of_decide_eq_true (by first | (with_reducible assumption) | assumption)); have HP124 := Kd.R_putg HO_14.out (((rd_T41 y170 x98_5).f1) : Int) (wrap64 ((rd y207 ((rd_T41 y170 x98_5).f1)) - x19_10))) | ((with_reducible refine gate_store (t := 3) (p := 271) rfl ?_); refine store_event (t := 3) (p := 271) (v := ?vo_w125) (w1 := (w122.setCell ⟨go101, (((rd_T41 y170 x98_5).f1) : Int).toNat, none⟩ (.int .i64 (wrap64 ((rd y207 ((rd_T41 y170 x98_5).f1)) - x19_10))))) ?hg ?ho ?hn ?hr ?_; (case ho => rfl); (case hg => rfl); (case hn => rfl); (case hr => first | (go_simp; done) | (go_simp; rfl)); intro w125 hw; have hg : w122.grownBy w125 (some go101) := (by rw [hw]; exact HP124.2); have hp_ : Kd.R (Kd.int .i64) 3 w125 w.heap.size (fun k_ => some k_ ≠ (v178 : Value).ownBlock ∧ some k_ ≠ (v192 : Value).ownBlock) (.slice (some ⟨go101, 0, none⟩) x14_5.length co49) y209 := (by rw [hw, Ny209.out]; exact HP124.1); clear HP124; replace HO_9 := Aside0.mk (Kd.R_after (v := (.slice (some ⟨go101, 0, none⟩) x14_5.length co49)) (v1 := (.slice (some ⟨go101, 0, none⟩) x14_5.length co49)) (ok := (fun k_ => some k_ ≠ (v192 : Value).ownBlock)) (by (with_reducible repeat (first | apply Kd.R_alloc | apply Kd.R_drewN | apply Kd.R_drew)); exact HO_9.out) hg (.inl rfl)); replace HO_17 := Aside0.mk (Kd.R_after (v := (.slice (some ⟨go101, 0, none⟩) x14_5.length co49)) (v1 := (.slice (some ⟨go101, 0, none⟩) x14_5.length co49)) (ok := (fun k_ => some k_ ≠ (v178 : Value).ownBlock)) (by (with_reducible repeat (first | apply Kd.R_alloc | apply Kd.R_drewN | apply Kd.R_drew)); exact HO_17.out) hg (.inl rfl)); replace BK190 := Aside0.mk (blk_grown (g := gb190) (o := .cells #[.int .i64 ((rd_T41 y170 x98_5).f0), .int .i64 ((rd_T41 y170 x98_5).f1), .int .i64 ((rd_T41 y170 x98_5).f2)] 41 (0, 0)) (xK BK190) hg (Kd.R_ne HO_14.out BK190.out (by decide))); replace HO_14 := Aside0.mk (hp_); replace HB := Aside0.mk ((by rw [hw]; exact below_set (HB.out) GB101.out : Below w.heap.size w w125)); clear hg hw hp_))
                                                 go_ret
                                                 exact ⟨by first | rfl | (simp [errW_none, errW_some] <;> rfl) | (simp only [← hji7, ← hji10]; first | rfl | (simp [errW_none, errW_some] <;> rfl)) | (simp [*, errW_none, errW_some] <;> rfl), xW HB⟩
                                             ·rw [if_neg c98] at H
                                              exact absurd H (by simp)
                                            ·rw [if_neg c97] at H
                                             exact absurd H (by simp)
                                          ·rw [if_neg c94] at H
                                           exact absurd H (by simp)
                                         ·rw [if_neg c93] at H
                                          exact absurd H (by simp)
                                        ·as_aux_lemma =>
                                         rw [if_neg c92] at H
                                         have c92b0 : decide (x19_10 < 0) = false := decide_eq_false c92
                                         clear c92
                                         by_cases c126 : 0 ≤ ((rd_T41 y170 x98_5).f0)
                                         ·as_aux_lemma =>
                                          rw [if_pos c126] at H
                                          have c126b0 : decide (0 ≤ ((rd_T41 y170 x98_5).f0)) = true := decide_eq_true c126
                                          clear c126
                                          by_cases c127 : ((rd_T41 y170 x98_5).f0) < (x14_5.length : Int)
                                          ·as_aux_lemma =>
                                           rw [if_pos c127] at H
                                           have c127b0 : decide (((rd_T41 y170 x98_5).f0) < (x14_5.length : Int)) = true := decide_eq_true c127
                                           clear c127
                                           obtain ⟨y212, hy212⟩ : ∃ y_ : List Int, y_ = (x14_5.set (((rd_T41 y170 x98_5).f0) : Int).toNat (wrap64 ((rd x14_5 ((rd_T41 y170 x98_5).f0)) + x19_10))) := ⟨_, rfl⟩
                                           replace H : (if 0 ≤ ((rd_T41 y170 x98_5).f1) then (if ((rd_T41 y170 x98_5).f1) < (x14_5.length : Int) then ((some (y212.set (((rd_T41 y170 x98_5).f1) : Int).toNat (wrap64 ((rd y212 ((rd_T41 y170 x98_5).f1)) - x19_10)) : List Int)).bind fun y214 => (if t194 = 0 then ((gamehalllaw3_sameInts.f k10 t191 y214).bind fun t215 => (if t215 = true then (gamehalllaw3_RatingMoves.l1 k10 y166 a2 t176 t177 x11_57 y214 y170 (y170.length : Int) (wrap64 (x98_5 + 1))) else (some false))) else (some false))) else (none)) else (none)) = some r := by first | (rw [hy212]; with_reducible exact H) | (have H2_ := (Option.bind_some _ _).symm.trans H; rw [hy212]; with_reducible exact H2_) | (have H2_ := (Option.bind_some _ _).symm.trans H; with_reducible exact H2_) | with_reducible exact H | (rw [hy212]; exact H) | exact H
                                           have Ny212 := Aside0.mk hy212; clear hy212
                                           by_cases c129 : 0 ≤ ((rd_T41 y170 x98_5).f1)
                                           ·as_aux_lemma =>
                                            rw [if_pos c129] at H
                                            have c129b0 : decide (0 ≤ ((rd_T41 y170 x98_5).f1)) = true := decide_eq_true c129
                                            clear c129
                                            by_cases c130 : ((rd_T41 y170 x98_5).f1) < (x14_5.length : Int)
                                            ·as_aux_lemma =>
                                             rw [if_pos c130] at H
                                             have c130b0 : decide (((rd_T41 y170 x98_5).f1) < (x14_5.length : Int)) = true := decide_eq_true c130
                                             clear c130
                                             obtain ⟨y214, hy214⟩ : ∃ y_ : List Int, y_ = (y212.set (((rd_T41 y170 x98_5).f1) : Int).toNat (wrap64 ((rd y212 ((rd_T41 y170 x98_5).f1)) - x19_10))) := ⟨_, rfl⟩
                                             replace H : (if t194 = 0 then ((gamehalllaw3_sameInts.f k10 t191 y214).bind fun t215 => (if t215 = true then (gamehalllaw3_RatingMoves.l1 k10 y166 a2 t176 t177 x11_57 y214 y170 (y170.length : Int) (wrap64 (x98_5 + 1))) else (some false))) else (some false)) = some r := by first | (rw [hy214]; with_reducible exact H) | (have H2_ := (Option.bind_some _ _).symm.trans H; rw [hy214]; with_reducible exact H2_) | (have H2_ := (Option.bind_some _ _).symm.trans H; with_reducible exact H2_) | with_reducible exact H | (rw [hy214]; exact H) | exact H
                                             have Ny214 := Aside0.mk hy214; clear hy214
                                             by_cases c132 : t194 = 0
                                             ·as_aux_lemma =>
                                              rw [if_pos c132] at H
                                              have c132b0 : (t194 == 0) = true := beq_iff_eq.mpr c132
                                              have c132b1 : (t194 != 0) = false := bne_eq_false_iff_eq.mpr c132
                                              clear c132; replace H := Option.bind_eq_some_iff.mp H
                                              obtain ⟨t215, A1330, H⟩ := H
                                              try dsimp only at H
                                              have A133 := Aside0.mk A1330; clear A1330
                                              by_cases c134 : t215 = true
                                              ·subst c134
                                               rw [if_pos rfl] at H
                                               as_aux_lemma =>
                                                have H' := Aside0.mk H
                                                clear H; have hcz135_0 := blkc3 BK190.out
                                                have p211 : 0 ≤ (((rd_T41 y170 x98_5).f0) : Int) := of_decide_eq_true (by first | (with_reducible assumption) | assumption)
                                                have q211 : ((rd_T41 y170 x98_5).f0) < (x14_5.length : Int) := of_decide_eq_true (by first | (with_reducible assumption) | assumption)
                                                obtain ⟨ad211, e211, hx211_0⟩ := Kd.at_int (Kd.R_reads' HO_14.out).2.2 ((rd_T41 y170 x98_5).f0) p211 q211
                                                obtain rfl : ad195 = ad211 := (by injection e211)
                                                replace p211 := eq_true p211; replace q211 := eq_true q211
                                                have p128 : 0 ≤ (((rd_T41 y170 x98_5).f0) : Int) := of_decide_eq_true (by first | (with_reducible assumption) | assumption)
                                                have q128 : (((rd_T41 y170 x98_5).f0) : Int) < ((x14_5.length : Int) : Int) := of_decide_eq_true (by first | (with_reducible assumption) | assumption)
                                                obtain ⟨go128, co128, eo128, gb128, gl128, cl128, HG128⟩ := Kd.R_form HO_14.out (by omega)
                                                (first | cases eo128 | (injection eo128 with ea_ en_ ec_; (first | subst ea_ | (injection ea_ with ea_; subst ea_)); subst ec_; clear en_))
                                                have GB128 := Aside0.mk gb128; have GG128 := Aside0.mk HG128; clear gb128 gl128 HG128
                                                (first | simp only [add_plain] at hx211_0 | skip)
                                                obtain ⟨hx128_0, hf128_0⟩ := Kd.R_celln 0 HO_14.out (((rd_T41 y170 x98_5).f0) : Int) p128 q128
                                                replace p128 := eq_true p128; replace q128 := eq_true q128; have HP136 := Kd.R_putg HO_14.out (((rd_T41 y170 x98_5).f0) : Int) (wrap64 ((rd x14_5 ((rd_T41 y170 x98_5).f0)) + x19_10))
                                                go_wp2_with (first | ((with_reducible refine gate_store (t := 3) (p := 263) rfl ?_); refine store_event (t := 3) (p := 263) (v := ?vo_w137) (w1 := (wr.setCell ⟨go128, (((rd_T41 y170 x98_5).f0) : Int).toNat, none⟩ (.int .i64 (wrap64 ((rd x14_5 ((rd_T41 y170 x98_5).f0)) + x19_10))))) ?hg ?ho ?hn ?hr ?_; (case ho => rfl); (case hg => rfl); (case hn => rfl); (case hr => first | (go_simp; done) | (go_simp; rfl)); intro w137 hw; have hg : wr.grownBy w137 (some go128) := (by rw [hw]; exact HP136.2); have hp_ : Kd.R (Kd.int .i64) 3 w137 w.heap.size (fun k_ => some k_ ≠ (v178 : Value).ownBlock ∧ some k_ ≠ (v192 : Value).ownBlock) (.slice (some ⟨go128, 0, none⟩) x14_5.length co49) y212 := (by rw [hw, Ny212.out]; exact HP136.1); clear HP136; replace HO_9 := Aside0.mk (Kd.R_after (v := (.slice (some ⟨go128, 0, none⟩) x14_5.length co49)) (v1 := (.slice (some ⟨go128, 0, none⟩) x14_5.length co49)) (ok := (fun k_ => some k_ ≠ (v192 : Value).ownBlock)) (by (with_reducible repeat (first | apply Kd.R_alloc | apply Kd.R_drewN | apply Kd.R_drew)); exact Kd.R_mono HO_9.out (fun _ hk => ⟨hk.2, hk.1⟩)) hg (.inl rfl)); replace HO_17 := Aside0.mk (Kd.R_after (v := (.slice (some ⟨go128, 0, none⟩) x14_5.length co49)) (v1 := (.slice (some ⟨go128, 0, none⟩) x14_5.length co49)) (ok := (fun k_ => some k_ ≠ (v178 : Value).ownBlock)) (by (with_reducible repeat (first | apply Kd.R_alloc | apply Kd.R_drewN | apply Kd.R_drew)); exact HO_17.out) hg (.inl rfl)); replace BK190 := Aside0.mk (blk_grown (g := gb190) (o := .cells #[.int .i64 ((rd_T41 y170 x98_5).f0), .int .i64 ((rd_T41 y170 x98_5).f1), .int .i64 ((rd_T41 y170 x98_5).f2)] 41 (0, 0)) (xK BK190) hg (Kd.R_ne HO_14.out BK190.out (by decide))); replace HO_14 := Aside0.mk (hp_); replace HB := Aside0.mk ((by rw [hw]; exact below_set (HB.out) GB128.out : Below w.heap.size w w137)); clear hg hw hp_; have hcz138_0 := blkc3 BK190.out; have p213 : 0 ≤ (((rd_T41 y170 x98_5).f1) : Int) := of_decide_eq_true (by first | (with_reducible assumption) | assumption); have q213 : ((rd_T41 y170 x98_5).f1) < (y212.length : Int) := (by have h_ : (((rd_T41 y170 x98_5).f1) : Int) < ((x14_5.length : Int) : Int) := of_decide_eq_true (by first | (with_reducible assumption) | assumption); first | (have e_ := (Kd.R_reads' HO_14.out).1; omega) | simpa only [Ny212.out, List.length_set] using h_); have ql213 : ((((rd_T41 y170 x98_5).f1) : Int) < ((x14_5.length : Int) : Int)) = True := eq_true (of_decide_eq_true (by first | (with_reducible assumption) | assumption)); obtain ⟨ad213, e213, hx213_0⟩ := Kd.at_int (Kd.R_reads' HO_14.out).2.2 ((rd_T41 y170 x98_5).f1) p213 q213; obtain rfl : (⟨go128, 0, none⟩ : Addr) = ad213 := (by injection e213); (first | simp only [add_plain] at hx213_0 | simp only [add_at] at hx213_0 | simp only [Addr.add, Nat.zero_add] at hx213_0 | skip); replace p213 := eq_true p213; replace q213 := eq_true q213; have p131 : 0 ≤ (((rd_T41 y170 x98_5).f1) : Int) := of_decide_eq_true (by first | (with_reducible assumption) | assumption); have q131 : (((rd_T41 y170 x98_5).f1) : Int) < ((x14_5.length : Int) : Int) := of_decide_eq_true (by first | (with_reducible assumption) | assumption); obtain ⟨hx131_0, hf131_0⟩ := Kd.R_celln 0 HO_14.out (((rd_T41 y170 x98_5).f1) : Int) p131 q131; replace p131 := eq_true p131; replace q131 := eq_true q131; obtain ⟨hy139_, hz139_⟩ := Kd.R_celln 0 HO_14.out (((rd_T41 y170 x98_5).f1) : Int) (of_decide_eq_true (by first | (with_reducible assumption) | assumption)) (of_decide_eq_true (by first | (with_reducible assumption) | assumption)); have HP139 := Kd.R_putg HO_14.out (((rd_T41 y170 x98_5).f1) : Int) (wrap64 ((rd y212 ((rd_T41 y170 x98_5).f1)) - x19_10))) | ((with_reducible refine gate_store (t := 3) (p := 271) rfl ?_); refine store_event (t := 3) (p := 271) (v := ?vo_w140) (w1 := (w137.setCell ⟨go128, (((rd_T41 y170 x98_5).f1) : Int).toNat, none⟩ (.int .i64 (wrap64 ((rd y212 ((rd_T41 y170 x98_5).f1)) - x19_10))))) ?hg ?ho ?hn ?hr ?_; (case ho => rfl); (case hg => rfl); (case hn => rfl); (case hr => first | (go_simp; done) | (go_simp; rfl)); intro w140 hw; have hg : w137.grownBy w140 (some go128) := (by rw [hw]; exact HP139.2); have hp_ : Kd.R (Kd.int .i64) 3 w140 w.heap.size (fun k_ => some k_ ≠ (v178 : Value).ownBlock ∧ some k_ ≠ (v192 : Value).ownBlock) (.slice (some ⟨go128, 0, none⟩) x14_5.length co49) y214 := (by rw [hw, Ny214.out]; exact HP139.1); clear HP139; replace HO_9 := Aside0.mk (Kd.R_after (v := (.slice (some ⟨go128, 0, none⟩) x14_5.length co49)) (v1 := (.slice (some ⟨go128, 0, none⟩) x14_5.length co49)) (ok := (fun k_ => some k_ ≠ (v192 : Value).ownBlock)) (by (with_reducible repeat (first | apply Kd.R_alloc | apply Kd.R_drewN | apply Kd.R_drew)); exact HO_9.out) hg (.inl rfl)); replace HO_17 := Aside0.mk (Kd.R_after (v := (.slice (some ⟨go128, 0, none⟩) x14_5.length co49)) (v1 := (.slice (some ⟨go128, 0, none⟩) x14_5.length co49)) (ok := (fun k_ => some k_ ≠ (v178 : Value).ownBlock)) (by (with_reducible repeat (first | apply Kd.R_alloc | apply Kd.R_drewN | apply Kd.R_drew)); exact HO_17.out) hg (.inl rfl)); replace BK190 := Aside0.mk (blk_grown (g := gb190) (o := .cells #[.int .i64 ((rd_T41 y170 x98_5).f0), .int .i64 ((rd_T41 y170 x98_5).f1), .int .i64 ((rd_T41 y170 x98_5).f2)] 41 (0, 0)) (xK BK190) hg (Kd.R_ne HO_14.out BK190.out (by decide))); replace HO_14 := Aside0.mk (hp_); replace HB := Aside0.mk ((by rw [hw]; exact below_set (HB.out) GB128.out : Below w.heap.size w w140)); clear hg hw hp_; obtain ⟨Ao141, co141, eo141⟩ := Kd.R_slice HO_17.out; subst eo141) | (go_at_call 19; refine calls_of_args (args' := #[.slice Ao141 t191.length co141, .slice (some ⟨go128, 0, none⟩) y214.length co49]) (by first | (rw [show y214.length = x14_5.length from (Kd.R_reads' HO_14.out).1.symm] <;> rfl) | rfl) ?_; (with_reducible refine (gamehalllaw3_sameInts.calls k10 _ _ t191 _ _ y214 true _ ?side1 ?side2 ?side3 ?side4 A133.out).mono ?_); (case side1 => repeat (first | exact (Kd.R_reads' HO_17.out).2.2 | (with_reducible refine Kd.C_alloc ?_ _) | (with_reducible refine Kd.C_drewN ?_ _) | (with_reducible refine Kd.C_drew ?_))); (case side2 => exact (Kd.R_reads' HO_17.out).2.1); (case side3 => repeat (first | exact (Kd.R_reads' HO_14.out).2.2 | (with_reducible refine Kd.C_alloc ?_ _) | (with_reducible refine Kd.C_drewN ?_ _) | (with_reducible refine Kd.C_drew ?_))); (case side4 => rw [show y214.length = x14_5.length from (Kd.R_reads' HO_14.out).1.symm]; exact (Kd.R_reads' HO_14.out).2.1); rintro e w' ⟨rfl, ⟨nd, rfl⟩⟩))
                                                go_roundg k10
                                                case measure => have := HJ12.out; have := HJ23.out; have := HJ26.out; have := HK4.out; have := HK5.out; have := HJ45.out; have := HJ57.out; have := HJ73.out; have := HJ80.out; have := HK10.out; omega
                                                case rel => exact ⟨(x11_57), (y214), (wrap64 (x98_5 + 1)), (xrf), (xrf), H', ⟨by have := HJ12.out; have := HJ23.out; have := HJ26.out; have := HK4.out; have := HK5.out; have := HJ45.out; have := HJ57.out; have := HJ73.out; have := HJ80.out; have := HK10.out; omega⟩, ⟨by (with_reducible repeat (first | apply Kd.R_alloc | apply Kd.R_drewN | apply Kd.R_drew)); exact Kd.R_mono HO_9.out (fun _ hk => hk.2)⟩, ⟨by (with_reducible repeat (first | apply Kd.R_alloc | apply Kd.R_drewN | apply Kd.R_drew)); exact Kd.R_mono HO_14.out (fun _ hk => hk.1)⟩, ⟨xW HB⟩⟩
                                              ·replace c134 := Bool.eq_false_iff.mpr c134
                                               subst c134
                                               rw [if_neg (show ¬ (false = true) by decide)] at H
                                               as_aux_lemma =>
                                                obtain rfl := Option.some.inj H
                                                have hcz142_0 := blkc3 BK190.out
                                                have p211 : 0 ≤ (((rd_T41 y170 x98_5).f0) : Int) := of_decide_eq_true (by first | (with_reducible assumption) | assumption)
                                                have q211 : ((rd_T41 y170 x98_5).f0) < (x14_5.length : Int) := of_decide_eq_true (by first | (with_reducible assumption) | assumption)
                                                obtain ⟨ad211, e211, hx211_0⟩ := Kd.at_int (Kd.R_reads' HO_14.out).2.2 ((rd_T41 y170 x98_5).f0) p211 q211
                                                obtain rfl : ad195 = ad211 := (by injection e211)
                                                replace p211 := eq_true p211; replace q211 := eq_true q211
                                                have p128 : 0 ≤ (((rd_T41 y170 x98_5).f0) : Int) := of_decide_eq_true (by first | (with_reducible assumption) | assumption)
                                                have q128 : (((rd_T41 y170 x98_5).f0) : Int) < ((x14_5.length : Int) : Int) := of_decide_eq_true (by first | (with_reducible assumption) | assumption)
                                                obtain ⟨go128, co128, eo128, gb128, gl128, cl128, HG128⟩ := Kd.R_form HO_14.out (by omega)
                                                (first | cases eo128 | (injection eo128 with ea_ en_ ec_; (first | subst ea_ | (injection ea_ with ea_; subst ea_)); subst ec_; clear en_))
                                                have GB128 := Aside0.mk gb128; have GG128 := Aside0.mk HG128; clear gb128 gl128 HG128
                                                (first | simp only [add_plain] at hx211_0 | skip)
                                                obtain ⟨hx128_0, hf128_0⟩ := Kd.R_celln 0 HO_14.out (((rd_T41 y170 x98_5).f0) : Int) p128 q128
                                                replace p128 := eq_true p128; replace q128 := eq_true q128; have HP143 := Kd.R_putg HO_14.out (((rd_T41 y170 x98_5).f0) : Int) (wrap64 ((rd x14_5 ((rd_T41 y170 x98_5).f0)) + x19_10))
                                                go_wp2_with (first | ((with_reducible refine gate_store (t := 3) (p := 263) rfl ?_); refine store_event (t := 3) (p := 263) (v := ?vo_w144) (w1 := (wr.setCell ⟨go128, (((rd_T41 y170 x98_5).f0) : Int).toNat, none⟩ (.int .i64 (wrap64 ((rd x14_5 ((rd_T41 y170 x98_5).f0)) + x19_10))))) ?hg ?ho ?hn ?hr ?_; (case ho => rfl); (case hg => rfl); (case hn => rfl); (case hr => first | (go_simp; done) | (go_simp; rfl)); intro w144 hw; have hg : wr.grownBy w144 (some go128) := (by rw [hw]; exact HP143.2); have hp_ : Kd.R (Kd.int .i64) 3 w144 w.heap.size (fun k_ => some k_ ≠ (v178 : Value).ownBlock ∧ some k_ ≠ (v192 : Value).ownBlock) (.slice (some ⟨go128, 0, none⟩) x14_5.length co49) y212 := (by rw [hw, Ny212.out]; exact HP143.1); clear HP143; replace HO_9 := Aside0.mk (Kd.R_after (v := (.slice (some ⟨go128, 0, none⟩) x14_5.length co49)) (v1 := (.slice (some ⟨go128, 0, none⟩) x14_5.length co49)) (ok := (fun k_ => some k_ ≠ (v192 : Value).ownBlock)) (by (with_reducible repeat (first | apply Kd.R_alloc | apply Kd.R_drewN | apply Kd.R_drew)); exact Kd.R_mono HO_9.out (fun _ hk => ⟨hk.2, hk.1⟩)) hg (.inl rfl)); replace HO_17 := Aside0.mk (Kd.R_after (v := (.slice (some ⟨go128, 0, none⟩) x14_5.length co49)) (v1 := (.slice (some ⟨go128, 0, none⟩) x14_5.length co49)) (ok := (fun k_ => some k_ ≠ (v178 : Value).ownBlock)) (by (with_reducible repeat (first | apply Kd.R_alloc | apply Kd.R_drewN | apply Kd.R_drew)); exact HO_17.out) hg (.inl rfl)); replace BK190 := Aside0.mk (blk_grown (g := gb190) (o := .cells #[.int .i64 ((rd_T41 y170 x98_5).f0), .int .i64 ((rd_T41 y170 x98_5).f1), .int .i64 ((rd_T41 y170 x98_5).f2)] 41 (0, 0)) (xK BK190) hg (Kd.R_ne HO_14.out BK190.out (by decide))); replace HO_14 := Aside0.mk (hp_); replace HB := Aside0.mk ((by rw [hw]; exact below_set (HB.out) GB128.out : Below w.heap.size w w144)); clear hg hw hp_; have hcz145_0 := blkc3 BK190.out; have p213 : 0 ≤ (((rd_T41 y170 x98_5).f1) : Int) := of_decide_eq_true (by first | (with_reducible assumption) | assumption); have q213 : ((rd_T41 y170 x98_5).f1) < (y212.length : Int) := (by have h_ : (((rd_T41 y170 x98_5).f1) : Int) < ((x14_5.length : Int) : Int) := of_decide_eq_true (by first | (with_reducible assumption) | assumption); first | (have e_ := (Kd.R_reads' HO_14.out).1; omega) | simpa only [Ny212.out, List.length_set] using h_); have ql213 : ((((rd_T41 y170 x98_5).f1) : Int) < ((x14_5.length : Int) : Int)) = True := eq_true (of_decide_eq_true (by first | (with_reducible assumption) | assumption)); obtain ⟨ad213, e213, hx213_0⟩ := Kd.at_int (Kd.R_reads' HO_14.out).2.2 ((rd_T41 y170 x98_5).f1) p213 q213; obtain rfl : (⟨go128, 0, none⟩ : Addr) = ad213 := (by injection e213); (first | simp only [add_plain] at hx213_0 | simp only [add_at] at hx213_0 | simp only [Addr.add, Nat.zero_add] at hx213_0 | skip); replace p213 := eq_true p213; replace q213 := eq_true q213; have p131 : 0 ≤ (((rd_T41 y170 x98_5).f1) : Int) := of_decide_eq_true (by first | (with_reducible assumption) | assumption); have q131 : (((rd_T41 y170 x98_5).f1) : Int) < ((x14_5.length : Int) : Int) := of_decide_eq_true (by first | (with_reducible assumption) | assumption); obtain ⟨hx131_0, hf131_0⟩ := Kd.R_celln 0 HO_14.out (((rd_T41 y170 x98_5).f1) : Int) p131 q131; replace p131 := eq_true p131; replace q131 := eq_true q131; obtain ⟨hy146_, hz146_⟩ := Kd.R_celln 0 HO_14.out (((rd_T41 y170 x98_5).f1) : Int) (of_decide_eq_true (by first | (with_reducible assumption) | assumption)) (of_decide_eq_true (by first | (with_reducible assumption) | assumption)); have HP146 := Kd.R_putg HO_14.out (((rd_T41 y170 x98_5).f1) : Int) (wrap64 ((rd y212 ((rd_T41 y170 x98_5).f1)) - x19_10))) | ((with_reducible refine gate_store (t := 3) (p := 271) rfl ?_); refine store_event (t := 3) (p := 271) (v := ?vo_w147) (w1 := (w144.setCell ⟨go128, (((rd_T41 y170 x98_5).f1) : Int).toNat, none⟩ (.int .i64 (wrap64 ((rd y212 ((rd_T41 y170 x98_5).f1)) - x19_10))))) ?hg ?ho ?hn ?hr ?_; (case ho => rfl); (case hg => rfl); (case hn => rfl); (case hr => first | (go_simp; done) | (go_simp; rfl)); intro w147 hw; have hg : w144.grownBy w147 (some go128) := (by rw [hw]; exact HP146.2); have hp_ : Kd.R (Kd.int .i64) 3 w147 w.heap.size (fun k_ => some k_ ≠ (v178 : Value).ownBlock ∧ some k_ ≠ (v192 : Value).ownBlock) (.slice (some ⟨go128, 0, none⟩) x14_5.length co49) y214 := (by rw [hw, Ny214.out]; exact HP146.1); clear HP146; replace HO_9 := Aside0.mk (Kd.R_after (v := (.slice (some ⟨go128, 0, none⟩) x14_5.length co49)) (v1 := (.slice (some ⟨go128, 0, none⟩) x14_5.length co49)) (ok := (fun k_ => some k_ ≠ (v192 : Value).ownBlock)) (by (with_reducible repeat (first | apply Kd.R_alloc | apply Kd.R_drewN | apply Kd.R_drew)); exact HO_9.out) hg (.inl rfl)); replace HO_17 := Aside0.mk (Kd.R_after (v := (.slice (some ⟨go128, 0, none⟩) x14_5.length co49)) (v1 := (.slice (some ⟨go128, 0, none⟩) x14_5.length co49)) (ok := (fun k_ => some k_ ≠ (v178 : Value).ownBlock)) (by (with_reducible repeat (first | apply Kd.R_alloc | apply Kd.R_drewN | apply Kd.R_drew)); exact HO_17.out) hg (.inl rfl)); replace BK190 := Aside0.mk (blk_grown (g := gb190) (o := .cells #[.int .i64 ((rd_T41 y170 x98_5).f0), .int .i64 ((rd_T41 y170 x98_5).f1), .int .i64 ((rd_T41 y170 x98_5).f2)] 41 (0, 0)) (xK BK190) hg (Kd.R_ne HO_14.out BK190.out (by decide))); replace HO_14 := Aside0.mk (hp_); replace HB := Aside0.mk ((by rw [hw]; exact below_set (HB.out) GB128.out : Below w.heap.size w w147)); clear hg hw hp_; obtain ⟨Ao148, co148, eo148⟩ := Kd.R_slice HO_17.out; subst eo148) | (go_at_call 19; refine calls_of_args (args' := #[.slice Ao148 t191.length co148, .slice (some ⟨go128, 0, none⟩) y214.length co49]) (by first | (rw [show y214.length = x14_5.length from (Kd.R_reads' HO_14.out).1.symm] <;> rfl) | rfl) ?_; (with_reducible refine (gamehalllaw3_sameInts.calls k10 _ _ t191 _ _ y214 false _ ?side1 ?side2 ?side3 ?side4 A133.out).mono ?_); (case side1 => repeat (first | exact (Kd.R_reads' HO_17.out).2.2 | (with_reducible refine Kd.C_alloc ?_ _) | (with_reducible refine Kd.C_drewN ?_ _) | (with_reducible refine Kd.C_drew ?_))); (case side2 => exact (Kd.R_reads' HO_17.out).2.1); (case side3 => repeat (first | exact (Kd.R_reads' HO_14.out).2.2 | (with_reducible refine Kd.C_alloc ?_ _) | (with_reducible refine Kd.C_drewN ?_ _) | (with_reducible refine Kd.C_drew ?_))); (case side4 => rw [show y214.length = x14_5.length from (Kd.R_reads' HO_14.out).1.symm]; exact (Kd.R_reads' HO_14.out).2.1); rintro e w' ⟨rfl, ⟨nd, rfl⟩⟩))
                                                go_ret
                                                exact ⟨by first | rfl | (simp [errW_none, errW_some] <;> rfl) | (simp only [← hji7, ← hji10]; first | rfl | (simp [errW_none, errW_some] <;> rfl)) | (simp [*, errW_none, errW_some] <;> rfl), xW HB⟩
                                             ·as_aux_lemma =>
                                              rw [if_neg c132] at H
                                              have c132b0 : (t194 == 0) = false := beq_eq_false_iff_ne.mpr c132
                                              have c132b1 : (t194 != 0) = true := bne_iff_ne.mpr c132
                                              as_aux_lemma =>
                                               obtain rfl := Option.some.inj H
                                               have hcz149_0 := blkc3 BK190.out
                                               have p211 : 0 ≤ (((rd_T41 y170 x98_5).f0) : Int) := of_decide_eq_true (by first | (with_reducible assumption) | assumption)
                                               have q211 : ((rd_T41 y170 x98_5).f0) < (x14_5.length : Int) := of_decide_eq_true (by first | (with_reducible assumption) | assumption)
                                               obtain ⟨ad211, e211, hx211_0⟩ := Kd.at_int (Kd.R_reads' HO_14.out).2.2 ((rd_T41 y170 x98_5).f0) p211 q211
                                               obtain rfl : ad195 = ad211 := (by injection e211)
                                               replace p211 := eq_true p211; replace q211 := eq_true q211
                                               have p128 : 0 ≤ (((rd_T41 y170 x98_5).f0) : Int) := of_decide_eq_true (by first | (with_reducible assumption) | assumption)
                                               have q128 : (((rd_T41 y170 x98_5).f0) : Int) < ((x14_5.length : Int) : Int) := of_decide_eq_true (by first | (with_reducible assumption) | assumption)
                                               obtain ⟨go128, co128, eo128, gb128, gl128, cl128, HG128⟩ := Kd.R_form HO_14.out (by omega)
                                               (first | cases eo128 | (injection eo128 with ea_ en_ ec_; (first | subst ea_ | (injection ea_ with ea_; subst ea_)); subst ec_; clear en_))
                                               have GB128 := Aside0.mk gb128; have GG128 := Aside0.mk HG128; clear gb128 gl128 HG128
                                               (first | simp only [add_plain] at hx211_0 | skip)
                                               obtain ⟨hx128_0, hf128_0⟩ := Kd.R_celln 0 HO_14.out (((rd_T41 y170 x98_5).f0) : Int) p128 q128
                                               replace p128 := eq_true p128; replace q128 := eq_true q128; have HP150 := Kd.R_putg HO_14.out (((rd_T41 y170 x98_5).f0) : Int) (wrap64 ((rd x14_5 ((rd_T41 y170 x98_5).f0)) + x19_10))
                                               go_wp2_with (first | ((with_reducible refine gate_store (t := 3) (p := 263) rfl ?_); refine store_event (t := 3) (p := 263) (v := ?vo_w151) (w1 := (wr.setCell ⟨go128, (((rd_T41 y170 x98_5).f0) : Int).toNat, none⟩ (.int .i64 (wrap64 ((rd x14_5 ((rd_T41 y170 x98_5).f0)) + x19_10))))) ?hg ?ho ?hn ?hr ?_; (case ho => rfl); (case hg => rfl); (case hn => rfl); (case hr => first | (go_simp; done) | (go_simp; rfl)); intro w151 hw; have hg : wr.grownBy w151 (some go128) := (by rw [hw]; exact HP150.2); have hp_ : Kd.R (Kd.int .i64) 3 w151 w.heap.size (fun k_ => some k_ ≠ (v178 : Value).ownBlock ∧ some k_ ≠ (v192 : Value).ownBlock) (.slice (some ⟨go128, 0, none⟩) x14_5.length co49) y212 := (by rw [hw, Ny212.out]; exact HP150.1); clear HP150; replace HO_9 := Aside0.mk (Kd.R_after (v := (.slice (some ⟨go128, 0, none⟩) x14_5.length co49)) (v1 := (.slice (some ⟨go128, 0, none⟩) x14_5.length co49)) (ok := (fun k_ => some k_ ≠ (v192 : Value).ownBlock)) (by (with_reducible repeat (first | apply Kd.R_alloc | apply Kd.R_drewN | apply Kd.R_drew)); exact Kd.R_mono HO_9.out (fun _ hk => ⟨hk.2, hk.1⟩)) hg (.inl rfl)); replace HO_17 := Aside0.mk (Kd.R_after (v := (.slice (some ⟨go128, 0, none⟩) x14_5.length co49)) (v1 := (.slice (some ⟨go128, 0, none⟩) x14_5.length co49)) (ok := (fun k_ => some k_ ≠ (v178 : Value).ownBlock)) (by (with_reducible repeat (first | apply Kd.R_alloc | apply Kd.R_drewN | apply Kd.R_drew)); exact HO_17.out) hg (.inl rfl)); replace BK190 := Aside0.mk (blk_grown (g := gb190) (o := .cells #[.int .i64 ((rd_T41 y170 x98_5).f0), .int .i64 ((rd_T41 y170 x98_5).f1), .int .i64 ((rd_T41 y170 x98_5).f2)] 41 (0, 0)) (xK BK190) hg (Kd.R_ne HO_14.out BK190.out (by decide))); replace HO_14 := Aside0.mk (hp_); replace HB := Aside0.mk ((by rw [hw]; exact below_set (HB.out) GB128.out : Below w.heap.size w w151)); clear hg hw hp_; have hcz152_0 := blkc3 BK190.out; have p213 : 0 ≤ (((rd_T41 y170 x98_5).f1) : Int) := of_decide_eq_true (by first | (with_reducible assumption) | assumption); have q213 : ((rd_T41 y170 x98_5).f1) < (y212.length : Int) := (by have h_ : (((rd_T41 y170 x98_5).f1) : Int) < ((x14_5.length : Int) : Int) := of_decide_eq_true (by first | (with_reducible assumption) | assumption); first | (have e_ := (Kd.R_reads' HO_14.out).1; omega) | simpa only [Ny212.out, List.length_set] using h_); have ql213 : ((((rd_T41 y170 x98_5).f1) : Int) < ((x14_5.length : Int) : Int)) = True := eq_true (of_decide_eq_true (by first | (with_reducible assumption) | assumption)); obtain ⟨ad213, e213, hx213_0⟩ := Kd.at_int (Kd.R_reads' HO_14.out).2.2 ((rd_T41 y170 x98_5).f1) p213 q213; obtain rfl : (⟨go128, 0, none⟩ : Addr) = ad213 := (by injection e213); (first | simp only [add_plain] at hx213_0 | simp only [add_at] at hx213_0 | simp only [Addr.add, Nat.zero_add] at hx213_0 | skip); replace p213 := eq_true p213; replace q213 := eq_true q213; have p131 : 0 ≤ (((rd_T41 y170 x98_5).f1) : Int) := of_decide_eq_true (by first | (with_reducible assumption) | assumption); have q131 : (((rd_T41 y170 x98_5).f1) : Int) < ((x14_5.length : Int) : Int) := of_decide_eq_true (by first | (with_reducible assumption) | assumption); obtain ⟨hx131_0, hf131_0⟩ := Kd.R_celln 0 HO_14.out (((rd_T41 y170 x98_5).f1) : Int) p131 q131; replace p131 := eq_true p131; replace q131 := eq_true q131; obtain ⟨hy153_, hz153_⟩ := Kd.R_celln 0 HO_14.out (((rd_T41 y170 x98_5).f1) : Int) (of_decide_eq_true (by first | (with_reducible assumption) | assumption)) (of_decide_eq_true (by first | (with_reducible assumption) | assumption)); have HP153 := Kd.R_putg HO_14.out (((rd_T41 y170 x98_5).f1) : Int) (wrap64 ((rd y212 ((rd_T41 y170 x98_5).f1)) - x19_10))) | ((with_reducible refine gate_store (t := 3) (p := 271) rfl ?_); refine store_event (t := 3) (p := 271) (v := ?vo_w154) (w1 := (w151.setCell ⟨go128, (((rd_T41 y170 x98_5).f1) : Int).toNat, none⟩ (.int .i64 (wrap64 ((rd y212 ((rd_T41 y170 x98_5).f1)) - x19_10))))) ?hg ?ho ?hn ?hr ?_; (case ho => rfl); (case hg => rfl); (case hn => rfl); (case hr => first | (go_simp; done) | (go_simp; rfl)); intro w154 hw; have hg : w151.grownBy w154 (some go128) := (by rw [hw]; exact HP153.2); have hp_ : Kd.R (Kd.int .i64) 3 w154 w.heap.size (fun k_ => some k_ ≠ (v178 : Value).ownBlock ∧ some k_ ≠ (v192 : Value).ownBlock) (.slice (some ⟨go128, 0, none⟩) x14_5.length co49) y214 := (by rw [hw, Ny214.out]; exact HP153.1); clear HP153; replace HO_9 := Aside0.mk (Kd.R_after (v := (.slice (some ⟨go128, 0, none⟩) x14_5.length co49)) (v1 := (.slice (some ⟨go128, 0, none⟩) x14_5.length co49)) (ok := (fun k_ => some k_ ≠ (v192 : Value).ownBlock)) (by (with_reducible repeat (first | apply Kd.R_alloc | apply Kd.R_drewN | apply Kd.R_drew)); exact HO_9.out) hg (.inl rfl)); replace HO_17 := Aside0.mk (Kd.R_after (v := (.slice (some ⟨go128, 0, none⟩) x14_5.length co49)) (v1 := (.slice (some ⟨go128, 0, none⟩) x14_5.length co49)) (ok := (fun k_ => some k_ ≠ (v178 : Value).ownBlock)) (by (with_reducible repeat (first | apply Kd.R_alloc | apply Kd.R_drewN | apply Kd.R_drew)); exact HO_17.out) hg (.inl rfl)); replace BK190 := Aside0.mk (blk_grown (g := gb190) (o := .cells #[.int .i64 ((rd_T41 y170 x98_5).f0), .int .i64 ((rd_T41 y170 x98_5).f1), .int .i64 ((rd_T41 y170 x98_5).f2)] 41 (0, 0)) (xK BK190) hg (Kd.R_ne HO_14.out BK190.out (by decide))); replace HO_14 := Aside0.mk (hp_); replace HB := Aside0.mk ((by rw [hw]; exact below_set (HB.out) GB128.out : Below w.heap.size w w154)); clear hg hw hp_))
                                               go_ret
                                               exact ⟨by first | rfl | (simp [errW_none, errW_some] <;> rfl) | (simp only [← hji7, ← hji10]; first | rfl | (simp [errW_none, errW_some] <;> rfl)) | (simp [*, errW_none, errW_some] <;> rfl), xW HB⟩
                                            ·rw [if_neg c130] at H
                                             exact absurd H (by simp)
                                           ·rw [if_neg c129] at H
                                            exact absurd H (by simp)
                                          ·rw [if_neg c127] at H
                                           exact absurd H (by simp)
                                         ·rw [if_neg c126] at H
                                          exact absurd H (by simp)
                                ·rw [if_neg c71] at H
                                 exact absurd H (by simp)
                               ·rw [if_neg c70] at H
                                exact absurd H (by simp)
                              ·rw [if_neg c69] at H
                               exact absurd H (by simp)
                             ·rw [if_neg c68] at H
                              exact absurd H (by simp)
                            ·as_aux_lemma =>
                             rw [if_neg c67] at H
                             have c67b0 : (x11_57 == 0) = false := beq_eq_false_iff_ne.mpr c67
                             have c67b1 : (x11_57 != 0) = true := bne_iff_ne.mpr c67
                             by_cases c155 : t194 = x11_57
                             ·as_aux_lemma =>
                              rw [if_pos c155] at H
                              have c155b0 : (t194 == x11_57) = true := beq_iff_eq.mpr c155
                              have c155b1 : (t194 != x11_57) = false := bne_eq_false_iff_eq.mpr c155
                              clear c155
                              by_cases c156 : (t191.length : Int) = 0
                              ·as_aux_lemma =>
                               rw [if_pos c156] at H
                               have c156b0 : ((t191.length : Int) == 0) = true := beq_iff_eq.mpr c156
                               have c156b1 : ((t191.length : Int) != 0) = false := bne_eq_false_iff_eq.mpr c156
                               clear c156
                               by_cases c157 : t177 = x11_57
                               ·rw [if_pos c157] at H
                                have c157b0 : (t177 == x11_57) = true := beq_iff_eq.mpr c157
                                have c157b1 : (t177 != x11_57) = false := bne_eq_false_iff_eq.mpr c157
                                clear c157
                                as_aux_lemma =>
                                 obtain rfl := Option.some.inj H
                                 obtain ⟨Ao158, co158, eo158⟩ := Kd.R_slice HO_17.out
                                 subst eo158
                                 obtain ⟨Ao159, co159, eo159⟩ := Kd.R_slice HO_9.out
                                 subst eo159
                                 go_wp2
                                 go_ret
                                 exact ⟨by first | rfl | (simp [errW_none, errW_some] <;> rfl) | (simp only [← hji7, ← hji10]; first | rfl | (simp [errW_none, errW_some] <;> rfl)) | (simp [*, errW_none, errW_some] <;> rfl), xW HB⟩
                               ·rw [if_neg c157] at H
                                have c157b0 : (t177 == x11_57) = false := beq_eq_false_iff_ne.mpr c157
                                have c157b1 : (t177 != x11_57) = true := bne_iff_ne.mpr c157
                                as_aux_lemma =>
                                 obtain rfl := Option.some.inj H
                                 obtain ⟨Ao160, co160, eo160⟩ := Kd.R_slice HO_17.out
                                 subst eo160
                                 go_wp2
                                 go_ret
                                 exact ⟨by first | rfl | (simp [errW_none, errW_some] <;> rfl) | (simp only [← hji7, ← hji10]; first | rfl | (simp [errW_none, errW_some] <;> rfl)) | (simp [*, errW_none, errW_some] <;> rfl), xW HB⟩
                              ·rw [if_neg c156] at H
                               have c156b0 : ((t191.length : Int) == 0) = false := beq_eq_false_iff_ne.mpr c156
                               have c156b1 : ((t191.length : Int) != 0) = true := bne_iff_ne.mpr c156
                               have c156b2 : ¬ (t191 = []) := fun h_ => c156 (by rw [h_]; rfl)
                               as_aux_lemma =>
                                obtain rfl := Option.some.inj H
                                obtain ⟨Ao161, co161, eo161⟩ := Kd.R_slice HO_17.out
                                subst eo161
                                go_wp2
                                go_ret
                                exact ⟨by first | rfl | (simp [errW_none, errW_some] <;> rfl) | (simp only [← hji7, ← hji10]; first | rfl | (simp [errW_none, errW_some] <;> rfl)) | (simp [*, errW_none, errW_some] <;> rfl), xW HB⟩
                             ·rw [if_neg c155] at H
                              have c155b0 : (t194 == x11_57) = false := beq_eq_false_iff_ne.mpr c155
                              have c155b1 : (t194 != x11_57) = true := bne_iff_ne.mpr c155
                              as_aux_lemma =>
                               obtain rfl := Option.some.inj H
                               go_wp2
                               go_ret
                               exact ⟨by first | rfl | (simp [errW_none, errW_some] <;> rfl) | (simp only [← hji7, ← hji10]; first | rfl | (simp [errW_none, errW_some] <;> rfl)) | (simp [*, errW_none, errW_some] <;> rfl), xW HB⟩
                       ·rw [if_neg c44] at H
                        exact absurd H (by simp)
                      ·rw [if_neg c43] at H
                       exact absurd H (by simp)
                     ·as_aux_lemma =>
                      rw [if_neg c42] at H
                      have c42b0 : decide (x98_5 < (y170.length : Int)) = false := decide_eq_false c42
                      clear c42
                      by_cases c162 : t177 = 0
                      ·as_aux_lemma =>
                       rw [if_pos c162] at H
                       have c162b0 : (t177 == 0) = true := beq_iff_eq.mpr c162
                       have c162b1 : (t177 != 0) = false := bne_eq_false_iff_eq.mpr c162
                       clear c162; replace H := Option.bind_eq_some_iff.mp H
                       obtain ⟨t188, A1630, H⟩ := H
                       replace H : (some t188) = some r := H
                       have A163 := Aside0.mk A1630; clear A1630
                       as_aux_lemma =>
                        obtain rfl := Option.some.inj H
                        obtain ⟨Ao164, co164, eo164⟩ := Kd.R_slice HO_9.out
                        subst eo164
                        obtain ⟨Ao165, co165, eo165⟩ := Kd.R_slice HO_14.out
                        subst eo165
                        go_wp2_with (first | (go_at_call 19; (with_reducible refine (gamehalllaw3_sameInts.calls k5 _ _ t176 _ _ x14_5 t188 _ ?side1 ?side2 ?side3 ?side4 A163.out).mono ?_); (case side1 => repeat (first | exact (Kd.R_reads' HO_9.out).2.2 | (with_reducible refine Kd.C_alloc ?_ _) | (with_reducible refine Kd.C_drewN ?_ _) | (with_reducible refine Kd.C_drew ?_))); (case side2 => exact (Kd.R_reads' HO_9.out).2.1); (case side3 => repeat (first | exact (Kd.R_reads' HO_14.out).2.2 | (with_reducible refine Kd.C_alloc ?_ _) | (with_reducible refine Kd.C_drewN ?_ _) | (with_reducible refine Kd.C_drew ?_))); (case side4 => exact (Kd.R_reads' HO_14.out).2.1); rintro e w' ⟨rfl, ⟨nd, rfl⟩⟩))
                        go_ret
                        exact ⟨by first | rfl | (simp [errW_none, errW_some] <;> rfl) | (simp only [← hji7, ← hji10]; first | rfl | (simp [errW_none, errW_some] <;> rfl)) | (simp [*, errW_none, errW_some] <;> rfl), xW HB⟩
                      ·rw [if_neg c162] at H
                       have c162b0 : (t177 == 0) = false := beq_eq_false_iff_ne.mpr c162
                       have c162b1 : (t177 != 0) = true := bne_iff_ne.mpr c162
                       as_aux_lemma =>
                        obtain rfl := Option.some.inj H
                        go_wp2
                        go_ret
                        exact ⟨by first | rfl | (simp [errW_none, errW_some] <;> rfl) | (simp only [← hji7, ← hji10]; first | rfl | (simp [errW_none, errW_some] <;> rfl)) | (simp [*, errW_none, errW_some] <;> rfl), xW HB⟩
                  ·rw [if_neg c38] at H
                   exact absurd H (by simp)
                 ·as_aux_lemma =>
                  rw [if_neg c37] at H
                  have c37b0 : (x11_4 == 0) = false := beq_eq_false_iff_ne.mpr c37
                  have c37b1 : (x11_4 != 0) = true := bne_iff_ne.mpr c37
                  by_cases c166 : t177 = x11_4
                  ·rw [if_pos c166] at H
                   have c166b0 : (t177 == x11_4) = true := beq_iff_eq.mpr c166
                   have c166b1 : (t177 != x11_4) = false := bne_eq_false_iff_eq.mpr c166
                   clear c166
                   as_aux_lemma =>
                    obtain rfl := Option.some.inj H
                    go_wp2_with (first | ((with_reducible refine gate_callee (f := 16) rfl ?_); refine goesL_ (some 80) rfl rfl Tryd.func16 kr_ rfl #[.slice A0 y166.length c0] rfl (by (try simp only [List.map_toArray, List.map_cons, List.map_nil]); first | done | rfl | (simp only [List.length_drop, List.length_take]; rfl)) ?_; (with_reducible refine (rating_Check.calls k4 _ _ y166 t181 _ ?side1 ?side2 A35.out).mono ?_); (case side1 => exact xC (Kd.C_below HR169.out HB.out)); (case side2 => exact HC169.out); rintro e w' ⟨rfl, ⟨nd, rfl⟩⟩; refine ⟨_, rfl, ?_⟩; obtain ⟨Ao167, co167, eo167⟩ := Kd.R_slice HO_9.out; subst eo167))
                    go_ret
                    exact ⟨by first | rfl | (simp [errW_none, errW_some] <;> rfl) | (simp only [← hji7, ← hji10]; first | rfl | (simp [errW_none, errW_some] <;> rfl)) | (simp [*, errW_none, errW_some] <;> rfl), xW HB⟩
                  ·rw [if_neg c166] at H
                   have c166b0 : (t177 == x11_4) = false := beq_eq_false_iff_ne.mpr c166
                   have c166b1 : (t177 != x11_4) = true := bne_iff_ne.mpr c166
                   as_aux_lemma =>
                    obtain rfl := Option.some.inj H
                    go_wp2_with (first | ((with_reducible refine gate_callee (f := 16) rfl ?_); refine goesL_ (some 80) rfl rfl Tryd.func16 kr_ rfl #[.slice A0 y166.length c0] rfl (by (try simp only [List.map_toArray, List.map_cons, List.map_nil]); first | done | rfl | (simp only [List.length_drop, List.length_take]; rfl)) ?_; (with_reducible refine (rating_Check.calls k4 _ _ y166 t181 _ ?side1 ?side2 A35.out).mono ?_); (case side1 => exact xC (Kd.C_below HR169.out HB.out)); (case side2 => exact HC169.out); rintro e w' ⟨rfl, ⟨nd, rfl⟩⟩; refine ⟨_, rfl, ?_⟩))
                    go_ret
                    exact ⟨by first | rfl | (simp [errW_none, errW_some] <;> rfl) | (simp only [← hji7, ← hji10]; first | rfl | (simp [errW_none, errW_some] <;> rfl)) | (simp [*, errW_none, errW_some] <;> rfl), xW HB⟩
                ·rw [if_neg c36] at H
                 have c36b0 : (t181 == x11_4) = false := beq_eq_false_iff_ne.mpr c36
                 have c36b1 : (t181 != x11_4) = true := bne_iff_ne.mpr c36
                 as_aux_lemma =>
                  obtain rfl := Option.some.inj H
                  go_wp2_with (first | ((with_reducible refine gate_callee (f := 16) rfl ?_); refine goesL_ (some 80) rfl rfl Tryd.func16 kr_ rfl #[.slice A0 y166.length c0] rfl (by (try simp only [List.map_toArray, List.map_cons, List.map_nil]); first | done | rfl | (simp only [List.length_drop, List.length_take]; rfl)) ?_; (with_reducible refine (rating_Check.calls k4 _ _ y166 t181 _ ?side1 ?side2 A35.out).mono ?_); (case side1 => exact xC (Kd.C_below HR169.out HB.out)); (case side2 => exact HC169.out); rintro e w' ⟨rfl, ⟨nd, rfl⟩⟩; refine ⟨_, rfl, ?_⟩))
                  go_ret
                  exact ⟨by first | rfl | (simp [errW_none, errW_some] <;> rfl) | (simp only [← hji7, ← hji10]; first | rfl | (simp [errW_none, errW_some] <;> rfl)) | (simp [*, errW_none, errW_some] <;> rfl), xW HB⟩
     ·rw [if_neg c12] at H
      exact absurd H (by simp)
    ·rw [if_neg c11] at H
     exact absurd H (by simp)
   ·rw [if_neg c9] at H
    exact absurd H (by simp)
  ·rw [if_neg c8] at H
   exact absurd H (by simp)
 ·replace c6 := Bool.eq_false_iff.mpr c6
  subst c6
  rw [if_neg (show ¬ (false = true) by decide)] at H
  as_aux_lemma =>
   obtain rfl := Option.some.inj H
   go_enter Tryd.func4, Tryd.ntmps4
   go_wp2_with (first | ((with_reducible refine gate_callee (f := 12) rfl ?_); refine goesL_ (some 22) rfl rfl Tryd.func12 kr_ rfl #[] rfl (by (try simp only [List.map_toArray, List.map_cons, List.map_nil]); first | done | rfl | (simp only [List.length_drop, List.length_take]; rfl)) ?_; (with_reducible refine (gamehalllaw3_rates.calls k  false _ A5.out ?sideL).mono ?_); (case sideL => exact xL hlaid); rintro e w' ⟨rfl, ⟨nd, rfl⟩⟩; refine ⟨_, rfl, ?_⟩))
   go_ret
   exact ⟨xer, xW HB⟩
def wf41 (x : S41) : Prop := ((Lit.int .i64 x.f0).wf = true) ∧ (((Lit.int .i64 x.f1).wf = true) ∧ (((Lit.int .i64 x.f2).wf = true)))
theorem tells41 {W : World} : Tells Tryd.prog W 41 k41 wf41 := tells_iso (fun a => ⟨a.1, a.2.1, a.2.2⟩) (fun _ => rfl) (fun _ h => h) (tells_struct (l := [(3, 0), (3, 1), (3, 2)]) Tryd.underlying41 kr_ (tellsFs_cons (tells_int Tryd.underlying3) kr_ (tellsFs_cons (tells_int Tryd.underlying3) kr_ (tellsFs_one (tells_int Tryd.underlying3) kr_))) kr_)

/-- THE ONE PURE STATEMENT of gamehalllaw3_RatingMoves: yours. -/
def gamehalllaw3_RatingMoves.Pure : Prop := ∀ (l0 : List Int) (l1 : List (S41)) (a2 : Int) (a3 : Int), (l0.length * 8 ≤ 140737488351232 ∧ ∀ y_ ∈ l0, (Lit.int .i64 y_).wf = true) → (l1.length * 24 ≤ 140737488351232 ∧ ∀ y_ ∈ l1, wf41 y_) → ((Lit.int .i64 a2).wf = true) → ((Lit.int .i64 a3).wf = true) → ∃ k, gamehalllaw3_RatingMoves.f k l0 l1 a2 a3 = some true
theorem gamehalllaw3_RatingMoves.walk (P : gamehalllaw3_RatingMoves.Pure) (l0 : List Int) (A0 : Option Addr) (c0 : Nat) (l1 : List (S41)) (A1 : Option Addr) (c1 : Nat) (a2 : Int) (a3 : Int) (w : World) (hr0 : Kd.C (Kd.int .i64) w A0 l0.length l0) (hc0 : l0.length ≤ c0) (w0 : l0.length * 8 ≤ 140737488351232 ∧ ∀ y_ ∈ l0, (Lit.int .i64 y_).wf = true) (hr1 : Kd.C k41 w A1 l1.length l1) (hc1 : l1.length ≤ c1) (w1 : l1.length * 24 ≤ 140737488351232 ∧ ∀ y_ ∈ l1, wf41 y_) (w2 : (Lit.int .i64 a2).wf = true) (w3 : (Lit.int .i64 a3).wf = true) (hlaid : LaidS w) :
  Calls Tryd.prog 4 #[.slice A0 l0.length c0, .slice A1 l1.length c1, .int .i64 a2, .int .i64 a3] w fun e w' => e = .returned (.bool true) ∧ Below w.heap.size w w' := by
 obtain ⟨k, h⟩ := P l0 l1 a2 a3 w0 w1 w2 w3
 refine (gamehalllaw3_RatingMoves.calls k A0 c0 l0 A1 c1 l1 a2 a3 true w hr0 hc0 hr1 hc1 h hlaid).mono ?_
 rintro e w' ⟨rfl, hd⟩
 exact ⟨rfl, hd⟩

end Go.Proofs.YtcncilipmekfhaaDoor.PRatingMoves
