-- Printed by a program of this claim's writer (wip/ext): an extension of the kit's print.
import Derived.Test.YteooljkamebenaaPKnockoutPlaysx0
import Derived.Test.YteooljkamebenaaPKnockoutPlaysx2
import Derived.Test.YteooljkamebenaaPKnockoutPlaysx3
import Derived.Test.YteooljkamebenaaPKnockoutPlaysx4
import Derived.Test.YteooljkamebenaaPKnockoutPlaysx5
namespace Go.Proofs.Yteooljkamebenaa.PKnockoutPlays
open Go.RowKit Go.Proofs.YteooljkamebenaaW.PrintWords Go.Proofs.YteooljkamebenaaW.PrintLast Go.Proofs.YteooljkamebenaaW.PrintMore
attribute [local go_sem] max2_int min2_int max_two min_two max_three min_three max_four min_four   -- for this text's walks alone
set_option linter.unusedVariables false
set_option linter.unusedSimpArgs false

/-! ### gamehalllaw3_KnockoutPlays: function 5 -/
mutual
def gamehalllaw3_KnockoutPlays.j0 : Nat → Int → List Int → Int → Int → Int → Int → List Int → Int → List (S148) → Int → Int → Int → Int → Bool → Option (Bool)
  | 0, _, _, _, _, _, _, _, _, _, _, _, _, _, _ => none
  | k + 1, x0, x1, x2, x3, x9, x10, x11, x12, x13, x14, x15, x16, x17, x61 => if x61 = true then (if x10 = 4 then (if x12 = x10 then (if x15 = x10 then (if x17 = x10 then (some ((wrap64 ((wrap64 ((wrap64 ((wrap64 (x9 + (x11.length : Int))) + (x13.length : Int))) + x14)) + x16)) == 0)) else (some false)) else (some false)) else (some false)) else (some false)) else (gamehalllaw3_KnockoutPlays.l0 k x0 x1 x2 x3 x9 x10 x11 x12 x13 x14 x15 x16 x17 1)
def gamehalllaw3_KnockoutPlays.l0 : Nat → Int → List Int → Int → Int → Int → Int → List Int → Int → List (S148) → Int → Int → Int → Int → Int → Option (Bool)
  | 0, _, _, _, _, _, _, _, _, _, _, _, _, _, _ => none
  | k + 1, x0, x1, x2, x3, x9, x10, x11, x12, x13, x14, x15, x16, x17, x18 => if 0 ≤ x18 then (if (shl .i64 1 x18) < x0 then (gamehalllaw3_KnockoutPlays.l0 k x0 x1 x2 x3 x9 x10 x11 x12 x13 x14 x15 x16 x17 (wrap64 (x18 + 1))) else (if x10 = 0 then (if x9 = x18 then (if x12 = 0 then (if 0 ≤ x9 then (gamehalllaw3_KnockoutPlays.j2 k x0 x1 x2 x3 x9 x11 x13 x14 x15 x16 x17 ((x11.length : Int) != (shl .i64 1 x9))) else (none)) else (gamehalllaw3_KnockoutPlays.j2 k x0 x1 x2 x3 x9 x11 x13 x14 x15 x16 x17 true)) else (gamehalllaw3_KnockoutPlays.j2 k x0 x1 x2 x3 x9 x11 x13 x14 x15 x16 x17 true)) else (gamehalllaw3_KnockoutPlays.j2 k x0 x1 x2 x3 x9 x11 x13 x14 x15 x16 x17 true))) else (none)
def gamehalllaw3_KnockoutPlays.j2 : Nat → Int → List Int → Int → Int → Int → List Int → List (S148) → Int → Int → Int → Int → Bool → Option (Bool)
  | 0, _, _, _, _, _, _, _, _, _, _, _, _ => none
  | k + 1, x0, x1, x2, x3, x9, x11, x13, x14, x15, x16, x17, x116 => if x116 = true then (some false) else (gamehalllaw3_KnockoutPlays.l1 k x0 x1 x2 x3 x9 x11 x13 x14 x15 x16 x17 (-1) (-1) (x11.length : Int) 0)
def gamehalllaw3_KnockoutPlays.l1 : Nat → Int → List Int → Int → Int → Int → List Int → List (S148) → Int → Int → Int → Int → Int → Int → Int → Int → Option (Bool)
  | 0, _, _, _, _, _, _, _, _, _, _, _, _, _, _, _ => none
  | k + 1, x0, x1, x2, x3, x9, x11, x13, x14, x15, x16, x17, x19, x20, x118, x119 => if x119 < x118 then (if 0 ≤ x119 then (if x119 < (x11.length : Int) then ((gamehallref3_Seat.f k x9 x119).bind fun t186 => (if t186 ≥ x0 then (if (rd x11 x119) = (-1) then (if t186 < x0 then (gamehalllaw3_KnockoutPlays.j4 k x0 x1 x2 x3 x9 x11 x13 x14 x15 x16 x17 x19 x20 x119 t186 x118 x119 ((rd x11 x119) != t186)) else (gamehalllaw3_KnockoutPlays.j4 k x0 x1 x2 x3 x9 x11 x13 x14 x15 x16 x17 x19 x20 x119 t186 x118 x119 false)) else (gamehalllaw3_KnockoutPlays.j4 k x0 x1 x2 x3 x9 x11 x13 x14 x15 x16 x17 x19 x20 x119 t186 x118 x119 true)) else (if t186 < x0 then (gamehalllaw3_KnockoutPlays.j4 k x0 x1 x2 x3 x9 x11 x13 x14 x15 x16 x17 x19 x20 x119 t186 x118 x119 ((rd x11 x119) != t186)) else (gamehalllaw3_KnockoutPlays.j4 k x0 x1 x2 x3 x9 x11 x13 x14 x15 x16 x17 x19 x20 x119 t186 x118 x119 false)))) else (none)) else (none)) else (if (mn x2 x3) < 0 then (gamehalllaw3_KnockoutPlays.j5 k x1 x11 x13 x14 x15 x16 x17 x19 x20 true) else (if (mx x2 x3) ≥ x0 then (gamehalllaw3_KnockoutPlays.j5 k x1 x11 x13 x14 x15 x16 x17 x19 x20 true) else (gamehalllaw3_KnockoutPlays.j5 k x1 x11 x13 x14 x15 x16 x17 x19 x20 (x2 == x3))))
def gamehalllaw3_KnockoutPlays.j4 : Nat → Int → List Int → Int → Int → Int → List Int → List (S148) → Int → Int → Int → Int → Int → Int → Int → Int → Int → Int → Bool → Option (Bool)
  | 0, _, _, _, _, _, _, _, _, _, _, _, _, _, _, _, _, _, _ => none
  | k + 1, x0, x1, x2, x3, x9, x11, x13, x14, x15, x16, x17, x19, x20, x21, x23, x118, x119, x143 => if x143 = true then (some false) else (if x23 = x2 then (if x23 = x3 then (gamehalllaw3_KnockoutPlays.l1 k x0 x1 x2 x3 x9 x11 x13 x14 x15 x16 x17 x21 x21 x118 (wrap64 (x119 + 1))) else (gamehalllaw3_KnockoutPlays.l1 k x0 x1 x2 x3 x9 x11 x13 x14 x15 x16 x17 x21 x20 x118 (wrap64 (x119 + 1)))) else (if x23 = x3 then (gamehalllaw3_KnockoutPlays.l1 k x0 x1 x2 x3 x9 x11 x13 x14 x15 x16 x17 x19 x21 x118 (wrap64 (x119 + 1))) else (gamehalllaw3_KnockoutPlays.l1 k x0 x1 x2 x3 x9 x11 x13 x14 x15 x16 x17 x19 x20 x118 (wrap64 (x119 + 1)))))
def gamehalllaw3_KnockoutPlays.j5 : Nat → List Int → List Int → List (S148) → Int → Int → Int → Int → Int → Int → Bool → Option (Bool)
  | 0, _, _, _, _, _, _, _, _, _, _ => none
  | k + 1, x1, x11, x13, x14, x15, x16, x17, x19, x20, x168 => if x168 = true then (if x17 = 1 then (if x16 = 0 then ((gamehalllaw3_played.f k x11 x1 x13 x14 x15).bind fun t187 => (some t187)) else (some false)) else (some false)) else (gamehalllaw3_KnockoutPlays.l2 k x1 x11 x13 x14 x15 x16 x17 x19 x20 0)
def gamehalllaw3_KnockoutPlays.l2 : Nat → List Int → List Int → List (S148) → Int → Int → Int → Int → Int → Int → Int → Option (Bool)
  | 0, _, _, _, _, _, _, _, _, _, _ => none
  | k + 1, x1, x11, x13, x14, x15, x16, x17, x19, x20, x24 => if 0 ≤ (wrap64 (x24 + 1)) then (if (shr .i64 x19 (wrap64 (x24 + 1))) = (shr .i64 x20 (wrap64 (x24 + 1))) then (if x17 = 0 then (if x16 = x24 then ((gamehalllaw3_played.f k x11 x1 x13 x14 x15).bind fun t188 => (some t188)) else (some false)) else (some false)) else (gamehalllaw3_KnockoutPlays.l2 k x1 x11 x13 x14 x15 x16 x17 x19 x20 (wrap64 (x24 + 1)))) else (none)
end
def gamehalllaw3_KnockoutPlays.f (k : Nat) (a0 : Int) (l1 : List Int) (a2 : Int) (a3 : Int) : Option (Bool) := (gamehalllaw3_brackets.f k).bind fun t170 => (if t170 = true then (if 0 ≤ (mn (l1.length : Int) 40) then (if (mn (l1.length : Int) 40) ≤ (l1.length : Int) then ((knockout_Rounds.f k a0).bind fun bt172 => ((knockout_Seeds.f k a0).bind fun bt174 => ((knockout_Play.f k a0 (l1.take ((mn (l1.length : Int) 40) : Int).toNat)).bind fun bt178 => ((knockout_Meet.f k a0 a2 a3).bind fun bt183 => (if a0 < 2 then (gamehalllaw3_KnockoutPlays.j0 k a0 (l1.take ((mn (l1.length : Int) 40) : Int).toNat) a2 a3 bt172.1 bt172.2 bt174.1 bt174.2 bt178.1 bt178.2.1 bt178.2.2 bt183.1 bt183.2 true) else (gamehalllaw3_KnockoutPlays.j0 k a0 (l1.take ((mn (l1.length : Int) 40) : Int).toNat) a2 a3 bt172.1 bt172.2 bt174.1 bt174.2 bt178.1 bt178.2.1 bt178.2.2 bt183.1 bt183.2 (decide (a0 > 32)))))))) else (none)) else (none)) else (some false))
theorem gamehalllaw3_KnockoutPlays.mono_l : ∀ k, (∀ y0 y1 y2 y3 y4 y5 y6 y7 y8 y9 y10 y11 y12 y13, LeO (gamehalllaw3_KnockoutPlays.j0 k y0 y1 y2 y3 y4 y5 y6 y7 y8 y9 y10 y11 y12 y13) (gamehalllaw3_KnockoutPlays.j0 (k + 1) y0 y1 y2 y3 y4 y5 y6 y7 y8 y9 y10 y11 y12 y13)) ∧ (∀ y0 y1 y2 y3 y4 y5 y6 y7 y8 y9 y10 y11 y12 y13, LeO (gamehalllaw3_KnockoutPlays.l0 k y0 y1 y2 y3 y4 y5 y6 y7 y8 y9 y10 y11 y12 y13) (gamehalllaw3_KnockoutPlays.l0 (k + 1) y0 y1 y2 y3 y4 y5 y6 y7 y8 y9 y10 y11 y12 y13)) ∧ (∀ y0 y1 y2 y3 y4 y5 y6 y7 y8 y9 y10 y11, LeO (gamehalllaw3_KnockoutPlays.j2 k y0 y1 y2 y3 y4 y5 y6 y7 y8 y9 y10 y11) (gamehalllaw3_KnockoutPlays.j2 (k + 1) y0 y1 y2 y3 y4 y5 y6 y7 y8 y9 y10 y11)) ∧ (∀ y0 y1 y2 y3 y4 y5 y6 y7 y8 y9 y10 y11 y12 y13 y14, LeO (gamehalllaw3_KnockoutPlays.l1 k y0 y1 y2 y3 y4 y5 y6 y7 y8 y9 y10 y11 y12 y13 y14) (gamehalllaw3_KnockoutPlays.l1 (k + 1) y0 y1 y2 y3 y4 y5 y6 y7 y8 y9 y10 y11 y12 y13 y14)) ∧ (∀ y0 y1 y2 y3 y4 y5 y6 y7 y8 y9 y10 y11 y12 y13 y14 y15 y16 y17, LeO (gamehalllaw3_KnockoutPlays.j4 k y0 y1 y2 y3 y4 y5 y6 y7 y8 y9 y10 y11 y12 y13 y14 y15 y16 y17) (gamehalllaw3_KnockoutPlays.j4 (k + 1) y0 y1 y2 y3 y4 y5 y6 y7 y8 y9 y10 y11 y12 y13 y14 y15 y16 y17)) ∧ (∀ y0 y1 y2 y3 y4 y5 y6 y7 y8 y9, LeO (gamehalllaw3_KnockoutPlays.j5 k y0 y1 y2 y3 y4 y5 y6 y7 y8 y9) (gamehalllaw3_KnockoutPlays.j5 (k + 1) y0 y1 y2 y3 y4 y5 y6 y7 y8 y9)) ∧ (∀ y0 y1 y2 y3 y4 y5 y6 y7 y8 y9, LeO (gamehalllaw3_KnockoutPlays.l2 k y0 y1 y2 y3 y4 y5 y6 y7 y8 y9) (gamehalllaw3_KnockoutPlays.l2 (k + 1) y0 y1 y2 y3 y4 y5 y6 y7 y8 y9))
  | 0 => ⟨fun _ _ _ _ _ _ _ _ _ _ _ _ _ _ r h => by simp [gamehalllaw3_KnockoutPlays.j0] at h, fun _ _ _ _ _ _ _ _ _ _ _ _ _ _ r h => by simp [gamehalllaw3_KnockoutPlays.l0] at h, fun _ _ _ _ _ _ _ _ _ _ _ _ r h => by simp [gamehalllaw3_KnockoutPlays.j2] at h, fun _ _ _ _ _ _ _ _ _ _ _ _ _ _ _ r h => by simp [gamehalllaw3_KnockoutPlays.l1] at h, fun _ _ _ _ _ _ _ _ _ _ _ _ _ _ _ _ _ _ r h => by simp [gamehalllaw3_KnockoutPlays.j4] at h, fun _ _ _ _ _ _ _ _ _ _ r h => by simp [gamehalllaw3_KnockoutPlays.j5] at h, fun _ _ _ _ _ _ _ _ _ _ r h => by simp [gamehalllaw3_KnockoutPlays.l2] at h⟩
  | k + 1 => by
    obtain ⟨ih0, ih1, ih2, ih3, ih4, ih5, ih6⟩ := gamehalllaw3_KnockoutPlays.mono_l k
    refine ⟨?_, ?_, ?_, ?_, ?_, ?_, ?_⟩
    · intro y0 y1 y2 y3 y4 y5 y6 y7 y8 y9 y10 y11 y12 y13
      unfold gamehalllaw3_KnockoutPlays.j0
      repeat' first
      | (with_reducible exact ih0 _ _ _ _ _ _ _ _ _ _ _ _ _ _)
      | (with_reducible exact ih1 _ _ _ _ _ _ _ _ _ _ _ _ _ _)
      | (with_reducible exact ih2 _ _ _ _ _ _ _ _ _ _ _ _)
      | (with_reducible exact ih3 _ _ _ _ _ _ _ _ _ _ _ _ _ _ _)
      | (with_reducible exact ih4 _ _ _ _ _ _ _ _ _ _ _ _ _ _ _ _ _ _)
      | (with_reducible exact ih5 _ _ _ _ _ _ _ _ _ _)
      | (with_reducible exact ih6 _ _ _ _ _ _ _ _ _ _)
      | (with_reducible exact gamehalllaw3_brackets.mono _)
      | (with_reducible exact gamehalllaw3_played.mono _ _ _ _ _ _)
      | (with_reducible exact gamehallref3_Seat.mono _ _ _)
      | (with_reducible exact knockout_Meet.mono _ _ _ _)
      | (with_reducible exact knockout_Play.mono _ _ _)
      | (with_reducible exact knockout_Rounds.mono _ _)
      | (with_reducible exact knockout_Seeds.mono _ _)
      | (with_reducible exact LeO.refl _)
      | (with_reducible exact LeO.none _)
      | (with_reducible refine LeO.ite ?_ ?_)
      | (with_reducible refine LeO.bind ?_ (fun _ => ?_))
      | exact ih0 _ _ _ _ _ _ _ _ _ _ _ _ _ _
      | exact ih1 _ _ _ _ _ _ _ _ _ _ _ _ _ _
      | exact ih2 _ _ _ _ _ _ _ _ _ _ _ _
      | exact ih3 _ _ _ _ _ _ _ _ _ _ _ _ _ _ _
      | exact ih4 _ _ _ _ _ _ _ _ _ _ _ _ _ _ _ _ _ _
      | exact ih5 _ _ _ _ _ _ _ _ _ _
      | exact ih6 _ _ _ _ _ _ _ _ _ _
      | exact gamehalllaw3_brackets.mono _
      | exact gamehalllaw3_played.mono _ _ _ _ _ _
      | exact gamehallref3_Seat.mono _ _ _
      | exact knockout_Meet.mono _ _ _ _
      | exact knockout_Play.mono _ _ _
      | exact knockout_Rounds.mono _ _
      | exact knockout_Seeds.mono _ _
      | exact LeO.none _
      | refine LeO.ite ?_ ?_
      | refine LeO.bind ?_ (fun _ => ?_)
    · intro y0 y1 y2 y3 y4 y5 y6 y7 y8 y9 y10 y11 y12 y13
      unfold gamehalllaw3_KnockoutPlays.l0
      repeat' first
      | (with_reducible exact ih0 _ _ _ _ _ _ _ _ _ _ _ _ _ _)
      | (with_reducible exact ih1 _ _ _ _ _ _ _ _ _ _ _ _ _ _)
      | (with_reducible exact ih2 _ _ _ _ _ _ _ _ _ _ _ _)
      | (with_reducible exact ih3 _ _ _ _ _ _ _ _ _ _ _ _ _ _ _)
      | (with_reducible exact ih4 _ _ _ _ _ _ _ _ _ _ _ _ _ _ _ _ _ _)
      | (with_reducible exact ih5 _ _ _ _ _ _ _ _ _ _)
      | (with_reducible exact ih6 _ _ _ _ _ _ _ _ _ _)
      | (with_reducible exact gamehalllaw3_brackets.mono _)
      | (with_reducible exact gamehalllaw3_played.mono _ _ _ _ _ _)
      | (with_reducible exact gamehallref3_Seat.mono _ _ _)
      | (with_reducible exact knockout_Meet.mono _ _ _ _)
      | (with_reducible exact knockout_Play.mono _ _ _)
      | (with_reducible exact knockout_Rounds.mono _ _)
      | (with_reducible exact knockout_Seeds.mono _ _)
      | (with_reducible exact LeO.refl _)
      | (with_reducible exact LeO.none _)
      | (with_reducible refine LeO.ite ?_ ?_)
      | (with_reducible refine LeO.bind ?_ (fun _ => ?_))
      | exact ih0 _ _ _ _ _ _ _ _ _ _ _ _ _ _
      | exact ih1 _ _ _ _ _ _ _ _ _ _ _ _ _ _
      | exact ih2 _ _ _ _ _ _ _ _ _ _ _ _
      | exact ih3 _ _ _ _ _ _ _ _ _ _ _ _ _ _ _
      | exact ih4 _ _ _ _ _ _ _ _ _ _ _ _ _ _ _ _ _ _
      | exact ih5 _ _ _ _ _ _ _ _ _ _
      | exact ih6 _ _ _ _ _ _ _ _ _ _
      | exact gamehalllaw3_brackets.mono _
      | exact gamehalllaw3_played.mono _ _ _ _ _ _
      | exact gamehallref3_Seat.mono _ _ _
      | exact knockout_Meet.mono _ _ _ _
      | exact knockout_Play.mono _ _ _
      | exact knockout_Rounds.mono _ _
      | exact knockout_Seeds.mono _ _
      | exact LeO.none _
      | refine LeO.ite ?_ ?_
      | refine LeO.bind ?_ (fun _ => ?_)
    · intro y0 y1 y2 y3 y4 y5 y6 y7 y8 y9 y10 y11
      unfold gamehalllaw3_KnockoutPlays.j2
      repeat' first
      | (with_reducible exact ih0 _ _ _ _ _ _ _ _ _ _ _ _ _ _)
      | (with_reducible exact ih1 _ _ _ _ _ _ _ _ _ _ _ _ _ _)
      | (with_reducible exact ih2 _ _ _ _ _ _ _ _ _ _ _ _)
      | (with_reducible exact ih3 _ _ _ _ _ _ _ _ _ _ _ _ _ _ _)
      | (with_reducible exact ih4 _ _ _ _ _ _ _ _ _ _ _ _ _ _ _ _ _ _)
      | (with_reducible exact ih5 _ _ _ _ _ _ _ _ _ _)
      | (with_reducible exact ih6 _ _ _ _ _ _ _ _ _ _)
      | (with_reducible exact gamehalllaw3_brackets.mono _)
      | (with_reducible exact gamehalllaw3_played.mono _ _ _ _ _ _)
      | (with_reducible exact gamehallref3_Seat.mono _ _ _)
      | (with_reducible exact knockout_Meet.mono _ _ _ _)
      | (with_reducible exact knockout_Play.mono _ _ _)
      | (with_reducible exact knockout_Rounds.mono _ _)
      | (with_reducible exact knockout_Seeds.mono _ _)
      | (with_reducible exact LeO.refl _)
      | (with_reducible exact LeO.none _)
      | (with_reducible refine LeO.ite ?_ ?_)
      | (with_reducible refine LeO.bind ?_ (fun _ => ?_))
      | exact ih0 _ _ _ _ _ _ _ _ _ _ _ _ _ _
      | exact ih1 _ _ _ _ _ _ _ _ _ _ _ _ _ _
      | exact ih2 _ _ _ _ _ _ _ _ _ _ _ _
      | exact ih3 _ _ _ _ _ _ _ _ _ _ _ _ _ _ _
      | exact ih4 _ _ _ _ _ _ _ _ _ _ _ _ _ _ _ _ _ _
      | exact ih5 _ _ _ _ _ _ _ _ _ _
      | exact ih6 _ _ _ _ _ _ _ _ _ _
      | exact gamehalllaw3_brackets.mono _
      | exact gamehalllaw3_played.mono _ _ _ _ _ _
      | exact gamehallref3_Seat.mono _ _ _
      | exact knockout_Meet.mono _ _ _ _
      | exact knockout_Play.mono _ _ _
      | exact knockout_Rounds.mono _ _
      | exact knockout_Seeds.mono _ _
      | exact LeO.none _
      | refine LeO.ite ?_ ?_
      | refine LeO.bind ?_ (fun _ => ?_)
    · intro y0 y1 y2 y3 y4 y5 y6 y7 y8 y9 y10 y11 y12 y13 y14
      unfold gamehalllaw3_KnockoutPlays.l1
      repeat' first
      | (with_reducible exact ih0 _ _ _ _ _ _ _ _ _ _ _ _ _ _)
      | (with_reducible exact ih1 _ _ _ _ _ _ _ _ _ _ _ _ _ _)
      | (with_reducible exact ih2 _ _ _ _ _ _ _ _ _ _ _ _)
      | (with_reducible exact ih3 _ _ _ _ _ _ _ _ _ _ _ _ _ _ _)
      | (with_reducible exact ih4 _ _ _ _ _ _ _ _ _ _ _ _ _ _ _ _ _ _)
      | (with_reducible exact ih5 _ _ _ _ _ _ _ _ _ _)
      | (with_reducible exact ih6 _ _ _ _ _ _ _ _ _ _)
      | (with_reducible exact gamehalllaw3_brackets.mono _)
      | (with_reducible exact gamehalllaw3_played.mono _ _ _ _ _ _)
      | (with_reducible exact gamehallref3_Seat.mono _ _ _)
      | (with_reducible exact knockout_Meet.mono _ _ _ _)
      | (with_reducible exact knockout_Play.mono _ _ _)
      | (with_reducible exact knockout_Rounds.mono _ _)
      | (with_reducible exact knockout_Seeds.mono _ _)
      | (with_reducible exact LeO.refl _)
      | (with_reducible exact LeO.none _)
      | (with_reducible refine LeO.ite ?_ ?_)
      | (with_reducible refine LeO.bind ?_ (fun _ => ?_))
      | exact ih0 _ _ _ _ _ _ _ _ _ _ _ _ _ _
      | exact ih1 _ _ _ _ _ _ _ _ _ _ _ _ _ _
      | exact ih2 _ _ _ _ _ _ _ _ _ _ _ _
      | exact ih3 _ _ _ _ _ _ _ _ _ _ _ _ _ _ _
      | exact ih4 _ _ _ _ _ _ _ _ _ _ _ _ _ _ _ _ _ _
      | exact ih5 _ _ _ _ _ _ _ _ _ _
      | exact ih6 _ _ _ _ _ _ _ _ _ _
      | exact gamehalllaw3_brackets.mono _
      | exact gamehalllaw3_played.mono _ _ _ _ _ _
      | exact gamehallref3_Seat.mono _ _ _
      | exact knockout_Meet.mono _ _ _ _
      | exact knockout_Play.mono _ _ _
      | exact knockout_Rounds.mono _ _
      | exact knockout_Seeds.mono _ _
      | exact LeO.none _
      | refine LeO.ite ?_ ?_
      | refine LeO.bind ?_ (fun _ => ?_)
    · intro y0 y1 y2 y3 y4 y5 y6 y7 y8 y9 y10 y11 y12 y13 y14 y15 y16 y17
      unfold gamehalllaw3_KnockoutPlays.j4
      repeat' first
      | (with_reducible exact ih0 _ _ _ _ _ _ _ _ _ _ _ _ _ _)
      | (with_reducible exact ih1 _ _ _ _ _ _ _ _ _ _ _ _ _ _)
      | (with_reducible exact ih2 _ _ _ _ _ _ _ _ _ _ _ _)
      | (with_reducible exact ih3 _ _ _ _ _ _ _ _ _ _ _ _ _ _ _)
      | (with_reducible exact ih4 _ _ _ _ _ _ _ _ _ _ _ _ _ _ _ _ _ _)
      | (with_reducible exact ih5 _ _ _ _ _ _ _ _ _ _)
      | (with_reducible exact ih6 _ _ _ _ _ _ _ _ _ _)
      | (with_reducible exact gamehalllaw3_brackets.mono _)
      | (with_reducible exact gamehalllaw3_played.mono _ _ _ _ _ _)
      | (with_reducible exact gamehallref3_Seat.mono _ _ _)
      | (with_reducible exact knockout_Meet.mono _ _ _ _)
      | (with_reducible exact knockout_Play.mono _ _ _)
      | (with_reducible exact knockout_Rounds.mono _ _)
      | (with_reducible exact knockout_Seeds.mono _ _)
      | (with_reducible exact LeO.refl _)
      | (with_reducible exact LeO.none _)
      | (with_reducible refine LeO.ite ?_ ?_)
      | (with_reducible refine LeO.bind ?_ (fun _ => ?_))
      | exact ih0 _ _ _ _ _ _ _ _ _ _ _ _ _ _
      | exact ih1 _ _ _ _ _ _ _ _ _ _ _ _ _ _
      | exact ih2 _ _ _ _ _ _ _ _ _ _ _ _
      | exact ih3 _ _ _ _ _ _ _ _ _ _ _ _ _ _ _
      | exact ih4 _ _ _ _ _ _ _ _ _ _ _ _ _ _ _ _ _ _
      | exact ih5 _ _ _ _ _ _ _ _ _ _
      | exact ih6 _ _ _ _ _ _ _ _ _ _
      | exact gamehalllaw3_brackets.mono _
      | exact gamehalllaw3_played.mono _ _ _ _ _ _
      | exact gamehallref3_Seat.mono _ _ _
      | exact knockout_Meet.mono _ _ _ _
      | exact knockout_Play.mono _ _ _
      | exact knockout_Rounds.mono _ _
      | exact knockout_Seeds.mono _ _
      | exact LeO.none _
      | refine LeO.ite ?_ ?_
      | refine LeO.bind ?_ (fun _ => ?_)
    · intro y0 y1 y2 y3 y4 y5 y6 y7 y8 y9
      unfold gamehalllaw3_KnockoutPlays.j5
      repeat' first
      | (with_reducible exact ih0 _ _ _ _ _ _ _ _ _ _ _ _ _ _)
      | (with_reducible exact ih1 _ _ _ _ _ _ _ _ _ _ _ _ _ _)
      | (with_reducible exact ih2 _ _ _ _ _ _ _ _ _ _ _ _)
      | (with_reducible exact ih3 _ _ _ _ _ _ _ _ _ _ _ _ _ _ _)
      | (with_reducible exact ih4 _ _ _ _ _ _ _ _ _ _ _ _ _ _ _ _ _ _)
      | (with_reducible exact ih5 _ _ _ _ _ _ _ _ _ _)
      | (with_reducible exact ih6 _ _ _ _ _ _ _ _ _ _)
      | (with_reducible exact gamehalllaw3_brackets.mono _)
      | (with_reducible exact gamehalllaw3_played.mono _ _ _ _ _ _)
      | (with_reducible exact gamehallref3_Seat.mono _ _ _)
      | (with_reducible exact knockout_Meet.mono _ _ _ _)
      | (with_reducible exact knockout_Play.mono _ _ _)
      | (with_reducible exact knockout_Rounds.mono _ _)
      | (with_reducible exact knockout_Seeds.mono _ _)
      | (with_reducible exact LeO.refl _)
      | (with_reducible exact LeO.none _)
      | (with_reducible refine LeO.ite ?_ ?_)
      | (with_reducible refine LeO.bind ?_ (fun _ => ?_))
      | exact ih0 _ _ _ _ _ _ _ _ _ _ _ _ _ _
      | exact ih1 _ _ _ _ _ _ _ _ _ _ _ _ _ _
      | exact ih2 _ _ _ _ _ _ _ _ _ _ _ _
      | exact ih3 _ _ _ _ _ _ _ _ _ _ _ _ _ _ _
      | exact ih4 _ _ _ _ _ _ _ _ _ _ _ _ _ _ _ _ _ _
      | exact ih5 _ _ _ _ _ _ _ _ _ _
      | exact ih6 _ _ _ _ _ _ _ _ _ _
      | exact gamehalllaw3_brackets.mono _
      | exact gamehalllaw3_played.mono _ _ _ _ _ _
      | exact gamehallref3_Seat.mono _ _ _
      | exact knockout_Meet.mono _ _ _ _
      | exact knockout_Play.mono _ _ _
      | exact knockout_Rounds.mono _ _
      | exact knockout_Seeds.mono _ _
      | exact LeO.none _
      | refine LeO.ite ?_ ?_
      | refine LeO.bind ?_ (fun _ => ?_)
    · intro y0 y1 y2 y3 y4 y5 y6 y7 y8 y9
      unfold gamehalllaw3_KnockoutPlays.l2
      repeat' first
      | (with_reducible exact ih0 _ _ _ _ _ _ _ _ _ _ _ _ _ _)
      | (with_reducible exact ih1 _ _ _ _ _ _ _ _ _ _ _ _ _ _)
      | (with_reducible exact ih2 _ _ _ _ _ _ _ _ _ _ _ _)
      | (with_reducible exact ih3 _ _ _ _ _ _ _ _ _ _ _ _ _ _ _)
      | (with_reducible exact ih4 _ _ _ _ _ _ _ _ _ _ _ _ _ _ _ _ _ _)
      | (with_reducible exact ih5 _ _ _ _ _ _ _ _ _ _)
      | (with_reducible exact ih6 _ _ _ _ _ _ _ _ _ _)
      | (with_reducible exact gamehalllaw3_brackets.mono _)
      | (with_reducible exact gamehalllaw3_played.mono _ _ _ _ _ _)
      | (with_reducible exact gamehallref3_Seat.mono _ _ _)
      | (with_reducible exact knockout_Meet.mono _ _ _ _)
      | (with_reducible exact knockout_Play.mono _ _ _)
      | (with_reducible exact knockout_Rounds.mono _ _)
      | (with_reducible exact knockout_Seeds.mono _ _)
      | (with_reducible exact LeO.refl _)
      | (with_reducible exact LeO.none _)
      | (with_reducible refine LeO.ite ?_ ?_)
      | (with_reducible refine LeO.bind ?_ (fun _ => ?_))
      | exact ih0 _ _ _ _ _ _ _ _ _ _ _ _ _ _
      | exact ih1 _ _ _ _ _ _ _ _ _ _ _ _ _ _
      | exact ih2 _ _ _ _ _ _ _ _ _ _ _ _
      | exact ih3 _ _ _ _ _ _ _ _ _ _ _ _ _ _ _
      | exact ih4 _ _ _ _ _ _ _ _ _ _ _ _ _ _ _ _ _ _
      | exact ih5 _ _ _ _ _ _ _ _ _ _
      | exact ih6 _ _ _ _ _ _ _ _ _ _
      | exact gamehalllaw3_brackets.mono _
      | exact gamehalllaw3_played.mono _ _ _ _ _ _
      | exact gamehallref3_Seat.mono _ _ _
      | exact knockout_Meet.mono _ _ _ _
      | exact knockout_Play.mono _ _ _
      | exact knockout_Rounds.mono _ _
      | exact knockout_Seeds.mono _ _
      | exact LeO.none _
      | refine LeO.ite ?_ ?_
      | refine LeO.bind ?_ (fun _ => ?_)
theorem gamehalllaw3_KnockoutPlays.mono : ∀ a0 a1 a2 a3 k, LeO (gamehalllaw3_KnockoutPlays.f k a0 a1 a2 a3) (gamehalllaw3_KnockoutPlays.f (k + 1) a0 a1 a2 a3) := by
  intro a0 a1 a2 a3 k
  obtain ⟨ih0, ih1, ih2, ih3, ih4, ih5, ih6⟩ := gamehalllaw3_KnockoutPlays.mono_l k
  unfold gamehalllaw3_KnockoutPlays.f
  repeat' first
      | (with_reducible exact ih0 _ _ _ _ _ _ _ _ _ _ _ _ _ _)
      | (with_reducible exact ih1 _ _ _ _ _ _ _ _ _ _ _ _ _ _)
      | (with_reducible exact ih2 _ _ _ _ _ _ _ _ _ _ _ _)
      | (with_reducible exact ih3 _ _ _ _ _ _ _ _ _ _ _ _ _ _ _)
      | (with_reducible exact ih4 _ _ _ _ _ _ _ _ _ _ _ _ _ _ _ _ _ _)
      | (with_reducible exact ih5 _ _ _ _ _ _ _ _ _ _)
      | (with_reducible exact ih6 _ _ _ _ _ _ _ _ _ _)
      | (with_reducible exact gamehalllaw3_brackets.mono _)
      | (with_reducible exact gamehalllaw3_played.mono _ _ _ _ _ _)
      | (with_reducible exact gamehallref3_Seat.mono _ _ _)
      | (with_reducible exact knockout_Meet.mono _ _ _ _)
      | (with_reducible exact knockout_Play.mono _ _ _)
      | (with_reducible exact knockout_Rounds.mono _ _)
      | (with_reducible exact knockout_Seeds.mono _ _)
      | (with_reducible exact LeO.refl _)
      | (with_reducible exact LeO.none _)
      | (with_reducible refine LeO.ite ?_ ?_)
      | (with_reducible refine LeO.bind ?_ (fun _ => ?_))
      | exact ih0 _ _ _ _ _ _ _ _ _ _ _ _ _ _
      | exact ih1 _ _ _ _ _ _ _ _ _ _ _ _ _ _
      | exact ih2 _ _ _ _ _ _ _ _ _ _ _ _
      | exact ih3 _ _ _ _ _ _ _ _ _ _ _ _ _ _ _
      | exact ih4 _ _ _ _ _ _ _ _ _ _ _ _ _ _ _ _ _ _
      | exact ih5 _ _ _ _ _ _ _ _ _ _
      | exact ih6 _ _ _ _ _ _ _ _ _ _
      | exact gamehalllaw3_brackets.mono _
      | exact gamehalllaw3_played.mono _ _ _ _ _ _
      | exact gamehallref3_Seat.mono _ _ _
      | exact knockout_Meet.mono _ _ _ _
      | exact knockout_Play.mono _ _ _
      | exact knockout_Rounds.mono _ _
      | exact knockout_Seeds.mono _ _
      | exact LeO.none _
      | refine LeO.ite ?_ ?_
      | refine LeO.bind ?_ (fun _ => ?_)
set_option maxHeartbeats 8000000 in
set_option maxRecDepth 100000 in
theorem gamehalllaw3_KnockoutPlays.calls (k : Nat) (a0 : Int) (A1 : Option Addr) (c1 : Nat) (l1 : List Int) (a2 : Int) (a3 : Int) (r : Bool) (w : World) (hr1 : Kd.C (Kd.int .i64) w A1 l1.length l1) (hc1 : l1.length ≤ c1) (h : gamehalllaw3_KnockoutPlays.f k a0 l1 a2 a3 = some r) :
    Calls Try.prog 5 #[.int .i64 a0, .slice A1 l1.length c1, .int .i64 a2, .int .i64 a3] w fun e w' => e = .returned (.bool r) ∧ Below w.heap.size w w' := by
 have HR1 := Aside0.mk hr1
 have HC1 := Aside0.mk hc1
 clear hr1 hc1
 have HB := Aside0.mk (Below.refl w.heap.size w)
 have H : ((gamehalllaw3_brackets.f k).bind fun t170 => (if t170 = true then (if 0 ≤ (mn (l1.length : Int) 40) then (if (mn (l1.length : Int) 40) ≤ (l1.length : Int) then ((knockout_Rounds.f k a0).bind fun bt172 => ((knockout_Seeds.f k a0).bind fun bt174 => ((knockout_Play.f k a0 (l1.take ((mn (l1.length : Int) 40) : Int).toNat)).bind fun bt178 => ((knockout_Meet.f k a0 a2 a3).bind fun bt183 => (if a0 < 2 then (gamehalllaw3_KnockoutPlays.j0 k a0 (l1.take ((mn (l1.length : Int) 40) : Int).toNat) a2 a3 bt172.1 bt172.2 bt174.1 bt174.2 bt178.1 bt178.2.1 bt178.2.2 bt183.1 bt183.2 true) else (gamehalllaw3_KnockoutPlays.j0 k a0 (l1.take ((mn (l1.length : Int) 40) : Int).toNat) a2 a3 bt172.1 bt172.2 bt174.1 bt174.2 bt178.1 bt178.2.1 bt178.2.2 bt183.1 bt183.2 (decide (a0 > 32)))))))) else (none)) else (none)) else (some false))) = some r := h
 clear h
 replace H := Option.bind_eq_some_iff.mp H
 obtain ⟨t170, A50, H⟩ := H
 replace H : (if t170 = true then (if 0 ≤ (mn (l1.length : Int) 40) then (if (mn (l1.length : Int) 40) ≤ (l1.length : Int) then ((knockout_Rounds.f k a0).bind fun bt172 => ((knockout_Seeds.f k a0).bind fun bt174 => ((knockout_Play.f k a0 (l1.take ((mn (l1.length : Int) 40) : Int).toNat)).bind fun bt178 => ((knockout_Meet.f k a0 a2 a3).bind fun bt183 => (if a0 < 2 then (gamehalllaw3_KnockoutPlays.j0 k a0 (l1.take ((mn (l1.length : Int) 40) : Int).toNat) a2 a3 bt172.1 bt172.2 bt174.1 bt174.2 bt178.1 bt178.2.1 bt178.2.2 bt183.1 bt183.2 true) else (gamehalllaw3_KnockoutPlays.j0 k a0 (l1.take ((mn (l1.length : Int) 40) : Int).toNat) a2 a3 bt172.1 bt172.2 bt174.1 bt174.2 bt178.1 bt178.2.1 bt178.2.2 bt183.1 bt183.2 (decide (a0 > 32)))))))) else (none)) else (none)) else (some false)) = some r := H
 have A5 := Aside0.mk A50
 clear A50
 by_cases c6 : t170 = true
 ·subst c6
  have H1 : (if 0 ≤ (mn (l1.length : Int) 40) then (if (mn (l1.length : Int) 40) ≤ (l1.length : Int) then ((knockout_Rounds.f k a0).bind fun bt172 => ((knockout_Seeds.f k a0).bind fun bt174 => ((knockout_Play.f k a0 (l1.take ((mn (l1.length : Int) 40) : Int).toNat)).bind fun bt178 => ((knockout_Meet.f k a0 a2 a3).bind fun bt183 => (if a0 < 2 then (gamehalllaw3_KnockoutPlays.j0 k a0 (l1.take ((mn (l1.length : Int) 40) : Int).toNat) a2 a3 bt172.1 bt172.2 bt174.1 bt174.2 bt178.1 bt178.2.1 bt178.2.2 bt183.1 bt183.2 true) else (gamehalllaw3_KnockoutPlays.j0 k a0 (l1.take ((mn (l1.length : Int) 40) : Int).toNat) a2 a3 bt172.1 bt172.2 bt174.1 bt174.2 bt178.1 bt178.2.1 bt178.2.2 bt183.1 bt183.2 (decide (a0 > 32)))))))) else (none)) else (none)) = some r := by rw [if_pos rfl] at H; exact H
  clear H
  have H := H1
  clear H1
  obtain ⟨ji7, hji7⟩ : ∃ j_ : Int, (mn (l1.length : Int) 40) = j_ := ⟨_, rfl⟩
  replace H : (if 0 ≤ (ji7) then (if (ji7) ≤ (l1.length : Int) then ((knockout_Rounds.f k a0).bind fun bt172 => ((knockout_Seeds.f k a0).bind fun bt174 => ((knockout_Play.f k a0 (l1.take ((ji7) : Int).toNat)).bind fun bt178 => ((knockout_Meet.f k a0 a2 a3).bind fun bt183 => (if a0 < 2 then (gamehalllaw3_KnockoutPlays.j0 k a0 (l1.take ((ji7) : Int).toNat) a2 a3 bt172.1 bt172.2 bt174.1 bt174.2 bt178.1 bt178.2.1 bt178.2.2 bt183.1 bt183.2 true) else (gamehalllaw3_KnockoutPlays.j0 k a0 (l1.take ((ji7) : Int).toNat) a2 a3 bt172.1 bt172.2 bt174.1 bt174.2 bt178.1 bt178.2.1 bt178.2.2 bt183.1 bt183.2 (decide (a0 > 32)))))))) else (none)) else (none)) = some r := by first | (rw [hji7] at H; exact H) | (simp only [hji7] at H ⊢; exact H)
  (try rw [hji7] at A5)
  (try (have hji7h : ji7 ≤ 40 := by (rw [← hji7]; unfold mn; (repeat' split) <;> omega)))
  (try (have hji7g : ji7 ≤ 64 := by omega))
  (try (have hji7l : 0 ≤ ji7 := by (rw [← hji7]; unfold mn; (repeat' split) <;> omega)))
  (try (have hji7m : 0 ≤ ji7 := by omega))
  have hji7_ : (if 40 < (l1.length : Int) then 40 else (l1.length : Int)) = ji7 := hji7
  by_cases c8 : 0 ≤ (ji7)
  ·rw [if_pos c8] at H
   have c8b0 := eq_true c8
   have c8b1 : decide (0 ≤ (ji7)) = true := decide_eq_true c8
   clear c8
   by_cases c9 : (ji7) ≤ (l1.length : Int)
   ·rw [if_pos c9] at H
    have c9b0 := eq_true c9
    have c9b1 : decide ((ji7) ≤ (l1.length : Int)) = true := decide_eq_true c9
    have HLl1ji7 := Aside0.mk (show ((ji7) : Int).toNat = (l1.take ((ji7) : Int).toNat).length from by rw [List.length_take]; omega)
    clear c9
    replace H := Option.bind_eq_some_iff.mp H
    obtain ⟨⟨t172, t173⟩, A100, H⟩ := H
    replace H : ((knockout_Seeds.f k a0).bind fun bt174 => ((knockout_Play.f k a0 (l1.take ((ji7) : Int).toNat)).bind fun bt178 => ((knockout_Meet.f k a0 a2 a3).bind fun bt183 => (if a0 < 2 then (gamehalllaw3_KnockoutPlays.j0 k a0 (l1.take ((ji7) : Int).toNat) a2 a3 t172 t173 bt174.1 bt174.2 bt178.1 bt178.2.1 bt178.2.2 bt183.1 bt183.2 true) else (gamehalllaw3_KnockoutPlays.j0 k a0 (l1.take ((ji7) : Int).toNat) a2 a3 t172 t173 bt174.1 bt174.2 bt178.1 bt178.2.1 bt178.2.2 bt183.1 bt183.2 (decide (a0 > 32))))))) = some r := H
    have A10 := Aside0.mk A100
    clear A100
    replace H := Option.bind_eq_some_iff.mp H
    obtain ⟨⟨t174, t175⟩, A110, H⟩ := H
    replace H : ((knockout_Play.f k a0 (l1.take ((ji7) : Int).toNat)).bind fun bt178 => ((knockout_Meet.f k a0 a2 a3).bind fun bt183 => (if a0 < 2 then (gamehalllaw3_KnockoutPlays.j0 k a0 (l1.take ((ji7) : Int).toNat) a2 a3 t172 t173 t174 t175 bt178.1 bt178.2.1 bt178.2.2 bt183.1 bt183.2 true) else (gamehalllaw3_KnockoutPlays.j0 k a0 (l1.take ((ji7) : Int).toNat) a2 a3 t172 t173 t174 t175 bt178.1 bt178.2.1 bt178.2.2 bt183.1 bt183.2 (decide (a0 > 32)))))) = some r := H
    have A11 := Aside0.mk A110
    clear A110
    replace H := Option.bind_eq_some_iff.mp H
    obtain ⟨⟨t178, t179, t180⟩, A120, H⟩ := H
    replace H : ((knockout_Meet.f k a0 a2 a3).bind fun bt183 => (if a0 < 2 then (gamehalllaw3_KnockoutPlays.j0 k a0 (l1.take ((ji7) : Int).toNat) a2 a3 t172 t173 t174 t175 t178 t179 t180 bt183.1 bt183.2 true) else (gamehalllaw3_KnockoutPlays.j0 k a0 (l1.take ((ji7) : Int).toNat) a2 a3 t172 t173 t174 t175 t178 t179 t180 bt183.1 bt183.2 (decide (a0 > 32))))) = some r := H
    have A12 := Aside0.mk A120
    clear A120
    replace H := Option.bind_eq_some_iff.mp H
    obtain ⟨⟨t183, t184⟩, A130, H⟩ := H
    replace H : (if a0 < 2 then (gamehalllaw3_KnockoutPlays.j0 k a0 (l1.take ((ji7) : Int).toNat) a2 a3 t172 t173 t174 t175 t178 t179 t180 t183 t184 true) else (gamehalllaw3_KnockoutPlays.j0 k a0 (l1.take ((ji7) : Int).toNat) a2 a3 t172 t173 t174 t175 t178 t179 t180 t183 t184 (decide (a0 > 32)))) = some r := H
    have A13 := Aside0.mk A130
    clear A130
    have HC14 := Aside0.mk H
    clear H
    go_enter Try.func5, Try.ntmps5
    go_upto_region 8 with (first | (go_at_call 25; (with_reducible refine (gamehalllaw3_brackets.calls k  true _ A5.out).mono ?_); rintro e w15 ⟨rfl, hb⟩; have n0_ := Aside0.mk (below_step (by repeat (first | (with_reducible first | exact HB.out | apply below_alloc | apply pw_below_drewN | apply below_drew1) | exact HB.out)) hb); clear HB; have HB := n0_; clear n0_; (try clear hb); (try clear hb2); (try clear hk); (try clear hi); obtain ⟨i016, hi016, _, hsz16, _⟩ := info_parts info3; obtain ⟨hcut16, hA16, hC16⟩ := print_take_of (P := Try.prog) (Value.int .i64) 0 23 3 .i64 Try.underlying23 hi016 hsz16 A1 c1 l1 (ji7) (of_decide_eq_true (by first | (with_reducible assumption) | assumption)) (of_decide_eq_true (by first | (with_reducible assumption) | assumption)) HC1.out; have HR171 := Aside0.mk (Kd.C_of_reads (h1 := fun _ => rfl) (hA16 _ (Kd.reads_of_C HR1.out))); have HC171 := Aside0.mk hC16; clear hA16 hC16 hi016 hsz16) | (go_at_call 26; (with_reducible refine (knockout_Rounds.calls k a0 t172 t173 _ A10.out).mono ?_); rintro e w' ⟨rfl, ⟨nd, rfl⟩⟩; (try first | exact ⟨rfl, _, World.drewN_drewN _ _ _⟩ | exact ⟨rfl, _, Eq.trans (World.drewN_drewN _ _ _) (congrArg (World.drewN _) (Nat.add_assoc _ _ _))⟩)) | (go_at_call 27; (with_reducible refine (knockout_Seeds.calls k a0 t174 t175 _ A11.out).mono ?_); rintro e w17 ⟨v176, rfl, ho0, hb⟩; have n0_ := Aside0.mk (Kd.R_lower ho0 (below_size (by repeat (first | (with_reducible first | exact HB.out | apply below_alloc | apply pw_below_drewN | apply below_drew1) | exact HB.out)))); have n1_ := Aside0.mk (below_step (by repeat (first | (with_reducible first | exact HB.out | apply below_alloc | apply pw_below_drewN | apply below_drew1) | exact HB.out)) hb); clear HB; have HO177 := n0_; have HB := n1_; clear n0_ n1_; (try clear hb); (try clear hb2); (try clear hk); (try clear hi); (try clear ho0)) | (go_at_call 28; (try rw [HLl1ji7.out]); (with_reducible refine (knockout_Play.calls k a0 _ _ (l1.take ((ji7) : Int).toNat) t178 t179 t180 _ ?side1 ?side2 A12.out).mono ?_); (case side1 => repeat (first | exact (Kd.C_below HR171.out HB.out) | (with_reducible refine Kd.C_alloc ?_ _) | (with_reducible refine Kd.C_drewN ?_ _) | (with_reducible refine Kd.C_drew ?_))); (case side2 => exact HC171.out); rintro e w18 ⟨v181, rfl, ho0, hb⟩; have n0_ := Aside0.mk (Kd.R_below (by (with_reducible repeat (first | apply Kd.R_alloc | apply Kd.R_drewN | apply Kd.R_drew)); exact HO177.out) hb); have n1_ := Aside0.mk (Kd.R_lower ho0 (below_size (by repeat (first | (with_reducible first | exact HB.out | apply below_alloc | apply pw_below_drewN | apply below_drew1) | exact HB.out)))); have n2_ := Aside0.mk (below_step (by repeat (first | (with_reducible first | exact HB.out | apply below_alloc | apply pw_below_drewN | apply below_drew1) | exact HB.out)) hb); clear HO177; clear HB; have HO177 := n0_; have HO182 := n1_; have HB := n2_; clear n0_ n1_ n2_; (try clear hb); (try clear hb2); (try clear hk); (try clear hi); (try clear ho0)) | (go_at_call 29; (with_reducible refine (knockout_Meet.calls k a0 a2 a3 t183 t184 _ A13.out).mono ?_); rintro e w19 ⟨rfl, hb⟩; have n0_ := Aside0.mk (Kd.R_below (by (with_reducible repeat (first | apply Kd.R_alloc | apply Kd.R_drewN | apply Kd.R_drew)); exact HO177.out) hb); have n1_ := Aside0.mk (Kd.R_below (by (with_reducible repeat (first | apply Kd.R_alloc | apply Kd.R_drewN | apply Kd.R_drew)); exact HO182.out) hb); have n2_ := Aside0.mk (below_step (by repeat (first | (with_reducible first | exact HB.out | apply below_alloc | apply pw_below_drewN | apply below_drew1) | exact HB.out)) hb); clear HO177; clear HO182; clear HB; have HO177 := n0_; have HO182 := n1_; have HB := n2_; clear n0_ n1_ n2_; (try clear hb); (try clear hb2); (try clear hk); (try clear hi)))
    repeat (go_quiet (first | (go_at_call 25; (with_reducible refine (gamehalllaw3_brackets.calls k  true _ A5.out).mono ?_); rintro e w15 ⟨rfl, hb⟩; have n0_ := Aside0.mk (below_step (by repeat (first | (with_reducible first | exact HB.out | apply below_alloc | apply pw_below_drewN | apply below_drew1) | exact HB.out)) hb); clear HB; have HB := n0_; clear n0_; (try clear hb); (try clear hb2); (try clear hk); (try clear hi); obtain ⟨i016, hi016, _, hsz16, _⟩ := info_parts info3; obtain ⟨hcut16, hA16, hC16⟩ := print_take_of (P := Try.prog) (Value.int .i64) 0 23 3 .i64 Try.underlying23 hi016 hsz16 A1 c1 l1 (ji7) (of_decide_eq_true (by first | (with_reducible assumption) | assumption)) (of_decide_eq_true (by first | (with_reducible assumption) | assumption)) HC1.out; have HR171 := Aside0.mk (Kd.C_of_reads (h1 := fun _ => rfl) (hA16 _ (Kd.reads_of_C HR1.out))); have HC171 := Aside0.mk hC16; clear hA16 hC16 hi016 hsz16) | (go_at_call 26; (with_reducible refine (knockout_Rounds.calls k a0 t172 t173 _ A10.out).mono ?_); rintro e w' ⟨rfl, ⟨nd, rfl⟩⟩; (try first | exact ⟨rfl, _, World.drewN_drewN _ _ _⟩ | exact ⟨rfl, _, Eq.trans (World.drewN_drewN _ _ _) (congrArg (World.drewN _) (Nat.add_assoc _ _ _))⟩)) | (go_at_call 27; (with_reducible refine (knockout_Seeds.calls k a0 t174 t175 _ A11.out).mono ?_); rintro e w17 ⟨v176, rfl, ho0, hb⟩; have n0_ := Aside0.mk (Kd.R_lower ho0 (below_size (by repeat (first | (with_reducible first | exact HB.out | apply below_alloc | apply pw_below_drewN | apply below_drew1) | exact HB.out)))); have n1_ := Aside0.mk (below_step (by repeat (first | (with_reducible first | exact HB.out | apply below_alloc | apply pw_below_drewN | apply below_drew1) | exact HB.out)) hb); clear HB; have HO177 := n0_; have HB := n1_; clear n0_ n1_; (try clear hb); (try clear hb2); (try clear hk); (try clear hi); (try clear ho0)) | (go_at_call 28; (try rw [HLl1ji7.out]); (with_reducible refine (knockout_Play.calls k a0 _ _ (l1.take ((ji7) : Int).toNat) t178 t179 t180 _ ?side1 ?side2 A12.out).mono ?_); (case side1 => repeat (first | exact (Kd.C_below HR171.out HB.out) | (with_reducible refine Kd.C_alloc ?_ _) | (with_reducible refine Kd.C_drewN ?_ _) | (with_reducible refine Kd.C_drew ?_))); (case side2 => exact HC171.out); rintro e w18 ⟨v181, rfl, ho0, hb⟩; have n0_ := Aside0.mk (Kd.R_below (by (with_reducible repeat (first | apply Kd.R_alloc | apply Kd.R_drewN | apply Kd.R_drew)); exact HO177.out) hb); have n1_ := Aside0.mk (Kd.R_lower ho0 (below_size (by repeat (first | (with_reducible first | exact HB.out | apply below_alloc | apply pw_below_drewN | apply below_drew1) | exact HB.out)))); have n2_ := Aside0.mk (below_step (by repeat (first | (with_reducible first | exact HB.out | apply below_alloc | apply pw_below_drewN | apply below_drew1) | exact HB.out)) hb); clear HO177; clear HB; have HO177 := n0_; have HO182 := n1_; have HB := n2_; clear n0_ n1_ n2_; (try clear hb); (try clear hb2); (try clear hk); (try clear hi); (try clear ho0)) | (go_at_call 29; (with_reducible refine (knockout_Meet.calls k a0 a2 a3 t183 t184 _ A13.out).mono ?_); rintro e w19 ⟨rfl, hb⟩; have n0_ := Aside0.mk (Kd.R_below (by (with_reducible repeat (first | apply Kd.R_alloc | apply Kd.R_drewN | apply Kd.R_drew)); exact HO177.out) hb); have n1_ := Aside0.mk (Kd.R_below (by (with_reducible repeat (first | apply Kd.R_alloc | apply Kd.R_drewN | apply Kd.R_drew)); exact HO182.out) hb); have n2_ := Aside0.mk (below_step (by repeat (first | (with_reducible first | exact HB.out | apply below_alloc | apply pw_below_drewN | apply below_drew1) | exact HB.out)) hb); clear HO177; clear HO182; clear HB; have HO177 := n0_; have HO182 := n1_; have HB := n2_; clear n0_ n1_ n2_; (try clear hb); (try clear hb2); (try clear hk); (try clear hi))); go_upto_region 8 with (first | (go_at_call 25; (with_reducible refine (gamehalllaw3_brackets.calls k  true _ A5.out).mono ?_); rintro e w15 ⟨rfl, hb⟩; have n0_ := Aside0.mk (below_step (by repeat (first | (with_reducible first | exact HB.out | apply below_alloc | apply pw_below_drewN | apply below_drew1) | exact HB.out)) hb); clear HB; have HB := n0_; clear n0_; (try clear hb); (try clear hb2); (try clear hk); (try clear hi); obtain ⟨i016, hi016, _, hsz16, _⟩ := info_parts info3; obtain ⟨hcut16, hA16, hC16⟩ := print_take_of (P := Try.prog) (Value.int .i64) 0 23 3 .i64 Try.underlying23 hi016 hsz16 A1 c1 l1 (ji7) (of_decide_eq_true (by first | (with_reducible assumption) | assumption)) (of_decide_eq_true (by first | (with_reducible assumption) | assumption)) HC1.out; have HR171 := Aside0.mk (Kd.C_of_reads (h1 := fun _ => rfl) (hA16 _ (Kd.reads_of_C HR1.out))); have HC171 := Aside0.mk hC16; clear hA16 hC16 hi016 hsz16) | (go_at_call 26; (with_reducible refine (knockout_Rounds.calls k a0 t172 t173 _ A10.out).mono ?_); rintro e w' ⟨rfl, ⟨nd, rfl⟩⟩; (try first | exact ⟨rfl, _, World.drewN_drewN _ _ _⟩ | exact ⟨rfl, _, Eq.trans (World.drewN_drewN _ _ _) (congrArg (World.drewN _) (Nat.add_assoc _ _ _))⟩)) | (go_at_call 27; (with_reducible refine (knockout_Seeds.calls k a0 t174 t175 _ A11.out).mono ?_); rintro e w17 ⟨v176, rfl, ho0, hb⟩; have n0_ := Aside0.mk (Kd.R_lower ho0 (below_size (by repeat (first | (with_reducible first | exact HB.out | apply below_alloc | apply pw_below_drewN | apply below_drew1) | exact HB.out)))); have n1_ := Aside0.mk (below_step (by repeat (first | (with_reducible first | exact HB.out | apply below_alloc | apply pw_below_drewN | apply below_drew1) | exact HB.out)) hb); clear HB; have HO177 := n0_; have HB := n1_; clear n0_ n1_; (try clear hb); (try clear hb2); (try clear hk); (try clear hi); (try clear ho0)) | (go_at_call 28; (try rw [HLl1ji7.out]); (with_reducible refine (knockout_Play.calls k a0 _ _ (l1.take ((ji7) : Int).toNat) t178 t179 t180 _ ?side1 ?side2 A12.out).mono ?_); (case side1 => repeat (first | exact (Kd.C_below HR171.out HB.out) | (with_reducible refine Kd.C_alloc ?_ _) | (with_reducible refine Kd.C_drewN ?_ _) | (with_reducible refine Kd.C_drew ?_))); (case side2 => exact HC171.out); rintro e w18 ⟨v181, rfl, ho0, hb⟩; have n0_ := Aside0.mk (Kd.R_below (by (with_reducible repeat (first | apply Kd.R_alloc | apply Kd.R_drewN | apply Kd.R_drew)); exact HO177.out) hb); have n1_ := Aside0.mk (Kd.R_lower ho0 (below_size (by repeat (first | (with_reducible first | exact HB.out | apply below_alloc | apply pw_below_drewN | apply below_drew1) | exact HB.out)))); have n2_ := Aside0.mk (below_step (by repeat (first | (with_reducible first | exact HB.out | apply below_alloc | apply pw_below_drewN | apply below_drew1) | exact HB.out)) hb); clear HO177; clear HB; have HO177 := n0_; have HO182 := n1_; have HB := n2_; clear n0_ n1_ n2_; (try clear hb); (try clear hb2); (try clear hk); (try clear hi); (try clear ho0)) | (go_at_call 29; (with_reducible refine (knockout_Meet.calls k a0 a2 a3 t183 t184 _ A13.out).mono ?_); rintro e w19 ⟨rfl, hb⟩; have n0_ := Aside0.mk (Kd.R_below (by (with_reducible repeat (first | apply Kd.R_alloc | apply Kd.R_drewN | apply Kd.R_drew)); exact HO177.out) hb); have n1_ := Aside0.mk (Kd.R_below (by (with_reducible repeat (first | apply Kd.R_alloc | apply Kd.R_drewN | apply Kd.R_drew)); exact HO182.out) hb); have n2_ := Aside0.mk (below_step (by repeat (first | (with_reducible first | exact HB.out | apply below_alloc | apply pw_below_drewN | apply below_drew1) | exact HB.out)) hb); clear HO177; clear HO182; clear HB; have HO177 := n0_; have HO182 := n1_; have HB := n2_; clear n0_ n1_ n2_; (try clear hb); (try clear hb2); (try clear hk); (try clear hi))))
    (try simp only [Act.put, List.setIfInBounds_toArray, List.set_cons_zero, List.set_cons_succ])
    go_cut [61] (fun v61 wc => ∃ (kq : Nat) (x61_13 : Bool), v61 = .bool x61_13 ∧ Aside0 (gamehalllaw3_KnockoutPlays.j0 kq a0 (l1.take ((ji7) : Int).toNat) a2 a3 t172 t173 t174 t175 t178 t179 t180 t183 t184 x61_13 = some r) ∧ Aside0 (kq ≤ k) ∧ Aside0 (Kd.R (Kd.int .i64) 3 wc w.heap.size (fun _ => True) v176 t174) ∧ Aside0 (Kd.R k148 148 wc w.heap.size (fun _ => True) v181 t178) ∧ Aside0 (Below w.heap.size w wc))
    case first =>
     have H := HC14.out
     clear HC14
     by_cases c20 : a0 < 2
     ·rw [if_pos c20] at H
      have c20b0 : decide (a0 < 2) = true := decide_eq_true c20
      clear c20
      (first | rw [c20b0] | (simp only [i64_w, i32_w]; rw [c20b0]) | skip)
      have H' := Aside0.mk H
      clear H
      go_wp2
      repeat (go_quiet (fail); try go_wp2)
      go_meet
      case rel => exact ⟨_, (true), (by first | rfl | (simp; done) | (simp [*]; done)), H', ⟨by first | omega | exact Nat.le_refl _⟩, ⟨by (with_reducible repeat (first | apply Kd.R_alloc | apply Kd.R_drewN | apply Kd.R_drew)); exact HO177.out⟩, ⟨by (with_reducible repeat (first | apply Kd.R_alloc | apply Kd.R_drewN | apply Kd.R_drew)); exact HO182.out⟩, ⟨by repeat (first | (with_reducible first | exact HB.out | apply below_alloc | apply pw_below_drewN | apply below_drew1) | exact HB.out)⟩⟩
     ·rw [if_neg c20] at H
      have c20b0 : decide (a0 < 2) = false := decide_eq_false c20
      clear c20
      (first | rw [c20b0] | (simp only [i64_w, i32_w]; rw [c20b0]) | skip)
      have H' := Aside0.mk H
      clear H
      go_wp2
      repeat (go_quiet (fail); try go_wp2)
      go_meet
      case rel => exact ⟨_, (decide (a0 > 32)), (by first | rfl | (simp; done) | (simp [*]; done)), H', ⟨by first | omega | exact Nat.le_refl _⟩, ⟨by (with_reducible repeat (first | apply Kd.R_alloc | apply Kd.R_drewN | apply Kd.R_drew)); exact HO177.out⟩, ⟨by (with_reducible repeat (first | apply Kd.R_alloc | apply Kd.R_drewN | apply Kd.R_drew)); exact HO182.out⟩, ⟨by repeat (first | (with_reducible first | exact HB.out | apply below_alloc | apply pw_below_drewN | apply below_drew1) | exact HB.out)⟩⟩
    case rest =>
     clear HC14
     try clear c1
     try clear c2
     try clear p2
     try clear c5
     try clear c6
     try clear c8
     try clear c8b0
     try clear c8b1
     try clear c9
     try clear c9b0
     try clear c9b1
     try clear c20
     try clear c20b0
     obtain ⟨kq, x61_13, rfl, HA, HJ13, HO_11, HO_13, HB⟩ := hcut
     cases kq with
     | zero => exact absurd HA.out (by simp [gamehalllaw3_KnockoutPlays.j0])
     | succ kj13 =>
      have H := HA.out
      clear HA
      simp only [gamehalllaw3_KnockoutPlays.j0] at H
      by_cases c21 : x61_13 = true
      ·subst c21
       have H1 : (if t173 = 4 then (if t175 = t173 then (if t180 = t173 then (if t184 = t173 then (some ((wrap64 ((wrap64 ((wrap64 ((wrap64 (t172 + (t174.length : Int))) + (t178.length : Int))) + t179)) + t183)) == 0)) else (some false)) else (some false)) else (some false)) else (some false)) = some r := by rw [if_pos rfl] at H; exact H
       clear H
       have H := H1
       clear H1
       by_cases c22 : t173 = 4
       ·rw [if_pos c22] at H
        have c22b0 : (t173 == 4) = true := beq_iff_eq.mpr c22
        have c22b1 : (t173 != 4) = false := bne_eq_false_iff_eq.mpr c22
        clear c22
        by_cases c23 : t175 = t173
        ·rw [if_pos c23] at H
         have c23b0 : (t175 == t173) = true := beq_iff_eq.mpr c23
         have c23b1 : (t175 != t173) = false := bne_eq_false_iff_eq.mpr c23
         clear c23
         by_cases c24 : t180 = t173
         ·rw [if_pos c24] at H
          have c24b0 : (t180 == t173) = true := beq_iff_eq.mpr c24
          have c24b1 : (t180 != t173) = false := bne_eq_false_iff_eq.mpr c24
          clear c24
          by_cases c25 : t184 = t173
          ·rw [if_pos c25] at H
           have c25b0 : (t184 == t173) = true := beq_iff_eq.mpr c25
           have c25b1 : (t184 != t173) = false := bne_eq_false_iff_eq.mpr c25
           clear c25
           obtain rfl := Option.some.inj H
           obtain ⟨Ao26, co26, eo26⟩ := Kd.R_slice HO_11.out
           subst eo26
           obtain ⟨Ao27, co27, eo27⟩ := Kd.R_slice HO_13.out
           subst eo27
           go_wp2
           repeat (go_quiet (fail); try go_wp2)
           go_ret
           exact ⟨by first | rfl | (simp [errW_none, errW_some] <;> rfl) | (simp only [← hji7]; first | rfl | (simp [errW_none, errW_some] <;> rfl)) | (simp [*, errW_none, errW_some] <;> rfl), by repeat (first | (with_reducible first | exact HB.out | apply below_alloc | apply pw_below_drewN | apply below_drew1) | exact HB.out)⟩
          ·rw [if_neg c25] at H
           have c25b0 : (t184 == t173) = false := beq_eq_false_iff_ne.mpr c25
           have c25b1 : (t184 != t173) = true := bne_iff_ne.mpr c25
           obtain rfl := Option.some.inj H
           go_wp2
           repeat (go_quiet (fail); try go_wp2)
           go_ret
           exact ⟨by first | rfl | (simp [errW_none, errW_some] <;> rfl) | (simp only [← hji7]; first | rfl | (simp [errW_none, errW_some] <;> rfl)) | (simp [*, errW_none, errW_some] <;> rfl), by repeat (first | (with_reducible first | exact HB.out | apply below_alloc | apply pw_below_drewN | apply below_drew1) | exact HB.out)⟩
         ·rw [if_neg c24] at H
          have c24b0 : (t180 == t173) = false := beq_eq_false_iff_ne.mpr c24
          have c24b1 : (t180 != t173) = true := bne_iff_ne.mpr c24
          obtain rfl := Option.some.inj H
          go_wp2
          repeat (go_quiet (fail); try go_wp2)
          go_ret
          exact ⟨by first | rfl | (simp [errW_none, errW_some] <;> rfl) | (simp only [← hji7]; first | rfl | (simp [errW_none, errW_some] <;> rfl)) | (simp [*, errW_none, errW_some] <;> rfl), by repeat (first | (with_reducible first | exact HB.out | apply below_alloc | apply pw_below_drewN | apply below_drew1) | exact HB.out)⟩
        ·rw [if_neg c23] at H
         have c23b0 : (t175 == t173) = false := beq_eq_false_iff_ne.mpr c23
         have c23b1 : (t175 != t173) = true := bne_iff_ne.mpr c23
         obtain rfl := Option.some.inj H
         go_wp2
         repeat (go_quiet (fail); try go_wp2)
         go_ret
         exact ⟨by first | rfl | (simp [errW_none, errW_some] <;> rfl) | (simp only [← hji7]; first | rfl | (simp [errW_none, errW_some] <;> rfl)) | (simp [*, errW_none, errW_some] <;> rfl), by repeat (first | (with_reducible first | exact HB.out | apply below_alloc | apply pw_below_drewN | apply below_drew1) | exact HB.out)⟩
       ·rw [if_neg c22] at H
        have c22b0 : (t173 == 4) = false := beq_eq_false_iff_ne.mpr c22
        have c22b1 : (t173 != 4) = true := bne_iff_ne.mpr c22
        obtain rfl := Option.some.inj H
        go_wp2
        repeat (go_quiet (fail); try go_wp2)
        go_ret
        exact ⟨by first | rfl | (simp [errW_none, errW_some] <;> rfl) | (simp only [← hji7]; first | rfl | (simp [errW_none, errW_some] <;> rfl)) | (simp [*, errW_none, errW_some] <;> rfl), by repeat (first | (with_reducible first | exact HB.out | apply below_alloc | apply pw_below_drewN | apply below_drew1) | exact HB.out)⟩
      ·replace c21 := Bool.eq_false_iff.mpr c21
       subst c21
       have H1 : (gamehalllaw3_KnockoutPlays.l0 kj13 a0 (l1.take ((ji7) : Int).toNat) a2 a3 t172 t173 t174 t175 t178 t179 t180 t183 t184 1) = some r := by rw [if_neg (show ¬ (false = true) by decide)] at H; exact H
       clear H
       have H := H1
       clear H1
       have H' := Aside0.mk H
       clear H
       go_wp2
       repeat (go_quiet (fail); try go_wp2)
       go_loopg [18] kj13 (fun kq v18 w' => ∃ (x18_2 : Int), v18 = .int .i64 x18_2 ∧ Aside0 (gamehalllaw3_KnockoutPlays.l0 kq a0 (l1.take ((ji7) : Int).toNat) a2 a3 t172 t173 t174 t175 t178 t179 t180 t183 t184 x18_2 = some r) ∧ Aside0 (kq ≤ kj13) ∧ Aside0 (Kd.R (Kd.int .i64) 3 w' w.heap.size (fun _ => True) v176 t174) ∧ Aside0 (Kd.R k148 148 w' w.heap.size (fun _ => True) v181 t178) ∧ Aside0 (Below w.heap.size w w'))
       case atStart => exact ⟨(1), (by first | rfl | (simp; done) | (simp [*]; done)), H', ⟨Nat.le_refl _⟩, ⟨by (with_reducible repeat (first | apply Kd.R_alloc | apply Kd.R_drewN | apply Kd.R_drew)); exact HO_11.out⟩, ⟨by (with_reducible repeat (first | apply Kd.R_alloc | apply Kd.R_drewN | apply Kd.R_drew)); exact HO_13.out⟩, ⟨by repeat (first | (with_reducible first | exact HB.out | apply below_alloc | apply pw_below_drewN | apply below_drew1) | exact HB.out)⟩⟩
       case round =>
        clear H'
        try clear c1
        try clear c2
        try clear p2
        try clear c5
        try clear c6
        try clear p6
        try clear c8
        try clear c8b0
        try clear c8b1
        try clear c9
        try clear c9b0
        try clear c9b1
        try clear c20
        try clear c20b0
        try clear c21
        try clear c22
        try clear c22b0
        try clear c22b1
        try clear c23
        try clear c23b0
        try clear c23b1
        try clear c24
        try clear c24b0
        try clear c24b1
        try clear c25
        try clear c25b0
        try clear c25b1
        try clear p2
        obtain ⟨x18_2, rfl, HA, HK2, HO_11, HO_13, HB⟩ := hrel
        cases gk with
        | zero => exact absurd HA.out (by simp [gamehalllaw3_KnockoutPlays.l0])
        | succ k2 =>
         have H := HA.out
         clear HA
         simp only [gamehalllaw3_KnockoutPlays.l0] at H
         by_cases c28 : 0 ≤ x18_2
         ·rw [if_pos c28] at H
          have c28b0 := eq_true c28
          have c28b1 : decide (0 ≤ x18_2) = true := decide_eq_true c28
          clear c28
          obtain ⟨ji29, hji29⟩ : ∃ j_ : Int, (shl .i64 1 x18_2) = j_ := ⟨_, rfl⟩
          replace H : (if (ji29) < a0 then (gamehalllaw3_KnockoutPlays.l0 k2 a0 (l1.take ((ji7) : Int).toNat) a2 a3 t172 t173 t174 t175 t178 t179 t180 t183 t184 (wrap64 (x18_2 + 1))) else (if t173 = 0 then (if t172 = x18_2 then (if t175 = 0 then (if 0 ≤ t172 then (gamehalllaw3_KnockoutPlays.j2 k2 a0 (l1.take ((ji7) : Int).toNat) a2 a3 t172 t174 t178 t179 t180 t183 t184 ((t174.length : Int) != (shl .i64 1 t172))) else (none)) else (gamehalllaw3_KnockoutPlays.j2 k2 a0 (l1.take ((ji7) : Int).toNat) a2 a3 t172 t174 t178 t179 t180 t183 t184 true)) else (gamehalllaw3_KnockoutPlays.j2 k2 a0 (l1.take ((ji7) : Int).toNat) a2 a3 t172 t174 t178 t179 t180 t183 t184 true)) else (gamehalllaw3_KnockoutPlays.j2 k2 a0 (l1.take ((ji7) : Int).toNat) a2 a3 t172 t174 t178 t179 t180 t183 t184 true))) = some r := by first | (rw [hji29] at H; exact H) | (simp only [hji29] at H ⊢; exact H)
          have hji29_ : (IntKind.i64.wrap (1 * 2 ^ min x18_2.toNat 64)) = ji29 := hji29
          have hji29z : x18_2 ≤ 64 → (IntKind.i64.wrap (1 * 2 ^ x18_2.toNat)) = ji29 := shl_small hji29
          have hji29u : (IntKind.i64.wrap (2 ^ min x18_2.toNat 64)) = ji29 := by have h_ := hji29_; rw [Int.one_mul] at h_; exact h_
          have hji29v : x18_2 ≤ 64 → (IntKind.i64.wrap (2 ^ x18_2.toNat)) = ji29 := fun hle_ => by have h_ := hji29z hle_; rw [Int.one_mul] at h_; exact h_
          have hji29y : (wrap64 (1 * 2 ^ min x18_2.toNat 64)) = ji29 := (i64_w _).symm.trans hji29_
          have hji29x : x18_2 ≤ 64 → (wrap64 (1 * 2 ^ x18_2.toNat)) = ji29 := fun h_ => (i64_w _).symm.trans (hji29z h_)
          by_cases c30 : (ji29) < a0
          ·rw [if_pos c30] at H
           have c30b0 : decide ((ji29) < a0) = true := decide_eq_true c30
           clear c30
           have H' := Aside0.mk H
           clear H
           go_wp2
           repeat (go_quiet (fail); try go_wp2)
           go_roundg k2
           case measure => have := HJ13.out; have := HK2.out; omega
           case rel => exact ⟨(wrap64 (x18_2 + 1)), (by first | rfl | (simp; done) | (simp [*]; done)), H', ⟨by have := HJ13.out; have := HK2.out; omega⟩, ⟨by (with_reducible repeat (first | apply Kd.R_alloc | apply Kd.R_drewN | apply Kd.R_drew)); exact HO_11.out⟩, ⟨by (with_reducible repeat (first | apply Kd.R_alloc | apply Kd.R_drewN | apply Kd.R_drew)); exact HO_13.out⟩, ⟨by repeat (first | (with_reducible first | exact HB.out | apply below_alloc | apply pw_below_drewN | apply below_drew1) | exact HB.out)⟩⟩
          ·rw [if_neg c30] at H
           have c30b0 : decide ((ji29) < a0) = false := decide_eq_false c30
           clear c30
           have HC31 := Aside0.mk H
           clear H
           go_upto_region 13 with (fail)
           repeat (go_quiet (fail); go_upto_region 13 with (fail))
           go_cut [116] (fun v116 wc => ∃ (kq : Nat) (x116_30 : Bool), v116 = .bool x116_30 ∧ Aside0 (gamehalllaw3_KnockoutPlays.j2 kq a0 (l1.take ((ji7) : Int).toNat) a2 a3 t172 t174 t178 t179 t180 t183 t184 x116_30 = some r) ∧ Aside0 (kq ≤ k2) ∧ Aside0 (Kd.R (Kd.int .i64) 3 wc w.heap.size (fun _ => True) v176 t174) ∧ Aside0 (Kd.R k148 148 wc w.heap.size (fun _ => True) v181 t178) ∧ Aside0 (Below w.heap.size w wc))
           case first =>
            have H := HC31.out
            clear HC31
            by_cases c32 : t173 = 0
            ·rw [if_pos c32] at H
             have c32b0 : (t173 == 0) = true := beq_iff_eq.mpr c32
             have c32b1 : (t173 != 0) = false := bne_eq_false_iff_eq.mpr c32
             clear c32
             (first | rw [c32b0] | (simp only [i64_w, i32_w]; rw [c32b0]) | skip)
             by_cases c33 : t172 = x18_2
             ·rw [if_pos c33] at H
              have c33b0 : (t172 == x18_2) = true := beq_iff_eq.mpr c33
              have c33b1 : (t172 != x18_2) = false := bne_eq_false_iff_eq.mpr c33
              clear c33
              by_cases c34 : t175 = 0
              ·rw [if_pos c34] at H
               have c34b0 : (t175 == 0) = true := beq_iff_eq.mpr c34
               have c34b1 : (t175 != 0) = false := bne_eq_false_iff_eq.mpr c34
               clear c34
               by_cases c35 : 0 ≤ t172
               ·rw [if_pos c35] at H
                have c35b0 := eq_true c35
                have c35b1 : decide (0 ≤ t172) = true := decide_eq_true c35
                clear c35
                obtain ⟨ji36, hji36⟩ : ∃ j_ : Int, (shl .i64 1 t172) = j_ := ⟨_, rfl⟩
                replace H : (gamehalllaw3_KnockoutPlays.j2 k2 a0 (l1.take ((ji7) : Int).toNat) a2 a3 t172 t174 t178 t179 t180 t183 t184 ((t174.length : Int) != (ji36))) = some r := by first | (rw [hji36] at H; exact H) | (simp only [hji36] at H ⊢; exact H)
                have hji36_ : (IntKind.i64.wrap (1 * 2 ^ min t172.toNat 64)) = ji36 := hji36
                have hji36z : t172 ≤ 64 → (IntKind.i64.wrap (1 * 2 ^ t172.toNat)) = ji36 := shl_small hji36
                have hji36u : (IntKind.i64.wrap (2 ^ min t172.toNat 64)) = ji36 := by have h_ := hji36_; rw [Int.one_mul] at h_; exact h_
                have hji36v : t172 ≤ 64 → (IntKind.i64.wrap (2 ^ t172.toNat)) = ji36 := fun hle_ => by have h_ := hji36z hle_; rw [Int.one_mul] at h_; exact h_
                have hji36y : (wrap64 (1 * 2 ^ min t172.toNat 64)) = ji36 := (i64_w _).symm.trans hji36_
                have hji36x : t172 ≤ 64 → (wrap64 (1 * 2 ^ t172.toNat)) = ji36 := fun h_ => (i64_w _).symm.trans (hji36z h_)
                have H' := Aside0.mk H
                clear H
                obtain ⟨Ao37, co37, eo37⟩ := Kd.R_slice HO_11.out
                subst eo37
                go_wp2
                repeat (go_quiet (fail); try go_wp2)
                go_meet
                case rel => exact ⟨_, (((t174.length : Int) != (ji36))), (by first | rfl | (simp; done) | (simp only [← hji36] <;> (first | rfl | simp)) | (simp [*]; done)), H', ⟨by have := HJ13.out; have := HK2.out; first | omega | exact Nat.le_refl _⟩, ⟨by (with_reducible repeat (first | apply Kd.R_alloc | apply Kd.R_drewN | apply Kd.R_drew)); exact HO_11.out⟩, ⟨by (with_reducible repeat (first | apply Kd.R_alloc | apply Kd.R_drewN | apply Kd.R_drew)); exact HO_13.out⟩, ⟨by repeat (first | (with_reducible first | exact HB.out | apply below_alloc | apply pw_below_drewN | apply below_drew1) | exact HB.out)⟩⟩
               ·rw [if_neg c35] at H
                exact absurd H (by simp)
              ·rw [if_neg c34] at H
               have c34b0 : (t175 == 0) = false := beq_eq_false_iff_ne.mpr c34
               have c34b1 : (t175 != 0) = true := bne_iff_ne.mpr c34
               have H' := Aside0.mk H
               clear H
               go_wp2
               repeat (go_quiet (fail); try go_wp2)
               go_meet
               case rel => exact ⟨_, (true), (by first | rfl | (simp; done) | (simp [*]; done)), H', ⟨by have := HJ13.out; have := HK2.out; first | omega | exact Nat.le_refl _⟩, ⟨by (with_reducible repeat (first | apply Kd.R_alloc | apply Kd.R_drewN | apply Kd.R_drew)); exact HO_11.out⟩, ⟨by (with_reducible repeat (first | apply Kd.R_alloc | apply Kd.R_drewN | apply Kd.R_drew)); exact HO_13.out⟩, ⟨by repeat (first | (with_reducible first | exact HB.out | apply below_alloc | apply pw_below_drewN | apply below_drew1) | exact HB.out)⟩⟩
             ·rw [if_neg c33] at H
              have c33b0 : (t172 == x18_2) = false := beq_eq_false_iff_ne.mpr c33
              have c33b1 : (t172 != x18_2) = true := bne_iff_ne.mpr c33
              have H' := Aside0.mk H
              clear H
              go_wp2
              repeat (go_quiet (fail); try go_wp2)
              go_meet
              case rel => exact ⟨_, (true), (by first | rfl | (simp; done) | (simp [*]; done)), H', ⟨by have := HJ13.out; have := HK2.out; first | omega | exact Nat.le_refl _⟩, ⟨by (with_reducible repeat (first | apply Kd.R_alloc | apply Kd.R_drewN | apply Kd.R_drew)); exact HO_11.out⟩, ⟨by (with_reducible repeat (first | apply Kd.R_alloc | apply Kd.R_drewN | apply Kd.R_drew)); exact HO_13.out⟩, ⟨by repeat (first | (with_reducible first | exact HB.out | apply below_alloc | apply pw_below_drewN | apply below_drew1) | exact HB.out)⟩⟩
            ·rw [if_neg c32] at H
             have c32b0 : (t173 == 0) = false := beq_eq_false_iff_ne.mpr c32
             have c32b1 : (t173 != 0) = true := bne_iff_ne.mpr c32
             (first | rw [c32b0] | (simp only [i64_w, i32_w]; rw [c32b0]) | skip)
             have H' := Aside0.mk H
             clear H
             go_wp2
             repeat (go_quiet (fail); try go_wp2)
             go_meet
             case rel => exact ⟨_, (true), (by first | rfl | (simp; done) | (simp [*]; done)), H', ⟨by have := HJ13.out; have := HK2.out; first | omega | exact Nat.le_refl _⟩, ⟨by (with_reducible repeat (first | apply Kd.R_alloc | apply Kd.R_drewN | apply Kd.R_drew)); exact HO_11.out⟩, ⟨by (with_reducible repeat (first | apply Kd.R_alloc | apply Kd.R_drewN | apply Kd.R_drew)); exact HO_13.out⟩, ⟨by repeat (first | (with_reducible first | exact HB.out | apply below_alloc | apply pw_below_drewN | apply below_drew1) | exact HB.out)⟩⟩
           case rest =>
            clear HC31
            try clear c1
            try clear c2
            try clear p2
            try clear c3
            try clear c5
            try clear c6
            try clear p6
            try clear c8
            try clear c8b0
            try clear c8b1
            try clear c9
            try clear c9b0
            try clear c9b1
            try clear c20
            try clear c20b0
            try clear c21
            try clear c22
            try clear c22b0
            try clear c22b1
            try clear c23
            try clear c23b0
            try clear c23b1
            try clear c24
            try clear c24b0
            try clear c24b1
            try clear c25
            try clear c25b0
            try clear c25b1
            try clear c28
            try clear c28b0
            try clear c28b1
            try clear c30
            try clear c30b0
            try clear c32
            try clear c32b0
            try clear c32b1
            try clear c33
            try clear c33b0
            try clear c33b1
            try clear c34
            try clear c34b0
            try clear c34b1
            try clear c35
            try clear c35b0
            try clear c35b1
            try clear p2
            try clear p6
            obtain ⟨kq, x116_30, rfl, HA, HJ30, HO_11, HO_13, HB⟩ := hcut
            cases kq with
            | zero => exact absurd HA.out (by simp [gamehalllaw3_KnockoutPlays.j2])
            | succ kj30 =>
             have H := HA.out
             clear HA
             simp only [gamehalllaw3_KnockoutPlays.j2] at H
             by_cases c38 : x116_30 = true
             ·subst c38
              have H1 : (some false) = some r := by rw [if_pos rfl] at H; exact H
              clear H
              have H := H1
              clear H1
              obtain rfl := Option.some.inj H
              go_wp2
              repeat (go_quiet (fail); try go_wp2)
              go_ret
              exact ⟨by first | rfl | (simp [errW_none, errW_some] <;> rfl) | (simp only [← hji7, ← hji29]; first | rfl | (simp [errW_none, errW_some] <;> rfl)) | (simp [*, errW_none, errW_some] <;> rfl), by repeat (first | (with_reducible first | exact HB.out | apply below_alloc | apply pw_below_drewN | apply below_drew1) | exact HB.out)⟩
             ·replace c38 := Bool.eq_false_iff.mpr c38
              subst c38
              have H1 : (gamehalllaw3_KnockoutPlays.l1 kj30 a0 (l1.take ((ji7) : Int).toNat) a2 a3 t172 t174 t178 t179 t180 t183 t184 (-1) (-1) (t174.length : Int) 0) = some r := by rw [if_neg (show ¬ (false = true) by decide)] at H; exact H
              clear H
              have H := H1
              clear H1
              have H' := Aside0.mk H
              clear H
              obtain ⟨Ao39, co39, eo39⟩ := Kd.R_slice HO_11.out
              subst eo39
              go_wp2
              repeat (go_quiet (fail); try go_wp2)
              go_loopg [19, 20, 119] kj30 (fun kq v19 v20 v119 w' => ∃ (x19_4 : Int) (x20_4 : Int) (x119_4 : Int), v19 = .int .i64 x19_4 ∧ v20 = .int .i64 x20_4 ∧ v119 = .int .i64 x119_4 ∧ Aside0 (gamehalllaw3_KnockoutPlays.l1 kq a0 (l1.take ((ji7) : Int).toNat) a2 a3 t172 t174 t178 t179 t180 t183 t184 x19_4 x20_4 (t174.length : Int) x119_4 = some r) ∧ Aside0 (kq ≤ kj30) ∧ Aside0 (Kd.R (Kd.int .i64) 3 w' w.heap.size (fun _ => True) (.slice Ao39 t174.length co39) t174) ∧ Aside0 (Kd.R k148 148 w' w.heap.size (fun _ => True) v181 t178) ∧ Aside0 (Below w.heap.size w w'))
              case atStart => exact ⟨((-1)), ((-1)), (0), (by first | rfl | (simp; done) | (simp [*]; done)), (by first | rfl | (simp; done) | (simp [*]; done)), (by first | rfl | (simp; done) | (simp [*]; done)), H', ⟨Nat.le_refl _⟩, ⟨by (with_reducible repeat (first | apply Kd.R_alloc | apply Kd.R_drewN | apply Kd.R_drew)); exact HO_11.out⟩, ⟨by (with_reducible repeat (first | apply Kd.R_alloc | apply Kd.R_drewN | apply Kd.R_drew)); exact HO_13.out⟩, ⟨by repeat (first | (with_reducible first | exact HB.out | apply below_alloc | apply pw_below_drewN | apply below_drew1) | exact HB.out)⟩⟩
              case round =>
               clear H'
               try clear c1
               try clear c2
               try clear p2
               try clear c3
               try clear c5
               try clear c6
               try clear p6
               try clear c8
               try clear c8b0
               try clear c8b1
               try clear c9
               try clear c9b0
               try clear c9b1
               try clear c20
               try clear c20b0
               try clear c21
               try clear c22
               try clear c22b0
               try clear c22b1
               try clear c23
               try clear c23b0
               try clear c23b1
               try clear c24
               try clear c24b0
               try clear c24b1
               try clear c25
               try clear c25b0
               try clear c25b1
               try clear c28
               try clear c28b0
               try clear c28b1
               try clear c30
               try clear c30b0
               try clear c32
               try clear c32b0
               try clear c32b1
               try clear c33
               try clear c33b0
               try clear c33b1
               try clear c34
               try clear c34b0
               try clear c34b1
               try clear c35
               try clear c35b0
               try clear c35b1
               try clear c38
               try clear p2
               try clear p6
               obtain ⟨x19_4, x20_4, x119_4, rfl, rfl, rfl, HA, HK4, HO_11, HO_13, HB⟩ := hrel
               cases gk with
               | zero => exact absurd HA.out (by simp [gamehalllaw3_KnockoutPlays.l1])
               | succ k4 =>
                have H := HA.out
                clear HA
                simp only [gamehalllaw3_KnockoutPlays.l1] at H
                by_cases c40 : x119_4 < (t174.length : Int)
                ·rw [if_pos c40] at H
                 have c40b0 : decide (x119_4 < (t174.length : Int)) = true := decide_eq_true c40
                 clear c40
                 by_cases c41 : 0 ≤ x119_4
                 ·rw [if_pos c41] at H
                  have c41b0 : decide (0 ≤ x119_4) = true := decide_eq_true c41
                  clear c41
                  by_cases c42 : x119_4 < (t174.length : Int)
                  ·rw [if_pos c42] at H
                   have c42b0 : decide (x119_4 < (t174.length : Int)) = true := decide_eq_true c42
                   clear c42
                   replace H := Option.bind_eq_some_iff.mp H
                   obtain ⟨t186, A430, H⟩ := H
                   replace H : (if t186 ≥ a0 then (if (rd t174 x119_4) = (-1) then (if t186 < a0 then (gamehalllaw3_KnockoutPlays.j4 k4 a0 (l1.take ((ji7) : Int).toNat) a2 a3 t172 t174 t178 t179 t180 t183 t184 x19_4 x20_4 x119_4 t186 (t174.length : Int) x119_4 ((rd t174 x119_4) != t186)) else (gamehalllaw3_KnockoutPlays.j4 k4 a0 (l1.take ((ji7) : Int).toNat) a2 a3 t172 t174 t178 t179 t180 t183 t184 x19_4 x20_4 x119_4 t186 (t174.length : Int) x119_4 false)) else (gamehalllaw3_KnockoutPlays.j4 k4 a0 (l1.take ((ji7) : Int).toNat) a2 a3 t172 t174 t178 t179 t180 t183 t184 x19_4 x20_4 x119_4 t186 (t174.length : Int) x119_4 true)) else (if t186 < a0 then (gamehalllaw3_KnockoutPlays.j4 k4 a0 (l1.take ((ji7) : Int).toNat) a2 a3 t172 t174 t178 t179 t180 t183 t184 x19_4 x20_4 x119_4 t186 (t174.length : Int) x119_4 ((rd t174 x119_4) != t186)) else (gamehalllaw3_KnockoutPlays.j4 k4 a0 (l1.take ((ji7) : Int).toNat) a2 a3 t172 t174 t178 t179 t180 t183 t184 x19_4 x20_4 x119_4 t186 (t174.length : Int) x119_4 false))) = some r := H
                   have A43 := Aside0.mk A430
                   clear A430
                   have HC44 := Aside0.mk H
                   clear H
                   have p185 : 0 ≤ (x119_4 : Int) := of_decide_eq_true (by first | (with_reducible assumption) | assumption)
                   have q185 : x119_4 < (t174.length : Int) := of_decide_eq_true (by first | (with_reducible assumption) | assumption)
                   obtain ⟨ad185, e185, hx185_0⟩ := Kd.at_int (Kd.R_reads' HO_11.out).2.2 x119_4 p185 q185
                   cases e185
                   replace p185 := eq_true p185
                   replace q185 := eq_true q185
                   go_upto_region 20 with (first | (go_at_call 30; (with_reducible refine (gamehallref3_Seat.calls k4 t172 x119_4 t186 _ A43.out).mono ?_); rintro e w' ⟨rfl, ⟨nd, rfl⟩⟩; (try first | exact ⟨rfl, _, World.drewN_drewN _ _ _⟩ | exact ⟨rfl, _, Eq.trans (World.drewN_drewN _ _ _) (congrArg (World.drewN _) (Nat.add_assoc _ _ _))⟩)))
                   repeat (go_quiet (first | (go_at_call 30; (with_reducible refine (gamehallref3_Seat.calls k4 t172 x119_4 t186 _ A43.out).mono ?_); rintro e w' ⟨rfl, ⟨nd, rfl⟩⟩; (try first | exact ⟨rfl, _, World.drewN_drewN _ _ _⟩ | exact ⟨rfl, _, Eq.trans (World.drewN_drewN _ _ _) (congrArg (World.drewN _) (Nat.add_assoc _ _ _))⟩))); go_upto_region 20 with (first | (go_at_call 30; (with_reducible refine (gamehallref3_Seat.calls k4 t172 x119_4 t186 _ A43.out).mono ?_); rintro e w' ⟨rfl, ⟨nd, rfl⟩⟩; (try first | exact ⟨rfl, _, World.drewN_drewN _ _ _⟩ | exact ⟨rfl, _, Eq.trans (World.drewN_drewN _ _ _) (congrArg (World.drewN _) (Nat.add_assoc _ _ _))⟩))))
                   (try simp only [Act.put, List.setIfInBounds_toArray, List.set_cons_zero, List.set_cons_succ])
                   go_cut [143] (fun v143 wc => ∃ (kq : Nat) (x143_43 : Bool), v143 = .bool x143_43 ∧ Aside0 (gamehalllaw3_KnockoutPlays.j4 kq a0 (l1.take ((ji7) : Int).toNat) a2 a3 t172 t174 t178 t179 t180 t183 t184 x19_4 x20_4 x119_4 t186 (t174.length : Int) x119_4 x143_43 = some r) ∧ Aside0 (kq ≤ k4) ∧ Aside0 (Kd.R (Kd.int .i64) 3 wc w.heap.size (fun _ => True) (.slice (some ad185) t174.length co39) t174) ∧ Aside0 (Kd.R k148 148 wc w.heap.size (fun _ => True) v181 t178) ∧ Aside0 (Below w.heap.size w wc))
                   case first =>
                    have H := HC44.out
                    clear HC44
                    by_cases c45 : t186 ≥ a0
                    ·rw [if_pos c45] at H
                     have c45b0 : decide (a0 ≤ t186) = true := decide_eq_true c45
                     clear c45
                     (first | rw [c45b0] | (simp only [i64_w, i32_w]; rw [c45b0]) | skip)
                     by_cases c46 : (rd t174 x119_4) = (-1)
                     ·rw [if_pos c46] at H
                      have c46b0 : ((rd t174 x119_4) == (-1)) = true := beq_iff_eq.mpr c46
                      have c46b1 : ((rd t174 x119_4) != (-1)) = false := bne_eq_false_iff_eq.mpr c46
                      clear c46
                      by_cases c47 : t186 < a0
                      ·rw [if_pos c47] at H
                       have c47b0 : decide (t186 < a0) = true := decide_eq_true c47
                       clear c47
                       have H' := Aside0.mk H
                       clear H
                       go_wp2
                       repeat (go_quiet (fail); try go_wp2)
                       go_meet
                       case rel => exact ⟨_, (((rd t174 x119_4) != t186)), (by first | rfl | (simp; done) | (simp [*]; done)), H', ⟨by have := HJ13.out; have := HK2.out; have := HJ30.out; have := HK4.out; first | omega | exact Nat.le_refl _⟩, ⟨by (with_reducible repeat (first | apply Kd.R_alloc | apply Kd.R_drewN | apply Kd.R_drew)); exact HO_11.out⟩, ⟨by (with_reducible repeat (first | apply Kd.R_alloc | apply Kd.R_drewN | apply Kd.R_drew)); exact HO_13.out⟩, ⟨by repeat (first | (with_reducible first | exact HB.out | apply below_alloc | apply pw_below_drewN | apply below_drew1) | exact HB.out)⟩⟩
                      ·rw [if_neg c47] at H
                       have c47b0 : decide (t186 < a0) = false := decide_eq_false c47
                       clear c47
                       have H' := Aside0.mk H
                       clear H
                       go_wp2
                       repeat (go_quiet (fail); try go_wp2)
                       go_meet
                       case rel => exact ⟨_, (false), (by first | rfl | (simp; done) | (simp [*]; done)), H', ⟨by have := HJ13.out; have := HK2.out; have := HJ30.out; have := HK4.out; first | omega | exact Nat.le_refl _⟩, ⟨by (with_reducible repeat (first | apply Kd.R_alloc | apply Kd.R_drewN | apply Kd.R_drew)); exact HO_11.out⟩, ⟨by (with_reducible repeat (first | apply Kd.R_alloc | apply Kd.R_drewN | apply Kd.R_drew)); exact HO_13.out⟩, ⟨by repeat (first | (with_reducible first | exact HB.out | apply below_alloc | apply pw_below_drewN | apply below_drew1) | exact HB.out)⟩⟩
                     ·rw [if_neg c46] at H
                      have c46b0 : ((rd t174 x119_4) == (-1)) = false := beq_eq_false_iff_ne.mpr c46
                      have c46b1 : ((rd t174 x119_4) != (-1)) = true := bne_iff_ne.mpr c46
                      have H' := Aside0.mk H
                      clear H
                      go_wp2
                      repeat (go_quiet (fail); try go_wp2)
                      go_meet
                      case rel => exact ⟨_, (true), (by first | rfl | (simp; done) | (simp [*]; done)), H', ⟨by have := HJ13.out; have := HK2.out; have := HJ30.out; have := HK4.out; first | omega | exact Nat.le_refl _⟩, ⟨by (with_reducible repeat (first | apply Kd.R_alloc | apply Kd.R_drewN | apply Kd.R_drew)); exact HO_11.out⟩, ⟨by (with_reducible repeat (first | apply Kd.R_alloc | apply Kd.R_drewN | apply Kd.R_drew)); exact HO_13.out⟩, ⟨by repeat (first | (with_reducible first | exact HB.out | apply below_alloc | apply pw_below_drewN | apply below_drew1) | exact HB.out)⟩⟩
                    ·rw [if_neg c45] at H
                     have c45b0 : decide (a0 ≤ t186) = false := decide_eq_false c45
                     clear c45
                     (first | rw [c45b0] | (simp only [i64_w, i32_w]; rw [c45b0]) | skip)
                     by_cases c48 : t186 < a0
                     ·rw [if_pos c48] at H
                      have c48b0 : decide (t186 < a0) = true := decide_eq_true c48
                      clear c48
                      have H' := Aside0.mk H
                      clear H
                      go_wp2
                      repeat (go_quiet (fail); try go_wp2)
                      go_meet
                      case rel => exact ⟨_, (((rd t174 x119_4) != t186)), (by first | rfl | (simp; done) | (simp [*]; done)), H', ⟨by have := HJ13.out; have := HK2.out; have := HJ30.out; have := HK4.out; first | omega | exact Nat.le_refl _⟩, ⟨by (with_reducible repeat (first | apply Kd.R_alloc | apply Kd.R_drewN | apply Kd.R_drew)); exact HO_11.out⟩, ⟨by (with_reducible repeat (first | apply Kd.R_alloc | apply Kd.R_drewN | apply Kd.R_drew)); exact HO_13.out⟩, ⟨by repeat (first | (with_reducible first | exact HB.out | apply below_alloc | apply pw_below_drewN | apply below_drew1) | exact HB.out)⟩⟩
                     ·rw [if_neg c48] at H
                      have c48b0 : decide (t186 < a0) = false := decide_eq_false c48
                      clear c48
                      have H' := Aside0.mk H
                      clear H
                      go_wp2
                      repeat (go_quiet (fail); try go_wp2)
                      go_meet
                      case rel => exact ⟨_, (false), (by first | rfl | (simp; done) | (simp [*]; done)), H', ⟨by have := HJ13.out; have := HK2.out; have := HJ30.out; have := HK4.out; first | omega | exact Nat.le_refl _⟩, ⟨by (with_reducible repeat (first | apply Kd.R_alloc | apply Kd.R_drewN | apply Kd.R_drew)); exact HO_11.out⟩, ⟨by (with_reducible repeat (first | apply Kd.R_alloc | apply Kd.R_drewN | apply Kd.R_drew)); exact HO_13.out⟩, ⟨by repeat (first | (with_reducible first | exact HB.out | apply below_alloc | apply pw_below_drewN | apply below_drew1) | exact HB.out)⟩⟩
                   case rest =>
                    clear HC44
                    try clear c1
                    try clear p1
                    try clear q1
                    try clear hx1
                    try clear c2
                    try clear p2
                    try clear c3
                    try clear c4
                    try clear c5
                    try clear c6
                    try clear p6
                    try clear c8
                    try clear c8b0
                    try clear c8b1
                    try clear c9
                    try clear c9b0
                    try clear c9b1
                    try clear p18
                    try clear q18
                    try clear hx18
                    try clear c20
                    try clear c20b0
                    try clear c21
                    try clear c22
                    try clear c22b0
                    try clear c22b1
                    try clear c23
                    try clear c23b0
                    try clear c23b1
                    try clear c24
                    try clear c24b0
                    try clear c24b1
                    try clear c25
                    try clear c25b0
                    try clear c25b1
                    try clear c28
                    try clear c28b0
                    try clear c28b1
                    try clear c30
                    try clear c30b0
                    try clear c32
                    try clear c32b0
                    try clear c32b1
                    try clear c33
                    try clear c33b0
                    try clear c33b1
                    try clear c34
                    try clear c34b0
                    try clear c34b1
                    try clear c35
                    try clear c35b0
                    try clear c35b1
                    try clear c38
                    try clear c40
                    try clear c40b0
                    try clear c41
                    try clear c41b0
                    try clear c42
                    try clear c42b0
                    try clear c45
                    try clear c45b0
                    try clear c46
                    try clear c46b0
                    try clear c46b1
                    try clear c47
                    try clear c47b0
                    try clear c48
                    try clear c48b0
                    try clear hx185_0
                    try clear p185
                    try clear p2
                    try clear p6
                    try clear q185
                    obtain ⟨kq, x143_43, rfl, HA, HJ43, HO_11, HO_13, HB⟩ := hcut
                    cases kq with
                    | zero => exact absurd HA.out (by simp [gamehalllaw3_KnockoutPlays.j4])
                    | succ kj43 =>
                     have H := HA.out
                     clear HA
                     simp only [gamehalllaw3_KnockoutPlays.j4] at H
                     by_cases c49 : x143_43 = true
                     ·subst c49
                      have H1 : (some false) = some r := by rw [if_pos rfl] at H; exact H
                      clear H
                      have H := H1
                      clear H1
                      obtain rfl := Option.some.inj H
                      go_wp2
                      repeat (go_quiet (fail); try go_wp2)
                      go_ret
                      exact ⟨by first | rfl | (simp [errW_none, errW_some] <;> rfl) | (simp only [← hji7, ← hji29]; first | rfl | (simp [errW_none, errW_some] <;> rfl)) | (simp [*, errW_none, errW_some] <;> rfl), by repeat (first | (with_reducible first | exact HB.out | apply below_alloc | apply pw_below_drewN | apply below_drew1) | exact HB.out)⟩
                     ·replace c49 := Bool.eq_false_iff.mpr c49
                      subst c49
                      have H1 : (if t186 = a2 then (if t186 = a3 then (gamehalllaw3_KnockoutPlays.l1 kj43 a0 (l1.take ((ji7) : Int).toNat) a2 a3 t172 t174 t178 t179 t180 t183 t184 x119_4 x119_4 (t174.length : Int) (wrap64 (x119_4 + 1))) else (gamehalllaw3_KnockoutPlays.l1 kj43 a0 (l1.take ((ji7) : Int).toNat) a2 a3 t172 t174 t178 t179 t180 t183 t184 x119_4 x20_4 (t174.length : Int) (wrap64 (x119_4 + 1)))) else (if t186 = a3 then (gamehalllaw3_KnockoutPlays.l1 kj43 a0 (l1.take ((ji7) : Int).toNat) a2 a3 t172 t174 t178 t179 t180 t183 t184 x19_4 x119_4 (t174.length : Int) (wrap64 (x119_4 + 1))) else (gamehalllaw3_KnockoutPlays.l1 kj43 a0 (l1.take ((ji7) : Int).toNat) a2 a3 t172 t174 t178 t179 t180 t183 t184 x19_4 x20_4 (t174.length : Int) (wrap64 (x119_4 + 1))))) = some r := by rw [if_neg (show ¬ (false = true) by decide)] at H; exact H
                      clear H
                      have H := H1
                      clear H1
                      by_cases c50 : t186 = a2
                      ·rw [if_pos c50] at H
                       have c50b0 : (t186 == a2) = true := beq_iff_eq.mpr c50
                       have c50b1 : (t186 != a2) = false := bne_eq_false_iff_eq.mpr c50
                       clear c50
                       by_cases c51 : t186 = a3
                       ·rw [if_pos c51] at H
                        have c51b0 : (t186 == a3) = true := beq_iff_eq.mpr c51
                        have c51b1 : (t186 != a3) = false := bne_eq_false_iff_eq.mpr c51
                        clear c51
                        have H' := Aside0.mk H
                        clear H
                        go_wp2
                        repeat (go_quiet (fail); try go_wp2)
                        go_roundg kj43
                        case measure => have := HJ13.out; have := HK2.out; have := HJ30.out; have := HK4.out; have := HJ43.out; omega
                        case rel => exact ⟨(x119_4), (x119_4), (wrap64 (x119_4 + 1)), (by first | rfl | (simp; done) | (simp [*]; done)), (by first | rfl | (simp; done) | (simp [*]; done)), (by first | rfl | (simp; done) | (simp [*]; done)), H', ⟨by have := HJ13.out; have := HK2.out; have := HJ30.out; have := HK4.out; have := HJ43.out; omega⟩, ⟨by (with_reducible repeat (first | apply Kd.R_alloc | apply Kd.R_drewN | apply Kd.R_drew)); exact HO_11.out⟩, ⟨by (with_reducible repeat (first | apply Kd.R_alloc | apply Kd.R_drewN | apply Kd.R_drew)); exact HO_13.out⟩, ⟨by repeat (first | (with_reducible first | exact HB.out | apply below_alloc | apply pw_below_drewN | apply below_drew1) | exact HB.out)⟩⟩
                       ·rw [if_neg c51] at H
                        have c51b0 : (t186 == a3) = false := beq_eq_false_iff_ne.mpr c51
                        have c51b1 : (t186 != a3) = true := bne_iff_ne.mpr c51
                        have H' := Aside0.mk H
                        clear H
                        go_wp2
                        repeat (go_quiet (fail); try go_wp2)
                        go_roundg kj43
                        case measure => have := HJ13.out; have := HK2.out; have := HJ30.out; have := HK4.out; have := HJ43.out; omega
                        case rel => exact ⟨(x119_4), (x20_4), (wrap64 (x119_4 + 1)), (by first | rfl | (simp; done) | (simp [*]; done)), (by first | rfl | (simp; done) | (simp [*]; done)), (by first | rfl | (simp; done) | (simp [*]; done)), H', ⟨by have := HJ13.out; have := HK2.out; have := HJ30.out; have := HK4.out; have := HJ43.out; omega⟩, ⟨by (with_reducible repeat (first | apply Kd.R_alloc | apply Kd.R_drewN | apply Kd.R_drew)); exact HO_11.out⟩, ⟨by (with_reducible repeat (first | apply Kd.R_alloc | apply Kd.R_drewN | apply Kd.R_drew)); exact HO_13.out⟩, ⟨by repeat (first | (with_reducible first | exact HB.out | apply below_alloc | apply pw_below_drewN | apply below_drew1) | exact HB.out)⟩⟩
                      ·rw [if_neg c50] at H
                       have c50b0 : (t186 == a2) = false := beq_eq_false_iff_ne.mpr c50
                       have c50b1 : (t186 != a2) = true := bne_iff_ne.mpr c50
                       by_cases c52 : t186 = a3
                       ·rw [if_pos c52] at H
                        have c52b0 : (t186 == a3) = true := beq_iff_eq.mpr c52
                        have c52b1 : (t186 != a3) = false := bne_eq_false_iff_eq.mpr c52
                        clear c52
                        have H' := Aside0.mk H
                        clear H
                        go_wp2
                        repeat (go_quiet (fail); try go_wp2)
                        go_roundg kj43
                        case measure => have := HJ13.out; have := HK2.out; have := HJ30.out; have := HK4.out; have := HJ43.out; omega
                        case rel => exact ⟨(x19_4), (x119_4), (wrap64 (x119_4 + 1)), (by first | rfl | (simp; done) | (simp [*]; done)), (by first | rfl | (simp; done) | (simp [*]; done)), (by first | rfl | (simp; done) | (simp [*]; done)), H', ⟨by have := HJ13.out; have := HK2.out; have := HJ30.out; have := HK4.out; have := HJ43.out; omega⟩, ⟨by (with_reducible repeat (first | apply Kd.R_alloc | apply Kd.R_drewN | apply Kd.R_drew)); exact HO_11.out⟩, ⟨by (with_reducible repeat (first | apply Kd.R_alloc | apply Kd.R_drewN | apply Kd.R_drew)); exact HO_13.out⟩, ⟨by repeat (first | (with_reducible first | exact HB.out | apply below_alloc | apply pw_below_drewN | apply below_drew1) | exact HB.out)⟩⟩
                       ·rw [if_neg c52] at H
                        have c52b0 : (t186 == a3) = false := beq_eq_false_iff_ne.mpr c52
                        have c52b1 : (t186 != a3) = true := bne_iff_ne.mpr c52
                        have H' := Aside0.mk H
                        clear H
                        go_wp2
                        repeat (go_quiet (fail); try go_wp2)
                        go_roundg kj43
                        case measure => have := HJ13.out; have := HK2.out; have := HJ30.out; have := HK4.out; have := HJ43.out; omega
                        case rel => exact ⟨(x19_4), (x20_4), (wrap64 (x119_4 + 1)), (by first | rfl | (simp; done) | (simp [*]; done)), (by first | rfl | (simp; done) | (simp [*]; done)), (by first | rfl | (simp; done) | (simp [*]; done)), H', ⟨by have := HJ13.out; have := HK2.out; have := HJ30.out; have := HK4.out; have := HJ43.out; omega⟩, ⟨by (with_reducible repeat (first | apply Kd.R_alloc | apply Kd.R_drewN | apply Kd.R_drew)); exact HO_11.out⟩, ⟨by (with_reducible repeat (first | apply Kd.R_alloc | apply Kd.R_drewN | apply Kd.R_drew)); exact HO_13.out⟩, ⟨by repeat (first | (with_reducible first | exact HB.out | apply below_alloc | apply pw_below_drewN | apply below_drew1) | exact HB.out)⟩⟩
                  ·rw [if_neg c42] at H
                   exact absurd H (by simp)
                 ·rw [if_neg c41] at H
                  exact absurd H (by simp)
                ·rw [if_neg c40] at H
                 have c40b0 : decide (x119_4 < (t174.length : Int)) = false := decide_eq_false c40
                 clear c40
                 have HC53 := Aside0.mk H
                 clear H
                 go_upto_region 27 with (fail)
                 repeat (go_quiet (fail); go_upto_region 27 with (fail))
                 go_cut [168] (fun v168 wc => ∃ (kq : Nat) (x168_52 : Bool), v168 = .bool x168_52 ∧ Aside0 (gamehalllaw3_KnockoutPlays.j5 kq (l1.take ((ji7) : Int).toNat) t174 t178 t179 t180 t183 t184 x19_4 x20_4 x168_52 = some r) ∧ Aside0 (kq ≤ k4) ∧ Aside0 (Kd.R (Kd.int .i64) 3 wc w.heap.size (fun _ => True) (.slice Ao39 t174.length co39) t174) ∧ Aside0 (Kd.R k148 148 wc w.heap.size (fun _ => True) v181 t178) ∧ Aside0 (Below w.heap.size w wc))
                 case first =>
                  have H := HC53.out
                  clear HC53
                  obtain ⟨ji54, hji54⟩ : ∃ j_ : Int, (mn a2 a3) = j_ := ⟨_, rfl⟩
                  replace H : (if (ji54) < 0 then (gamehalllaw3_KnockoutPlays.j5 k4 (l1.take ((ji7) : Int).toNat) t174 t178 t179 t180 t183 t184 x19_4 x20_4 true) else (if (mx a2 a3) ≥ a0 then (gamehalllaw3_KnockoutPlays.j5 k4 (l1.take ((ji7) : Int).toNat) t174 t178 t179 t180 t183 t184 x19_4 x20_4 true) else (gamehalllaw3_KnockoutPlays.j5 k4 (l1.take ((ji7) : Int).toNat) t174 t178 t179 t180 t183 t184 x19_4 x20_4 (a2 == a3)))) = some r := by first | (rw [hji54] at H; exact H) | (simp only [hji54] at H ⊢; exact H)
                  have hji54_ : (if a3 < a2 then a3 else a2) = ji54 := hji54
                  by_cases c55 : (ji54) < 0
                  ·rw [if_pos c55] at H
                   have c55b0 : decide ((ji54) < 0) = true := decide_eq_true c55
                   clear c55
                   (first | rw [c55b0] | (simp only [i64_w, i32_w]; rw [c55b0]) | skip)
                   have H' := Aside0.mk H
                   clear H
                   go_wp2
                   repeat (go_quiet (fail); try go_wp2)
                   go_meet
                   case rel => exact ⟨_, (true), (by first | rfl | (simp; done) | (simp [*]; done)), H', ⟨by have := HJ13.out; have := HK2.out; have := HJ30.out; have := HK4.out; first | omega | exact Nat.le_refl _⟩, ⟨by (with_reducible repeat (first | apply Kd.R_alloc | apply Kd.R_drewN | apply Kd.R_drew)); exact HO_11.out⟩, ⟨by (with_reducible repeat (first | apply Kd.R_alloc | apply Kd.R_drewN | apply Kd.R_drew)); exact HO_13.out⟩, ⟨by repeat (first | (with_reducible first | exact HB.out | apply below_alloc | apply pw_below_drewN | apply below_drew1) | exact HB.out)⟩⟩
                  ·rw [if_neg c55] at H
                   have c55b0 : decide ((ji54) < 0) = false := decide_eq_false c55
                   clear c55
                   (first | rw [c55b0] | (simp only [i64_w, i32_w]; rw [c55b0]) | skip)
                   obtain ⟨ji56, hji56⟩ : ∃ j_ : Int, (mx a2 a3) = j_ := ⟨_, rfl⟩
                   replace H : (if (ji56) ≥ a0 then (gamehalllaw3_KnockoutPlays.j5 k4 (l1.take ((ji7) : Int).toNat) t174 t178 t179 t180 t183 t184 x19_4 x20_4 true) else (gamehalllaw3_KnockoutPlays.j5 k4 (l1.take ((ji7) : Int).toNat) t174 t178 t179 t180 t183 t184 x19_4 x20_4 (a2 == a3))) = some r := by first | (rw [hji56] at H; exact H) | (simp only [hji56] at H ⊢; exact H)
                   have hji56_ : (if a2 < a3 then a3 else a2) = ji56 := hji56
                   by_cases c57 : (ji56) ≥ a0
                   ·rw [if_pos c57] at H
                    have c57b0 : decide (a0 ≤ (ji56)) = true := decide_eq_true c57
                    clear c57
                    have H' := Aside0.mk H
                    clear H
                    go_wp2
                    repeat (go_quiet (fail); try go_wp2)
                    go_meet
                    case rel => exact ⟨_, (true), (by first | rfl | (simp; done) | (simp [*]; done)), H', ⟨by have := HJ13.out; have := HK2.out; have := HJ30.out; have := HK4.out; first | omega | exact Nat.le_refl _⟩, ⟨by (with_reducible repeat (first | apply Kd.R_alloc | apply Kd.R_drewN | apply Kd.R_drew)); exact HO_11.out⟩, ⟨by (with_reducible repeat (first | apply Kd.R_alloc | apply Kd.R_drewN | apply Kd.R_drew)); exact HO_13.out⟩, ⟨by repeat (first | (with_reducible first | exact HB.out | apply below_alloc | apply pw_below_drewN | apply below_drew1) | exact HB.out)⟩⟩
                   ·rw [if_neg c57] at H
                    have c57b0 : decide (a0 ≤ (ji56)) = false := decide_eq_false c57
                    clear c57
                    have H' := Aside0.mk H
                    clear H
                    go_wp2
                    repeat (go_quiet (fail); try go_wp2)
                    go_meet
                    case rel => exact ⟨_, ((a2 == a3)), (by first | rfl | (simp; done) | (simp [*]; done)), H', ⟨by have := HJ13.out; have := HK2.out; have := HJ30.out; have := HK4.out; first | omega | exact Nat.le_refl _⟩, ⟨by (with_reducible repeat (first | apply Kd.R_alloc | apply Kd.R_drewN | apply Kd.R_drew)); exact HO_11.out⟩, ⟨by (with_reducible repeat (first | apply Kd.R_alloc | apply Kd.R_drewN | apply Kd.R_drew)); exact HO_13.out⟩, ⟨by repeat (first | (with_reducible first | exact HB.out | apply below_alloc | apply pw_below_drewN | apply below_drew1) | exact HB.out)⟩⟩
                 case rest =>
                  clear HC53
                  try clear c1
                  try clear p1
                  try clear q1
                  try clear hx1
                  try clear c2
                  try clear p2
                  try clear c3
                  try clear c4
                  try clear c5
                  try clear c6
                  try clear p6
                  try clear c8
                  try clear c8b0
                  try clear c8b1
                  try clear c9
                  try clear c9b0
                  try clear c9b1
                  try clear p18
                  try clear q18
                  try clear hx18
                  try clear c20
                  try clear c20b0
                  try clear c21
                  try clear c22
                  try clear c22b0
                  try clear c22b1
                  try clear c23
                  try clear c23b0
                  try clear c23b1
                  try clear c24
                  try clear c24b0
                  try clear c24b1
                  try clear c25
                  try clear c25b0
                  try clear c25b1
                  try clear c28
                  try clear c28b0
                  try clear c28b1
                  try clear c30
                  try clear c30b0
                  try clear c32
                  try clear c32b0
                  try clear c32b1
                  try clear c33
                  try clear c33b0
                  try clear c33b1
                  try clear c34
                  try clear c34b0
                  try clear c34b1
                  try clear c35
                  try clear c35b0
                  try clear c35b1
                  try clear c38
                  try clear c40
                  try clear c40b0
                  try clear c41
                  try clear c41b0
                  try clear c42
                  try clear c42b0
                  try clear c45
                  try clear c45b0
                  try clear c46
                  try clear c46b0
                  try clear c46b1
                  try clear c47
                  try clear c47b0
                  try clear c48
                  try clear c48b0
                  try clear c49
                  try clear c50
                  try clear c50b0
                  try clear c50b1
                  try clear c51
                  try clear c51b0
                  try clear c51b1
                  try clear c52
                  try clear c52b0
                  try clear c52b1
                  try clear c55
                  try clear c55b0
                  try clear c57
                  try clear c57b0
                  try clear hx185_0
                  try clear p1
                  try clear p18
                  try clear p185
                  try clear p2
                  try clear p6
                  try clear q1
                  try clear q18
                  try clear q185
                  obtain ⟨kq, x168_52, rfl, HA, HJ52, HO_11, HO_13, HB⟩ := hcut
                  cases kq with
                  | zero => exact absurd HA.out (by simp [gamehalllaw3_KnockoutPlays.j5])
                  | succ kj52 =>
                   have H := HA.out
                   clear HA
                   simp only [gamehalllaw3_KnockoutPlays.j5] at H
                   by_cases c58 : x168_52 = true
                   ·subst c58
                    have H1 : (if t184 = 1 then (if t183 = 0 then ((gamehalllaw3_played.f kj52 t174 (l1.take ((ji7) : Int).toNat) t178 t179 t180).bind fun t187 => (some t187)) else (some false)) else (some false)) = some r := by rw [if_pos rfl] at H; exact H
                    clear H
                    have H := H1
                    clear H1
                    by_cases c59 : t184 = 1
                    ·rw [if_pos c59] at H
                     have c59b0 : (t184 == 1) = true := beq_iff_eq.mpr c59
                     have c59b1 : (t184 != 1) = false := bne_eq_false_iff_eq.mpr c59
                     clear c59
                     by_cases c60 : t183 = 0
                     ·rw [if_pos c60] at H
                      have c60b0 : (t183 == 0) = true := beq_iff_eq.mpr c60
                      have c60b1 : (t183 != 0) = false := bne_eq_false_iff_eq.mpr c60
                      clear c60
                      replace H := Option.bind_eq_some_iff.mp H
                      obtain ⟨t187, A610, H⟩ := H
                      replace H : (some t187) = some r := H
                      have A61 := Aside0.mk A610
                      clear A610
                      obtain rfl := Option.some.inj H
                      obtain ⟨Ao62, co62, eo62⟩ := Kd.R_slice HO_13.out
                      subst eo62
                      go_wp2_with (first | (go_at_call 31; (try rw [HLl1ji7.out]); (with_reducible refine (gamehalllaw3_played.calls kj52 (fun k_ => some k_ = (.slice Ao39 t174.length co39 : Value).ownBlock) _ _ t174 _ _ (l1.take ((ji7) : Int).toNat) _ _ t178 t179 t180 t187 _ ?side1 ?side2 ?side3 ?side4 ?side5 A61.out).mono ?_); (case side1 => exact Kd.R_V (Kd.R_tight rfl (Kd.R_apart' (HO_11.out) (Kd.R_typed HO_13.out) (by decide)))); (case side2 => repeat (first | exact (Kd.C_below HR171.out HB.out) | (with_reducible refine Kd.C_alloc ?_ _) | (with_reducible refine Kd.C_drewN ?_ _) | (with_reducible refine Kd.C_drew ?_))); (case side3 => exact HC171.out); (case side4 => repeat (first | exact (Kd.R_reads' HO_13.out).2.2 | (with_reducible refine Kd.C_alloc ?_ _) | (with_reducible refine Kd.C_drewN ?_ _) | (with_reducible refine Kd.C_drew ?_))); (case side5 => exact (Kd.R_reads' HO_13.out).2.1); rintro e w63 ⟨rfl, hb⟩; have n0_ := Aside0.mk (Kd.R_below (by (with_reducible repeat (first | apply Kd.R_alloc | apply Kd.R_drewN | apply Kd.R_drew)); exact HO_11.out) hb); have n1_ := Aside0.mk (Kd.R_below (by (with_reducible repeat (first | apply Kd.R_alloc | apply Kd.R_drewN | apply Kd.R_drew)); exact HO_13.out) hb); have n2_ := Aside0.mk (below_step (by repeat (first | (with_reducible first | exact HB.out | apply below_alloc | apply pw_below_drewN | apply below_drew1) | exact HB.out)) hb); clear HO_11; clear HO_13; clear HB; have HO_11 := n0_; have HO_13 := n1_; have HB := n2_; clear n0_ n1_ n2_; (try clear hb); (try clear hb2); (try clear hk); (try clear hi)))
                      repeat (go_quiet (first | (go_at_call 31; (try rw [HLl1ji7.out]); (with_reducible refine (gamehalllaw3_played.calls kj52 (fun k_ => some k_ = (.slice Ao39 t174.length co39 : Value).ownBlock) _ _ t174 _ _ (l1.take ((ji7) : Int).toNat) _ _ t178 t179 t180 t187 _ ?side1 ?side2 ?side3 ?side4 ?side5 A61.out).mono ?_); (case side1 => exact Kd.R_V (Kd.R_tight rfl (Kd.R_apart' (HO_11.out) (Kd.R_typed HO_13.out) (by decide)))); (case side2 => repeat (first | exact (Kd.C_below HR171.out HB.out) | (with_reducible refine Kd.C_alloc ?_ _) | (with_reducible refine Kd.C_drewN ?_ _) | (with_reducible refine Kd.C_drew ?_))); (case side3 => exact HC171.out); (case side4 => repeat (first | exact (Kd.R_reads' HO_13.out).2.2 | (with_reducible refine Kd.C_alloc ?_ _) | (with_reducible refine Kd.C_drewN ?_ _) | (with_reducible refine Kd.C_drew ?_))); (case side5 => exact (Kd.R_reads' HO_13.out).2.1); rintro e w63 ⟨rfl, hb⟩; have n0_ := Aside0.mk (Kd.R_below (by (with_reducible repeat (first | apply Kd.R_alloc | apply Kd.R_drewN | apply Kd.R_drew)); exact HO_11.out) hb); have n1_ := Aside0.mk (Kd.R_below (by (with_reducible repeat (first | apply Kd.R_alloc | apply Kd.R_drewN | apply Kd.R_drew)); exact HO_13.out) hb); have n2_ := Aside0.mk (below_step (by repeat (first | (with_reducible first | exact HB.out | apply below_alloc | apply pw_below_drewN | apply below_drew1) | exact HB.out)) hb); clear HO_11; clear HO_13; clear HB; have HO_11 := n0_; have HO_13 := n1_; have HB := n2_; clear n0_ n1_ n2_; (try clear hb); (try clear hb2); (try clear hk); (try clear hi))); try go_wp2_with (first | (go_at_call 31; (try rw [HLl1ji7.out]); (with_reducible refine (gamehalllaw3_played.calls kj52 (fun k_ => some k_ = (.slice Ao39 t174.length co39 : Value).ownBlock) _ _ t174 _ _ (l1.take ((ji7) : Int).toNat) _ _ t178 t179 t180 t187 _ ?side1 ?side2 ?side3 ?side4 ?side5 A61.out).mono ?_); (case side1 => exact Kd.R_V (Kd.R_tight rfl (Kd.R_apart' (HO_11.out) (Kd.R_typed HO_13.out) (by decide)))); (case side2 => repeat (first | exact (Kd.C_below HR171.out HB.out) | (with_reducible refine Kd.C_alloc ?_ _) | (with_reducible refine Kd.C_drewN ?_ _) | (with_reducible refine Kd.C_drew ?_))); (case side3 => exact HC171.out); (case side4 => repeat (first | exact (Kd.R_reads' HO_13.out).2.2 | (with_reducible refine Kd.C_alloc ?_ _) | (with_reducible refine Kd.C_drewN ?_ _) | (with_reducible refine Kd.C_drew ?_))); (case side5 => exact (Kd.R_reads' HO_13.out).2.1); rintro e w63 ⟨rfl, hb⟩; have n0_ := Aside0.mk (Kd.R_below (by (with_reducible repeat (first | apply Kd.R_alloc | apply Kd.R_drewN | apply Kd.R_drew)); exact HO_11.out) hb); have n1_ := Aside0.mk (Kd.R_below (by (with_reducible repeat (first | apply Kd.R_alloc | apply Kd.R_drewN | apply Kd.R_drew)); exact HO_13.out) hb); have n2_ := Aside0.mk (below_step (by repeat (first | (with_reducible first | exact HB.out | apply below_alloc | apply pw_below_drewN | apply below_drew1) | exact HB.out)) hb); clear HO_11; clear HO_13; clear HB; have HO_11 := n0_; have HO_13 := n1_; have HB := n2_; clear n0_ n1_ n2_; (try clear hb); (try clear hb2); (try clear hk); (try clear hi))))
                      go_ret
                      exact ⟨by first | rfl | (simp [errW_none, errW_some] <;> rfl) | (simp only [← hji7, ← hji29]; first | rfl | (simp [errW_none, errW_some] <;> rfl)) | (simp [*, errW_none, errW_some] <;> rfl), by repeat (first | (with_reducible first | exact HB.out | apply below_alloc | apply pw_below_drewN | apply below_drew1) | exact HB.out)⟩
                     ·rw [if_neg c60] at H
                      have c60b0 : (t183 == 0) = false := beq_eq_false_iff_ne.mpr c60
                      have c60b1 : (t183 != 0) = true := bne_iff_ne.mpr c60
                      obtain rfl := Option.some.inj H
                      go_wp2
                      repeat (go_quiet (fail); try go_wp2)
                      go_ret
                      exact ⟨by first | rfl | (simp [errW_none, errW_some] <;> rfl) | (simp only [← hji7, ← hji29]; first | rfl | (simp [errW_none, errW_some] <;> rfl)) | (simp [*, errW_none, errW_some] <;> rfl), by repeat (first | (with_reducible first | exact HB.out | apply below_alloc | apply pw_below_drewN | apply below_drew1) | exact HB.out)⟩
                    ·rw [if_neg c59] at H
                     have c59b0 : (t184 == 1) = false := beq_eq_false_iff_ne.mpr c59
                     have c59b1 : (t184 != 1) = true := bne_iff_ne.mpr c59
                     obtain rfl := Option.some.inj H
                     go_wp2
                     repeat (go_quiet (fail); try go_wp2)
                     go_ret
                     exact ⟨by first | rfl | (simp [errW_none, errW_some] <;> rfl) | (simp only [← hji7, ← hji29]; first | rfl | (simp [errW_none, errW_some] <;> rfl)) | (simp [*, errW_none, errW_some] <;> rfl), by repeat (first | (with_reducible first | exact HB.out | apply below_alloc | apply pw_below_drewN | apply below_drew1) | exact HB.out)⟩
                   ·replace c58 := Bool.eq_false_iff.mpr c58
                    subst c58
                    have H1 : (gamehalllaw3_KnockoutPlays.l2 kj52 (l1.take ((ji7) : Int).toNat) t174 t178 t179 t180 t183 t184 x19_4 x20_4 0) = some r := by rw [if_neg (show ¬ (false = true) by decide)] at H; exact H
                    clear H
                    have H := H1
                    clear H1
                    have H' := Aside0.mk H
                    clear H
                    go_wp2
                    repeat (go_quiet (fail); try go_wp2)
                    go_loopg [24] kj52 (fun kq v24 w' => ∃ (x24_6 : Int), v24 = .int .i64 x24_6 ∧ Aside0 (gamehalllaw3_KnockoutPlays.l2 kq (l1.take ((ji7) : Int).toNat) t174 t178 t179 t180 t183 t184 x19_4 x20_4 x24_6 = some r) ∧ Aside0 (kq ≤ kj52) ∧ Aside0 (Kd.R (Kd.int .i64) 3 w' w.heap.size (fun _ => True) (.slice Ao39 t174.length co39) t174) ∧ Aside0 (Kd.R k148 148 w' w.heap.size (fun _ => True) v181 t178) ∧ Aside0 (Below w.heap.size w w'))
                    case atStart => exact ⟨(0), (by first | rfl | (simp; done) | (simp [*]; done)), H', ⟨Nat.le_refl _⟩, ⟨by (with_reducible repeat (first | apply Kd.R_alloc | apply Kd.R_drewN | apply Kd.R_drew)); exact HO_11.out⟩, ⟨by (with_reducible repeat (first | apply Kd.R_alloc | apply Kd.R_drewN | apply Kd.R_drew)); exact HO_13.out⟩, ⟨by repeat (first | (with_reducible first | exact HB.out | apply below_alloc | apply pw_below_drewN | apply below_drew1) | exact HB.out)⟩⟩
                    case round =>
                     clear H'
                     try clear c1
                     try clear p1
                     try clear q1
                     try clear hx1
                     try clear c2
                     try clear p2
                     try clear c3
                     try clear c4
                     try clear c5
                     try clear c6
                     try clear p6
                     try clear c8
                     try clear c8b0
                     try clear c8b1
                     try clear c9
                     try clear c9b0
                     try clear c9b1
                     try clear p18
                     try clear q18
                     try clear hx18
                     try clear c20
                     try clear c20b0
                     try clear c21
                     try clear c22
                     try clear c22b0
                     try clear c22b1
                     try clear c23
                     try clear c23b0
                     try clear c23b1
                     try clear c24
                     try clear c24b0
                     try clear c24b1
                     try clear c25
                     try clear c25b0
                     try clear c25b1
                     try clear c28
                     try clear c28b0
                     try clear c28b1
                     try clear c30
                     try clear c30b0
                     try clear c32
                     try clear c32b0
                     try clear c32b1
                     try clear c33
                     try clear c33b0
                     try clear c33b1
                     try clear c34
                     try clear c34b0
                     try clear c34b1
                     try clear c35
                     try clear c35b0
                     try clear c35b1
                     try clear c38
                     try clear c40
                     try clear c40b0
                     try clear c41
                     try clear c41b0
                     try clear c42
                     try clear c42b0
                     try clear c45
                     try clear c45b0
                     try clear c46
                     try clear c46b0
                     try clear c46b1
                     try clear c47
                     try clear c47b0
                     try clear c48
                     try clear c48b0
                     try clear c49
                     try clear c50
                     try clear c50b0
                     try clear c50b1
                     try clear c51
                     try clear c51b0
                     try clear c51b1
                     try clear c52
                     try clear c52b0
                     try clear c52b1
                     try clear c55
                     try clear c55b0
                     try clear c57
                     try clear c57b0
                     try clear c58
                     try clear c59
                     try clear c59b0
                     try clear c59b1
                     try clear c60
                     try clear c60b0
                     try clear c60b1
                     try clear hx185_0
                     try clear p1
                     try clear p18
                     try clear p185
                     try clear p2
                     try clear p6
                     try clear q1
                     try clear q18
                     try clear q185
                     obtain ⟨x24_6, rfl, HA, HK6, HO_11, HO_13, HB⟩ := hrel
                     cases gk with
                     | zero => exact absurd HA.out (by simp [gamehalllaw3_KnockoutPlays.l2])
                     | succ k6 =>
                      have H := HA.out
                      clear HA
                      simp only [gamehalllaw3_KnockoutPlays.l2] at H
                      obtain ⟨ji64, hji64⟩ : ∃ j_ : Int, (wrap64 (x24_6 + 1)) = j_ := ⟨_, rfl⟩
                      replace H : (if 0 ≤ (ji64) then (if (shr .i64 x19_4 (ji64)) = (shr .i64 x20_4 (ji64)) then (if t184 = 0 then (if t183 = x24_6 then ((gamehalllaw3_played.f k6 t174 (l1.take ((ji7) : Int).toNat) t178 t179 t180).bind fun t188 => (some t188)) else (some false)) else (some false)) else (gamehalllaw3_KnockoutPlays.l2 k6 (l1.take ((ji7) : Int).toNat) t174 t178 t179 t180 t183 t184 x19_4 x20_4 ji64)) else (none)) = some r := by first | (rw [hji64] at H; exact H) | (simp only [hji64] at H ⊢; exact H)
                      have hji64w : (IntKind.i64.wrap (x24_6 + 1)) = ji64 := (i64_w _).trans hji64
                      by_cases c65 : 0 ≤ (ji64)
                      ·rw [if_pos c65] at H
                       have c65b0 := eq_true c65
                       have c65b1 : decide (0 ≤ (ji64)) = true := decide_eq_true c65
                       clear c65
                       obtain ⟨ji66, hji66⟩ : ∃ j_ : Int, (shr .i64 x19_4 (ji64)) = j_ := ⟨_, rfl⟩
                       replace H : (if (ji66) = (shr .i64 x20_4 (ji64)) then (if t184 = 0 then (if t183 = x24_6 then ((gamehalllaw3_played.f k6 t174 (l1.take ((ji7) : Int).toNat) t178 t179 t180).bind fun t188 => (some t188)) else (some false)) else (some false)) else (gamehalllaw3_KnockoutPlays.l2 k6 (l1.take ((ji7) : Int).toNat) t174 t178 t179 t180 t183 t184 x19_4 x20_4 ji64)) = some r := by first | (rw [hji66] at H; exact H) | (simp only [hji66] at H ⊢; exact H)
                       have hji66_ : (x19_4 / 2 ^ min (ji64).toNat 64) = ji66 := hji66
                       have hji66z : (ji64) ≤ 64 → (x19_4 / 2 ^ (ji64).toNat) = ji66 := shr_small hji66
                       have c67b0 := eq_true (of_decide_eq_true (by first | (with_reducible assumption) | assumption) : 0 ≤ (ji64))
                       obtain ⟨ji68, hji68⟩ : ∃ j_ : Int, (shr .i64 x20_4 (ji64)) = j_ := ⟨_, rfl⟩
                       replace H : (if (ji66) = (ji68) then (if t184 = 0 then (if t183 = x24_6 then ((gamehalllaw3_played.f k6 t174 (l1.take ((ji7) : Int).toNat) t178 t179 t180).bind fun t188 => (some t188)) else (some false)) else (some false)) else (gamehalllaw3_KnockoutPlays.l2 k6 (l1.take ((ji7) : Int).toNat) t174 t178 t179 t180 t183 t184 x19_4 x20_4 ji64)) = some r := by first | (rw [hji68] at H; exact H) | (simp only [hji68] at H ⊢; exact H)
                       have hji68_ : (x20_4 / 2 ^ min (ji64).toNat 64) = ji68 := hji68
                       have hji68z : (ji64) ≤ 64 → (x20_4 / 2 ^ (ji64).toNat) = ji68 := shr_small hji68
                       by_cases c69 : (ji66) = (ji68)
                       ·rw [if_pos c69] at H
                        have c69b0 : ((ji66) == (ji68)) = true := beq_iff_eq.mpr c69
                        have c69b1 : ((ji66) != (ji68)) = false := bne_eq_false_iff_eq.mpr c69
                        clear c69
                        by_cases c70 : t184 = 0
                        ·rw [if_pos c70] at H
                         have c70b0 : (t184 == 0) = true := beq_iff_eq.mpr c70
                         have c70b1 : (t184 != 0) = false := bne_eq_false_iff_eq.mpr c70
                         clear c70
                         by_cases c71 : t183 = x24_6
                         ·rw [if_pos c71] at H
                          have c71b0 : (t183 == x24_6) = true := beq_iff_eq.mpr c71
                          have c71b1 : (t183 != x24_6) = false := bne_eq_false_iff_eq.mpr c71
                          clear c71
                          replace H := Option.bind_eq_some_iff.mp H
                          obtain ⟨t188, A720, H⟩ := H
                          replace H : (some t188) = some r := H
                          have A72 := Aside0.mk A720
                          clear A720
                          obtain rfl := Option.some.inj H
                          obtain ⟨Ao73, co73, eo73⟩ := Kd.R_slice HO_13.out
                          subst eo73
                          go_wp2_with (first | (go_at_call 31; (try rw [HLl1ji7.out]); (with_reducible refine (gamehalllaw3_played.calls k6 (fun k_ => some k_ = (.slice Ao39 t174.length co39 : Value).ownBlock) _ _ t174 _ _ (l1.take ((ji7) : Int).toNat) _ _ t178 t179 t180 t188 _ ?side1 ?side2 ?side3 ?side4 ?side5 A72.out).mono ?_); (case side1 => exact Kd.R_V (Kd.R_tight rfl (Kd.R_apart' (HO_11.out) (Kd.R_typed HO_13.out) (by decide)))); (case side2 => repeat (first | exact (Kd.C_below HR171.out HB.out) | (with_reducible refine Kd.C_alloc ?_ _) | (with_reducible refine Kd.C_drewN ?_ _) | (with_reducible refine Kd.C_drew ?_))); (case side3 => exact HC171.out); (case side4 => repeat (first | exact (Kd.R_reads' HO_13.out).2.2 | (with_reducible refine Kd.C_alloc ?_ _) | (with_reducible refine Kd.C_drewN ?_ _) | (with_reducible refine Kd.C_drew ?_))); (case side5 => exact (Kd.R_reads' HO_13.out).2.1); rintro e w74 ⟨rfl, hb⟩; have n0_ := Aside0.mk (Kd.R_below (by (with_reducible repeat (first | apply Kd.R_alloc | apply Kd.R_drewN | apply Kd.R_drew)); exact HO_11.out) hb); have n1_ := Aside0.mk (Kd.R_below (by (with_reducible repeat (first | apply Kd.R_alloc | apply Kd.R_drewN | apply Kd.R_drew)); exact HO_13.out) hb); have n2_ := Aside0.mk (below_step (by repeat (first | (with_reducible first | exact HB.out | apply below_alloc | apply pw_below_drewN | apply below_drew1) | exact HB.out)) hb); clear HO_11; clear HO_13; clear HB; have HO_11 := n0_; have HO_13 := n1_; have HB := n2_; clear n0_ n1_ n2_; (try clear hb); (try clear hb2); (try clear hk); (try clear hi)))
                          repeat (go_quiet (first | (go_at_call 31; (try rw [HLl1ji7.out]); (with_reducible refine (gamehalllaw3_played.calls k6 (fun k_ => some k_ = (.slice Ao39 t174.length co39 : Value).ownBlock) _ _ t174 _ _ (l1.take ((ji7) : Int).toNat) _ _ t178 t179 t180 t188 _ ?side1 ?side2 ?side3 ?side4 ?side5 A72.out).mono ?_); (case side1 => exact Kd.R_V (Kd.R_tight rfl (Kd.R_apart' (HO_11.out) (Kd.R_typed HO_13.out) (by decide)))); (case side2 => repeat (first | exact (Kd.C_below HR171.out HB.out) | (with_reducible refine Kd.C_alloc ?_ _) | (with_reducible refine Kd.C_drewN ?_ _) | (with_reducible refine Kd.C_drew ?_))); (case side3 => exact HC171.out); (case side4 => repeat (first | exact (Kd.R_reads' HO_13.out).2.2 | (with_reducible refine Kd.C_alloc ?_ _) | (with_reducible refine Kd.C_drewN ?_ _) | (with_reducible refine Kd.C_drew ?_))); (case side5 => exact (Kd.R_reads' HO_13.out).2.1); rintro e w74 ⟨rfl, hb⟩; have n0_ := Aside0.mk (Kd.R_below (by (with_reducible repeat (first | apply Kd.R_alloc | apply Kd.R_drewN | apply Kd.R_drew)); exact HO_11.out) hb); have n1_ := Aside0.mk (Kd.R_below (by (with_reducible repeat (first | apply Kd.R_alloc | apply Kd.R_drewN | apply Kd.R_drew)); exact HO_13.out) hb); have n2_ := Aside0.mk (below_step (by repeat (first | (with_reducible first | exact HB.out | apply below_alloc | apply pw_below_drewN | apply below_drew1) | exact HB.out)) hb); clear HO_11; clear HO_13; clear HB; have HO_11 := n0_; have HO_13 := n1_; have HB := n2_; clear n0_ n1_ n2_; (try clear hb); (try clear hb2); (try clear hk); (try clear hi))); try go_wp2_with (first | (go_at_call 31; (try rw [HLl1ji7.out]); (with_reducible refine (gamehalllaw3_played.calls k6 (fun k_ => some k_ = (.slice Ao39 t174.length co39 : Value).ownBlock) _ _ t174 _ _ (l1.take ((ji7) : Int).toNat) _ _ t178 t179 t180 t188 _ ?side1 ?side2 ?side3 ?side4 ?side5 A72.out).mono ?_); (case side1 => exact Kd.R_V (Kd.R_tight rfl (Kd.R_apart' (HO_11.out) (Kd.R_typed HO_13.out) (by decide)))); (case side2 => repeat (first | exact (Kd.C_below HR171.out HB.out) | (with_reducible refine Kd.C_alloc ?_ _) | (with_reducible refine Kd.C_drewN ?_ _) | (with_reducible refine Kd.C_drew ?_))); (case side3 => exact HC171.out); (case side4 => repeat (first | exact (Kd.R_reads' HO_13.out).2.2 | (with_reducible refine Kd.C_alloc ?_ _) | (with_reducible refine Kd.C_drewN ?_ _) | (with_reducible refine Kd.C_drew ?_))); (case side5 => exact (Kd.R_reads' HO_13.out).2.1); rintro e w74 ⟨rfl, hb⟩; have n0_ := Aside0.mk (Kd.R_below (by (with_reducible repeat (first | apply Kd.R_alloc | apply Kd.R_drewN | apply Kd.R_drew)); exact HO_11.out) hb); have n1_ := Aside0.mk (Kd.R_below (by (with_reducible repeat (first | apply Kd.R_alloc | apply Kd.R_drewN | apply Kd.R_drew)); exact HO_13.out) hb); have n2_ := Aside0.mk (below_step (by repeat (first | (with_reducible first | exact HB.out | apply below_alloc | apply pw_below_drewN | apply below_drew1) | exact HB.out)) hb); clear HO_11; clear HO_13; clear HB; have HO_11 := n0_; have HO_13 := n1_; have HB := n2_; clear n0_ n1_ n2_; (try clear hb); (try clear hb2); (try clear hk); (try clear hi))))
                          go_ret
                          exact ⟨by first | rfl | (simp [errW_none, errW_some] <;> rfl) | (simp only [← hji7, ← hji29, ← hji64, ← hji66, ← hji68]; first | rfl | (simp [errW_none, errW_some] <;> rfl)) | (simp [*, errW_none, errW_some] <;> rfl), by repeat (first | (with_reducible first | exact HB.out | apply below_alloc | apply pw_below_drewN | apply below_drew1) | exact HB.out)⟩
                         ·rw [if_neg c71] at H
                          have c71b0 : (t183 == x24_6) = false := beq_eq_false_iff_ne.mpr c71
                          have c71b1 : (t183 != x24_6) = true := bne_iff_ne.mpr c71
                          obtain rfl := Option.some.inj H
                          go_wp2
                          repeat (go_quiet (fail); try go_wp2)
                          go_ret
                          exact ⟨by first | rfl | (simp [errW_none, errW_some] <;> rfl) | (simp only [← hji7, ← hji29, ← hji64, ← hji66, ← hji68]; first | rfl | (simp [errW_none, errW_some] <;> rfl)) | (simp [*, errW_none, errW_some] <;> rfl), by repeat (first | (with_reducible first | exact HB.out | apply below_alloc | apply pw_below_drewN | apply below_drew1) | exact HB.out)⟩
                        ·rw [if_neg c70] at H
                         have c70b0 : (t184 == 0) = false := beq_eq_false_iff_ne.mpr c70
                         have c70b1 : (t184 != 0) = true := bne_iff_ne.mpr c70
                         obtain rfl := Option.some.inj H
                         go_wp2
                         repeat (go_quiet (fail); try go_wp2)
                         go_ret
                         exact ⟨by first | rfl | (simp [errW_none, errW_some] <;> rfl) | (simp only [← hji7, ← hji29, ← hji64, ← hji66, ← hji68]; first | rfl | (simp [errW_none, errW_some] <;> rfl)) | (simp [*, errW_none, errW_some] <;> rfl), by repeat (first | (with_reducible first | exact HB.out | apply below_alloc | apply pw_below_drewN | apply below_drew1) | exact HB.out)⟩
                       ·rw [if_neg c69] at H
                        have c69b0 : ((ji66) == (ji68)) = false := beq_eq_false_iff_ne.mpr c69
                        have c69b1 : ((ji66) != (ji68)) = true := bne_iff_ne.mpr c69
                        have H' := Aside0.mk H
                        clear H
                        go_wp2
                        repeat (go_quiet (fail); try go_wp2)
                        go_roundg k6
                        case measure => have := HJ13.out; have := HK2.out; have := HJ30.out; have := HK4.out; have := HJ52.out; have := HK6.out; omega
                        case rel => exact ⟨(ji64), (by first | rfl | (simp; done) | (simp only [← hji64] <;> (first | rfl | simp)) | (simp [*]; done)), H', ⟨by have := HJ13.out; have := HK2.out; have := HJ30.out; have := HK4.out; have := HJ52.out; have := HK6.out; omega⟩, ⟨by (with_reducible repeat (first | apply Kd.R_alloc | apply Kd.R_drewN | apply Kd.R_drew)); exact HO_11.out⟩, ⟨by (with_reducible repeat (first | apply Kd.R_alloc | apply Kd.R_drewN | apply Kd.R_drew)); exact HO_13.out⟩, ⟨by repeat (first | (with_reducible first | exact HB.out | apply below_alloc | apply pw_below_drewN | apply below_drew1) | exact HB.out)⟩⟩
                      ·rw [if_neg c65] at H
                       exact absurd H (by simp)
         ·rw [if_neg c28] at H
          exact absurd H (by simp)
   ·rw [if_neg c9] at H
    exact absurd H (by simp)
  ·rw [if_neg c8] at H
   exact absurd H (by simp)
 ·replace c6 := Bool.eq_false_iff.mpr c6
  subst c6
  have H1 : (some false) = some r := by rw [if_neg (show ¬ (false = true) by decide)] at H; exact H
  clear H
  have H := H1
  clear H1
  obtain rfl := Option.some.inj H
  go_enter Try.func5, Try.ntmps5
  go_wp2_with (first | (go_at_call 25; (with_reducible refine (gamehalllaw3_brackets.calls k  false _ A5.out).mono ?_); rintro e w75 ⟨rfl, hb⟩; have n0_ := Aside0.mk (below_step (by repeat (first | (with_reducible first | exact HB.out | apply below_alloc | apply pw_below_drewN | apply below_drew1) | exact HB.out)) hb); clear HB; have HB := n0_; clear n0_; (try clear hb); (try clear hb2); (try clear hk); (try clear hi)))
  repeat (go_quiet (first | (go_at_call 25; (with_reducible refine (gamehalllaw3_brackets.calls k  false _ A5.out).mono ?_); rintro e w75 ⟨rfl, hb⟩; have n0_ := Aside0.mk (below_step (by repeat (first | (with_reducible first | exact HB.out | apply below_alloc | apply pw_below_drewN | apply below_drew1) | exact HB.out)) hb); clear HB; have HB := n0_; clear n0_; (try clear hb); (try clear hb2); (try clear hk); (try clear hi))); try go_wp2_with (first | (go_at_call 25; (with_reducible refine (gamehalllaw3_brackets.calls k  false _ A5.out).mono ?_); rintro e w75 ⟨rfl, hb⟩; have n0_ := Aside0.mk (below_step (by repeat (first | (with_reducible first | exact HB.out | apply below_alloc | apply pw_below_drewN | apply below_drew1) | exact HB.out)) hb); clear HB; have HB := n0_; clear n0_; (try clear hb); (try clear hb2); (try clear hk); (try clear hi))))
  go_ret
  exact ⟨by first | rfl | (simp [errW_none, errW_some] <;> rfl) | (simp [*, errW_none, errW_some] <;> rfl), by repeat (first | (with_reducible first | exact HB.out | apply below_alloc | apply pw_below_drewN | apply below_drew1) | exact HB.out)⟩

/-- THE ONE PURE STATEMENT of gamehalllaw3_KnockoutPlays: yours. -/
def gamehalllaw3_KnockoutPlays.Pure : Prop := ∀ (a0 : Int) (l1 : List Int) (a2 : Int) (a3 : Int), ((Lit.int .i64 a0).wf = true) → (l1.length * 8 ≤ 140737488351232 ∧ ∀ y_ ∈ l1, (Lit.int .i64 y_).wf = true) → ((Lit.int .i64 a2).wf = true) → ((Lit.int .i64 a3).wf = true) → ∃ k, gamehalllaw3_KnockoutPlays.f k a0 l1 a2 a3 = some true
theorem gamehalllaw3_KnockoutPlays.walk (P : gamehalllaw3_KnockoutPlays.Pure) (a0 : Int) (l1 : List Int) (A1 : Option Addr) (c1 : Nat) (a2 : Int) (a3 : Int) (w : World) (w0 : (Lit.int .i64 a0).wf = true) (hr1 : Kd.C (Kd.int .i64) w A1 l1.length l1) (hc1 : l1.length ≤ c1) (w1 : l1.length * 8 ≤ 140737488351232 ∧ ∀ y_ ∈ l1, (Lit.int .i64 y_).wf = true) (w2 : (Lit.int .i64 a2).wf = true) (w3 : (Lit.int .i64 a3).wf = true) :
  Calls Try.prog 5 #[.int .i64 a0, .slice A1 l1.length c1, .int .i64 a2, .int .i64 a3] w fun e w' => e = .returned (.bool true) ∧ Below w.heap.size w w' := by
 obtain ⟨k, h⟩ := P a0 l1 a2 a3 w0 w1 w2 w3
 refine (gamehalllaw3_KnockoutPlays.calls k a0 A1 c1 l1 a2 a3 true w hr1 hc1 h).mono ?_
 rintro e w' ⟨rfl, hd⟩
 exact ⟨rfl, hd⟩

end Go.Proofs.Yteooljkamebenaa.PKnockoutPlays
