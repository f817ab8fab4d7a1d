-- Printed by a program of this claim's writer (wip/ext): an extension of the kit's print.
import Derived.Test.YtcncilipmekfhaaPSymmColoursx0
import Derived.Test.YtcncilipmekfhaaPSymmColoursx1
import Derived.Test.YtcncilipmekfhaaPSymmColoursx2
namespace Go.Proofs.Ytcncilipmekfhaa.PSymmColours
open Go.RowKit Go.Proofs.YtcncilipmekfhaaW.PrintWords Go.Proofs.YtcncilipmekfhaaW.PrintLast Go.Proofs.YtcncilipmekfhaaW.PrintMore
attribute [local go_sem] max2_int min2_int max_two min_two max_three min_three max_four min_four   -- for this text's walks alone
set_option linter.unusedVariables false
set_option linter.unusedSimpArgs false

/-! ### gamehalllaw1_SymmColours: function 6 -/
mutual
def gamehalllaw1_SymmColours.j0 : Nat → Int → Int → Int → Bool → Option (Bool)
  | 0, _, _, _, _ => none
  | k + 1, x0, x1, x2, x32 => if x32 = true then (some false) else ((symm_Colours.f k x0 x1 x2).bind fun bt116 => ((gamehallref1_Symmetries.f k x0 x1).bind fun t118 => (if t118 = 0 then (if bt116.2 = 4 then (some (bt116.1 == 0)) else (some false)) else ((gamehallref1_In.f x2 0 16).bind fun t119 => (if t119 = true then (if (wrap64 (x0 * x1)) > 8 then (gamehalllaw1_SymmColours.j1 k x0 x1 x2 bt116.1 bt116.2 true) else (gamehalllaw1_SymmColours.j1 k x0 x1 x2 bt116.1 bt116.2 (decide (x2 > 3)))) else (if bt116.2 = 1 then (some (bt116.1 == 0)) else (some false)))))))
def gamehalllaw1_SymmColours.j1 : Nat → Int → Int → Int → Int → Int → Bool → Option (Bool)
  | 0, _, _, _, _, _, _ => none
  | k + 1, x0, x1, x2, x9, x10, x66 => if x66 = true then (some true) else (gamehalllaw1_SymmColours.l0 k x0 x1 x2 x9 x10 1 (wrap64 (x0 * x1)) 0)
def gamehalllaw1_SymmColours.l0 : Nat → Int → Int → Int → Int → Int → Int → Int → Int → Option (Bool)
  | 0, _, _, _, _, _, _, _, _ => none
  | k + 1, x0, x1, x2, x9, x10, x11, x69, x70 => if x70 < x69 then (gamehalllaw1_SymmColours.l0 k x0 x1 x2 x9 x10 (wrap64 (x11 * x2)) x69 (wrap64 (x70 + 1))) else (gamehalllaw1_SymmColours.l1 k x0 x1 x2 x9 x10 0 x11 0)
def gamehalllaw1_SymmColours.l1 : Nat → Int → Int → Int → Int → Int → Int → Int → Int → Option (Bool)
  | 0, _, _, _, _, _, _, _, _ => none
  | k + 1, x0, x1, x2, x9, x10, x12, x76, x77 => if x77 < x76 then (if 0 ≤ (wrap64 (x0 * x1)) then (if (wrap64 (x0 * x1) : Int).toNat ≤ 35184372088832 then (gamehalllaw1_SymmColours.l2 k x0 x1 x2 x9 x10 x12 (List.replicate (wrap64 (x0 * x1) : Int).toNat 0) 0 x77 x76 x77) else (none)) else (none)) else (if x10 = 0 then (some (x9 == x12)) else (some false))
def gamehalllaw1_SymmColours.l2 : Nat → Int → Int → Int → Int → Int → Int → List Int → Int → Int → Int → Int → Option (Bool)
  | 0, _, _, _, _, _, _, _, _, _, _, _ => none
  | k + 1, x0, x1, x2, x9, x10, x12, x14, x15, x16, x76, x77 => if x15 < (x14.length : Int) then (if x2 = 0 then (none) else (if 0 ≤ x15 then (gamehalllaw1_SymmColours.l2 k x0 x1 x2 x9 x10 x12 (x14.set (x15 : Int).toNat (Int.tmod x16 x2)) (wrap64 (x15 + 1)) (wrap64 (Int.tdiv x16 x2)) x76 x77) else (none))) else ((gamehallref1_Symmetries.f k x0 x1).bind fun t124 => (gamehalllaw1_SymmColours.l3 k x0 x1 x2 x9 x10 x12 x14 true x76 x77 t124 0))
def gamehalllaw1_SymmColours.l3 : Nat → Int → Int → Int → Int → Int → Int → List Int → Bool → Int → Int → Int → Int → Option (Bool)
  | 0, _, _, _, _, _, _, _, _, _, _, _, _ => none
  | k + 1, x0, x1, x2, x9, x10, x12, x14, x17, x76, x77, x102, x103 => if x103 < x102 then (if 0 ≤ (x14.length : Int) then (if ((x14.length : Int) : Int).toNat ≤ 35184372088832 then (gamehalllaw1_SymmColours.l4 k x0 x1 x2 x9 x10 x12 x14 x17 x103 (List.replicate ((x14.length : Int) : Int).toNat 0) x76 x77 x102 x103 (x14.length : Int) 0) else (none)) else (none)) else (if x17 = true then (gamehalllaw1_SymmColours.l1 k x0 x1 x2 x9 x10 (wrap64 (x12 + 1)) x76 (wrap64 (x77 + 1))) else (gamehalllaw1_SymmColours.l1 k x0 x1 x2 x9 x10 x12 x76 (wrap64 (x77 + 1))))
def gamehalllaw1_SymmColours.l4 : Nat → Int → Int → Int → Int → Int → Int → List Int → Bool → Int → List Int → Int → Int → Int → Int → Int → Int → Option (Bool)
  | 0, _, _, _, _, _, _, _, _, _, _, _, _, _, _, _, _ => none
  | k + 1, x0, x1, x2, x9, x10, x12, x14, x17, x18, x19, x76, x77, x102, x103, x110, x111 => if x111 < x110 then (if 0 ≤ x111 then (if x111 < (x14.length : Int) then ((gamehallref1_Moved.f k x0 x1 x18 x111).bind fun t129 => (if 0 ≤ t129 then (if t129 < (x19.length : Int) then (gamehalllaw1_SymmColours.l4 k x0 x1 x2 x9 x10 x12 x14 x17 x18 (x19.set (t129 : Int).toNat (rd x14 x111)) x76 x77 x102 x103 x110 (wrap64 (x111 + 1))) else (none)) else (none))) else (none)) else (none)) else (gamehalllaw1_SymmColours.l5 k x0 x1 x2 x9 x10 x12 x14 x17 x19 x76 x77 x102 x103 (x19.length : Int) 0)
def gamehalllaw1_SymmColours.l5 : Nat → Int → Int → Int → Int → Int → Int → List Int → Bool → List Int → Int → Int → Int → Int → Int → Int → Option (Bool)
  | 0, _, _, _, _, _, _, _, _, _, _, _, _, _, _, _ => none
  | k + 1, x0, x1, x2, x9, x10, x12, x14, x17, x19, x76, x77, x102, x103, x126, x127 => if x127 < x126 then (if 0 ≤ x127 then (if x127 < (x19.length : Int) then (if x127 < (x14.length : Int) then (if (rd x19 x127) = (rd x14 x127) then (gamehalllaw1_SymmColours.l5 k x0 x1 x2 x9 x10 x12 x14 x17 x19 x76 x77 x102 x103 x126 (wrap64 (x127 + 1))) else (if x17 = true then (gamehalllaw1_SymmColours.l3 k x0 x1 x2 x9 x10 x12 x14 (decide ((rd x19 x127) > (rd x14 x127))) x76 x77 x102 (wrap64 (x103 + 1))) else (gamehalllaw1_SymmColours.l3 k x0 x1 x2 x9 x10 x12 x14 false x76 x77 x102 (wrap64 (x103 + 1))))) else (none)) else (none)) else (none)) else (gamehalllaw1_SymmColours.l3 k x0 x1 x2 x9 x10 x12 x14 x17 x76 x77 x102 (wrap64 (x103 + 1)))
end
def gamehalllaw1_SymmColours.f (k : Nat) (a0 : Int) (a1 : Int) (a2 : Int) : Option (Bool) := (symm_Colours.f k 2 2 2).bind fun bt114 => (if bt114.2 = 0 then (gamehalllaw1_SymmColours.j0 k a0 a1 a2 (bt114.1 != 6)) else (gamehalllaw1_SymmColours.j0 k a0 a1 a2 true))
theorem gamehalllaw1_SymmColours.mono_l : ∀ k, (∀ y0 y1 y2 y3, LeO (gamehalllaw1_SymmColours.j0 k y0 y1 y2 y3) (gamehalllaw1_SymmColours.j0 (k + 1) y0 y1 y2 y3)) ∧ (∀ y0 y1 y2 y3 y4 y5, LeO (gamehalllaw1_SymmColours.j1 k y0 y1 y2 y3 y4 y5) (gamehalllaw1_SymmColours.j1 (k + 1) y0 y1 y2 y3 y4 y5)) ∧ (∀ y0 y1 y2 y3 y4 y5 y6 y7, LeO (gamehalllaw1_SymmColours.l0 k y0 y1 y2 y3 y4 y5 y6 y7) (gamehalllaw1_SymmColours.l0 (k + 1) y0 y1 y2 y3 y4 y5 y6 y7)) ∧ (∀ y0 y1 y2 y3 y4 y5 y6 y7, LeO (gamehalllaw1_SymmColours.l1 k y0 y1 y2 y3 y4 y5 y6 y7) (gamehalllaw1_SymmColours.l1 (k + 1) y0 y1 y2 y3 y4 y5 y6 y7)) ∧ (∀ y0 y1 y2 y3 y4 y5 y6 y7 y8 y9 y10, LeO (gamehalllaw1_SymmColours.l2 k y0 y1 y2 y3 y4 y5 y6 y7 y8 y9 y10) (gamehalllaw1_SymmColours.l2 (k + 1) y0 y1 y2 y3 y4 y5 y6 y7 y8 y9 y10)) ∧ (∀ y0 y1 y2 y3 y4 y5 y6 y7 y8 y9 y10 y11, LeO (gamehalllaw1_SymmColours.l3 k y0 y1 y2 y3 y4 y5 y6 y7 y8 y9 y10 y11) (gamehalllaw1_SymmColours.l3 (k + 1) y0 y1 y2 y3 y4 y5 y6 y7 y8 y9 y10 y11)) ∧ (∀ y0 y1 y2 y3 y4 y5 y6 y7 y8 y9 y10 y11 y12 y13 y14 y15, LeO (gamehalllaw1_SymmColours.l4 k y0 y1 y2 y3 y4 y5 y6 y7 y8 y9 y10 y11 y12 y13 y14 y15) (gamehalllaw1_SymmColours.l4 (k + 1) y0 y1 y2 y3 y4 y5 y6 y7 y8 y9 y10 y11 y12 y13 y14 y15)) ∧ (∀ y0 y1 y2 y3 y4 y5 y6 y7 y8 y9 y10 y11 y12 y13 y14, LeO (gamehalllaw1_SymmColours.l5 k y0 y1 y2 y3 y4 y5 y6 y7 y8 y9 y10 y11 y12 y13 y14) (gamehalllaw1_SymmColours.l5 (k + 1) y0 y1 y2 y3 y4 y5 y6 y7 y8 y9 y10 y11 y12 y13 y14))
  | 0 => ⟨fun _ _ _ _ r h => by simp [gamehalllaw1_SymmColours.j0] at h, fun _ _ _ _ _ _ r h => by simp [gamehalllaw1_SymmColours.j1] at h, fun _ _ _ _ _ _ _ _ r h => by simp [gamehalllaw1_SymmColours.l0] at h, fun _ _ _ _ _ _ _ _ r h => by simp [gamehalllaw1_SymmColours.l1] at h, fun _ _ _ _ _ _ _ _ _ _ _ r h => by simp [gamehalllaw1_SymmColours.l2] at h, fun _ _ _ _ _ _ _ _ _ _ _ _ r h => by simp [gamehalllaw1_SymmColours.l3] at h, fun _ _ _ _ _ _ _ _ _ _ _ _ _ _ _ _ r h => by simp [gamehalllaw1_SymmColours.l4] at h, fun _ _ _ _ _ _ _ _ _ _ _ _ _ _ _ r h => by simp [gamehalllaw1_SymmColours.l5] at h⟩
  | k + 1 => by
    obtain ⟨ih0, ih1, ih2, ih3, ih4, ih5, ih6, ih7⟩ := gamehalllaw1_SymmColours.mono_l k
    refine ⟨?_, ?_, ?_, ?_, ?_, ?_, ?_, ?_⟩
    · intro y0 y1 y2 y3
      unfold gamehalllaw1_SymmColours.j0
      repeat' first
      | (with_reducible exact ih0 _ _ _ _)
      | (with_reducible exact ih1 _ _ _ _ _ _)
      | (with_reducible exact ih2 _ _ _ _ _ _ _ _)
      | (with_reducible exact ih3 _ _ _ _ _ _ _ _)
      | (with_reducible exact ih4 _ _ _ _ _ _ _ _ _ _ _)
      | (with_reducible exact ih5 _ _ _ _ _ _ _ _ _ _ _ _)
      | (with_reducible exact ih6 _ _ _ _ _ _ _ _ _ _ _ _ _ _ _ _)
      | (with_reducible exact ih7 _ _ _ _ _ _ _ _ _ _ _ _ _ _ _)
      | (with_reducible exact gamehallref1_Moved.mono _ _ _ _ _)
      | (with_reducible exact gamehallref1_Symmetries.mono _ _ _)
      | (with_reducible exact symm_Colours.mono _ _ _ _)
      | (with_reducible exact LeO.refl _)
      | (with_reducible exact LeO.none _)
      | (with_reducible refine LeO.ite ?_ ?_)
      | (with_reducible refine LeO.bind ?_ (fun _ => ?_))
      | exact ih0 _ _ _ _
      | exact ih1 _ _ _ _ _ _
      | exact ih2 _ _ _ _ _ _ _ _
      | exact ih3 _ _ _ _ _ _ _ _
      | exact ih4 _ _ _ _ _ _ _ _ _ _ _
      | exact ih5 _ _ _ _ _ _ _ _ _ _ _ _
      | exact ih6 _ _ _ _ _ _ _ _ _ _ _ _ _ _ _ _
      | exact ih7 _ _ _ _ _ _ _ _ _ _ _ _ _ _ _
      | exact gamehallref1_Moved.mono _ _ _ _ _
      | exact gamehallref1_Symmetries.mono _ _ _
      | exact symm_Colours.mono _ _ _ _
      | exact LeO.none _
      | refine LeO.ite ?_ ?_
      | refine LeO.bind ?_ (fun _ => ?_)
    · intro y0 y1 y2 y3 y4 y5
      unfold gamehalllaw1_SymmColours.j1
      repeat' first
      | (with_reducible exact ih0 _ _ _ _)
      | (with_reducible exact ih1 _ _ _ _ _ _)
      | (with_reducible exact ih2 _ _ _ _ _ _ _ _)
      | (with_reducible exact ih3 _ _ _ _ _ _ _ _)
      | (with_reducible exact ih4 _ _ _ _ _ _ _ _ _ _ _)
      | (with_reducible exact ih5 _ _ _ _ _ _ _ _ _ _ _ _)
      | (with_reducible exact ih6 _ _ _ _ _ _ _ _ _ _ _ _ _ _ _ _)
      | (with_reducible exact ih7 _ _ _ _ _ _ _ _ _ _ _ _ _ _ _)
      | (with_reducible exact gamehallref1_Moved.mono _ _ _ _ _)
      | (with_reducible exact gamehallref1_Symmetries.mono _ _ _)
      | (with_reducible exact symm_Colours.mono _ _ _ _)
      | (with_reducible exact LeO.refl _)
      | (with_reducible exact LeO.none _)
      | (with_reducible refine LeO.ite ?_ ?_)
      | (with_reducible refine LeO.bind ?_ (fun _ => ?_))
      | exact ih0 _ _ _ _
      | exact ih1 _ _ _ _ _ _
      | exact ih2 _ _ _ _ _ _ _ _
      | exact ih3 _ _ _ _ _ _ _ _
      | exact ih4 _ _ _ _ _ _ _ _ _ _ _
      | exact ih5 _ _ _ _ _ _ _ _ _ _ _ _
      | exact ih6 _ _ _ _ _ _ _ _ _ _ _ _ _ _ _ _
      | exact ih7 _ _ _ _ _ _ _ _ _ _ _ _ _ _ _
      | exact gamehallref1_Moved.mono _ _ _ _ _
      | exact gamehallref1_Symmetries.mono _ _ _
      | exact symm_Colours.mono _ _ _ _
      | exact LeO.none _
      | refine LeO.ite ?_ ?_
      | refine LeO.bind ?_ (fun _ => ?_)
    · intro y0 y1 y2 y3 y4 y5 y6 y7
      unfold gamehalllaw1_SymmColours.l0
      repeat' first
      | (with_reducible exact ih0 _ _ _ _)
      | (with_reducible exact ih1 _ _ _ _ _ _)
      | (with_reducible exact ih2 _ _ _ _ _ _ _ _)
      | (with_reducible exact ih3 _ _ _ _ _ _ _ _)
      | (with_reducible exact ih4 _ _ _ _ _ _ _ _ _ _ _)
      | (with_reducible exact ih5 _ _ _ _ _ _ _ _ _ _ _ _)
      | (with_reducible exact ih6 _ _ _ _ _ _ _ _ _ _ _ _ _ _ _ _)
      | (with_reducible exact ih7 _ _ _ _ _ _ _ _ _ _ _ _ _ _ _)
      | (with_reducible exact gamehallref1_Moved.mono _ _ _ _ _)
      | (with_reducible exact gamehallref1_Symmetries.mono _ _ _)
      | (with_reducible exact symm_Colours.mono _ _ _ _)
      | (with_reducible exact LeO.refl _)
      | (with_reducible exact LeO.none _)
      | (with_reducible refine LeO.ite ?_ ?_)
      | (with_reducible refine LeO.bind ?_ (fun _ => ?_))
      | exact ih0 _ _ _ _
      | exact ih1 _ _ _ _ _ _
      | exact ih2 _ _ _ _ _ _ _ _
      | exact ih3 _ _ _ _ _ _ _ _
      | exact ih4 _ _ _ _ _ _ _ _ _ _ _
      | exact ih5 _ _ _ _ _ _ _ _ _ _ _ _
      | exact ih6 _ _ _ _ _ _ _ _ _ _ _ _ _ _ _ _
      | exact ih7 _ _ _ _ _ _ _ _ _ _ _ _ _ _ _
      | exact gamehallref1_Moved.mono _ _ _ _ _
      | exact gamehallref1_Symmetries.mono _ _ _
      | exact symm_Colours.mono _ _ _ _
      | exact LeO.none _
      | refine LeO.ite ?_ ?_
      | refine LeO.bind ?_ (fun _ => ?_)
    · intro y0 y1 y2 y3 y4 y5 y6 y7
      unfold gamehalllaw1_SymmColours.l1
      repeat' first
      | (with_reducible exact ih0 _ _ _ _)
      | (with_reducible exact ih1 _ _ _ _ _ _)
      | (with_reducible exact ih2 _ _ _ _ _ _ _ _)
      | (with_reducible exact ih3 _ _ _ _ _ _ _ _)
      | (with_reducible exact ih4 _ _ _ _ _ _ _ _ _ _ _)
      | (with_reducible exact ih5 _ _ _ _ _ _ _ _ _ _ _ _)
      | (with_reducible exact ih6 _ _ _ _ _ _ _ _ _ _ _ _ _ _ _ _)
      | (with_reducible exact ih7 _ _ _ _ _ _ _ _ _ _ _ _ _ _ _)
      | (with_reducible exact gamehallref1_Moved.mono _ _ _ _ _)
      | (with_reducible exact gamehallref1_Symmetries.mono _ _ _)
      | (with_reducible exact symm_Colours.mono _ _ _ _)
      | (with_reducible exact LeO.refl _)
      | (with_reducible exact LeO.none _)
      | (with_reducible refine LeO.ite ?_ ?_)
      | (with_reducible refine LeO.bind ?_ (fun _ => ?_))
      | exact ih0 _ _ _ _
      | exact ih1 _ _ _ _ _ _
      | exact ih2 _ _ _ _ _ _ _ _
      | exact ih3 _ _ _ _ _ _ _ _
      | exact ih4 _ _ _ _ _ _ _ _ _ _ _
      | exact ih5 _ _ _ _ _ _ _ _ _ _ _ _
      | exact ih6 _ _ _ _ _ _ _ _ _ _ _ _ _ _ _ _
      | exact ih7 _ _ _ _ _ _ _ _ _ _ _ _ _ _ _
      | exact gamehallref1_Moved.mono _ _ _ _ _
      | exact gamehallref1_Symmetries.mono _ _ _
      | exact symm_Colours.mono _ _ _ _
      | exact LeO.none _
      | refine LeO.ite ?_ ?_
      | refine LeO.bind ?_ (fun _ => ?_)
    · intro y0 y1 y2 y3 y4 y5 y6 y7 y8 y9 y10
      unfold gamehalllaw1_SymmColours.l2
      repeat' first
      | (with_reducible exact ih0 _ _ _ _)
      | (with_reducible exact ih1 _ _ _ _ _ _)
      | (with_reducible exact ih2 _ _ _ _ _ _ _ _)
      | (with_reducible exact ih3 _ _ _ _ _ _ _ _)
      | (with_reducible exact ih4 _ _ _ _ _ _ _ _ _ _ _)
      | (with_reducible exact ih5 _ _ _ _ _ _ _ _ _ _ _ _)
      | (with_reducible exact ih6 _ _ _ _ _ _ _ _ _ _ _ _ _ _ _ _)
      | (with_reducible exact ih7 _ _ _ _ _ _ _ _ _ _ _ _ _ _ _)
      | (with_reducible exact gamehallref1_Moved.mono _ _ _ _ _)
      | (with_reducible exact gamehallref1_Symmetries.mono _ _ _)
      | (with_reducible exact symm_Colours.mono _ _ _ _)
      | (with_reducible exact LeO.refl _)
      | (with_reducible exact LeO.none _)
      | (with_reducible refine LeO.ite ?_ ?_)
      | (with_reducible refine LeO.bind ?_ (fun _ => ?_))
      | exact ih0 _ _ _ _
      | exact ih1 _ _ _ _ _ _
      | exact ih2 _ _ _ _ _ _ _ _
      | exact ih3 _ _ _ _ _ _ _ _
      | exact ih4 _ _ _ _ _ _ _ _ _ _ _
      | exact ih5 _ _ _ _ _ _ _ _ _ _ _ _
      | exact ih6 _ _ _ _ _ _ _ _ _ _ _ _ _ _ _ _
      | exact ih7 _ _ _ _ _ _ _ _ _ _ _ _ _ _ _
      | exact gamehallref1_Moved.mono _ _ _ _ _
      | exact gamehallref1_Symmetries.mono _ _ _
      | exact symm_Colours.mono _ _ _ _
      | exact LeO.none _
      | refine LeO.ite ?_ ?_
      | refine LeO.bind ?_ (fun _ => ?_)
    · intro y0 y1 y2 y3 y4 y5 y6 y7 y8 y9 y10 y11
      unfold gamehalllaw1_SymmColours.l3
      repeat' first
      | (with_reducible exact ih0 _ _ _ _)
      | (with_reducible exact ih1 _ _ _ _ _ _)
      | (with_reducible exact ih2 _ _ _ _ _ _ _ _)
      | (with_reducible exact ih3 _ _ _ _ _ _ _ _)
      | (with_reducible exact ih4 _ _ _ _ _ _ _ _ _ _ _)
      | (with_reducible exact ih5 _ _ _ _ _ _ _ _ _ _ _ _)
      | (with_reducible exact ih6 _ _ _ _ _ _ _ _ _ _ _ _ _ _ _ _)
      | (with_reducible exact ih7 _ _ _ _ _ _ _ _ _ _ _ _ _ _ _)
      | (with_reducible exact gamehallref1_Moved.mono _ _ _ _ _)
      | (with_reducible exact gamehallref1_Symmetries.mono _ _ _)
      | (with_reducible exact symm_Colours.mono _ _ _ _)
      | (with_reducible exact LeO.refl _)
      | (with_reducible exact LeO.none _)
      | (with_reducible refine LeO.ite ?_ ?_)
      | (with_reducible refine LeO.bind ?_ (fun _ => ?_))
      | exact ih0 _ _ _ _
      | exact ih1 _ _ _ _ _ _
      | exact ih2 _ _ _ _ _ _ _ _
      | exact ih3 _ _ _ _ _ _ _ _
      | exact ih4 _ _ _ _ _ _ _ _ _ _ _
      | exact ih5 _ _ _ _ _ _ _ _ _ _ _ _
      | exact ih6 _ _ _ _ _ _ _ _ _ _ _ _ _ _ _ _
      | exact ih7 _ _ _ _ _ _ _ _ _ _ _ _ _ _ _
      | exact gamehallref1_Moved.mono _ _ _ _ _
      | exact gamehallref1_Symmetries.mono _ _ _
      | exact symm_Colours.mono _ _ _ _
      | exact LeO.none _
      | refine LeO.ite ?_ ?_
      | refine LeO.bind ?_ (fun _ => ?_)
    · intro y0 y1 y2 y3 y4 y5 y6 y7 y8 y9 y10 y11 y12 y13 y14 y15
      unfold gamehalllaw1_SymmColours.l4
      repeat' first
      | (with_reducible exact ih0 _ _ _ _)
      | (with_reducible exact ih1 _ _ _ _ _ _)
      | (with_reducible exact ih2 _ _ _ _ _ _ _ _)
      | (with_reducible exact ih3 _ _ _ _ _ _ _ _)
      | (with_reducible exact ih4 _ _ _ _ _ _ _ _ _ _ _)
      | (with_reducible exact ih5 _ _ _ _ _ _ _ _ _ _ _ _)
      | (with_reducible exact ih6 _ _ _ _ _ _ _ _ _ _ _ _ _ _ _ _)
      | (with_reducible exact ih7 _ _ _ _ _ _ _ _ _ _ _ _ _ _ _)
      | (with_reducible exact gamehallref1_Moved.mono _ _ _ _ _)
      | (with_reducible exact gamehallref1_Symmetries.mono _ _ _)
      | (with_reducible exact symm_Colours.mono _ _ _ _)
      | (with_reducible exact LeO.refl _)
      | (with_reducible exact LeO.none _)
      | (with_reducible refine LeO.ite ?_ ?_)
      | (with_reducible refine LeO.bind ?_ (fun _ => ?_))
      | exact ih0 _ _ _ _
      | exact ih1 _ _ _ _ _ _
      | exact ih2 _ _ _ _ _ _ _ _
      | exact ih3 _ _ _ _ _ _ _ _
      | exact ih4 _ _ _ _ _ _ _ _ _ _ _
      | exact ih5 _ _ _ _ _ _ _ _ _ _ _ _
      | exact ih6 _ _ _ _ _ _ _ _ _ _ _ _ _ _ _ _
      | exact ih7 _ _ _ _ _ _ _ _ _ _ _ _ _ _ _
      | exact gamehallref1_Moved.mono _ _ _ _ _
      | exact gamehallref1_Symmetries.mono _ _ _
      | exact symm_Colours.mono _ _ _ _
      | exact LeO.none _
      | refine LeO.ite ?_ ?_
      | refine LeO.bind ?_ (fun _ => ?_)
    · intro y0 y1 y2 y3 y4 y5 y6 y7 y8 y9 y10 y11 y12 y13 y14
      unfold gamehalllaw1_SymmColours.l5
      repeat' first
      | (with_reducible exact ih0 _ _ _ _)
      | (with_reducible exact ih1 _ _ _ _ _ _)
      | (with_reducible exact ih2 _ _ _ _ _ _ _ _)
      | (with_reducible exact ih3 _ _ _ _ _ _ _ _)
      | (with_reducible exact ih4 _ _ _ _ _ _ _ _ _ _ _)
      | (with_reducible exact ih5 _ _ _ _ _ _ _ _ _ _ _ _)
      | (with_reducible exact ih6 _ _ _ _ _ _ _ _ _ _ _ _ _ _ _ _)
      | (with_reducible exact ih7 _ _ _ _ _ _ _ _ _ _ _ _ _ _ _)
      | (with_reducible exact gamehallref1_Moved.mono _ _ _ _ _)
      | (with_reducible exact gamehallref1_Symmetries.mono _ _ _)
      | (with_reducible exact symm_Colours.mono _ _ _ _)
      | (with_reducible exact LeO.refl _)
      | (with_reducible exact LeO.none _)
      | (with_reducible refine LeO.ite ?_ ?_)
      | (with_reducible refine LeO.bind ?_ (fun _ => ?_))
      | exact ih0 _ _ _ _
      | exact ih1 _ _ _ _ _ _
      | exact ih2 _ _ _ _ _ _ _ _
      | exact ih3 _ _ _ _ _ _ _ _
      | exact ih4 _ _ _ _ _ _ _ _ _ _ _
      | exact ih5 _ _ _ _ _ _ _ _ _ _ _ _
      | exact ih6 _ _ _ _ _ _ _ _ _ _ _ _ _ _ _ _
      | exact ih7 _ _ _ _ _ _ _ _ _ _ _ _ _ _ _
      | exact gamehallref1_Moved.mono _ _ _ _ _
      | exact gamehallref1_Symmetries.mono _ _ _
      | exact symm_Colours.mono _ _ _ _
      | exact LeO.none _
      | refine LeO.ite ?_ ?_
      | refine LeO.bind ?_ (fun _ => ?_)
theorem gamehalllaw1_SymmColours.mono : ∀ a0 a1 a2 k, LeO (gamehalllaw1_SymmColours.f k a0 a1 a2) (gamehalllaw1_SymmColours.f (k + 1) a0 a1 a2) := by
  intro a0 a1 a2 k
  obtain ⟨ih0, ih1, ih2, ih3, ih4, ih5, ih6, ih7⟩ := gamehalllaw1_SymmColours.mono_l k
  unfold gamehalllaw1_SymmColours.f
  repeat' first
      | (with_reducible exact ih0 _ _ _ _)
      | (with_reducible exact ih1 _ _ _ _ _ _)
      | (with_reducible exact ih2 _ _ _ _ _ _ _ _)
      | (with_reducible exact ih3 _ _ _ _ _ _ _ _)
      | (with_reducible exact ih4 _ _ _ _ _ _ _ _ _ _ _)
      | (with_reducible exact ih5 _ _ _ _ _ _ _ _ _ _ _ _)
      | (with_reducible exact ih6 _ _ _ _ _ _ _ _ _ _ _ _ _ _ _ _)
      | (with_reducible exact ih7 _ _ _ _ _ _ _ _ _ _ _ _ _ _ _)
      | (with_reducible exact gamehallref1_Moved.mono _ _ _ _ _)
      | (with_reducible exact gamehallref1_Symmetries.mono _ _ _)
      | (with_reducible exact symm_Colours.mono _ _ _ _)
      | (with_reducible exact LeO.refl _)
      | (with_reducible exact LeO.none _)
      | (with_reducible refine LeO.ite ?_ ?_)
      | (with_reducible refine LeO.bind ?_ (fun _ => ?_))
      | exact ih0 _ _ _ _
      | exact ih1 _ _ _ _ _ _
      | exact ih2 _ _ _ _ _ _ _ _
      | exact ih3 _ _ _ _ _ _ _ _
      | exact ih4 _ _ _ _ _ _ _ _ _ _ _
      | exact ih5 _ _ _ _ _ _ _ _ _ _ _ _
      | exact ih6 _ _ _ _ _ _ _ _ _ _ _ _ _ _ _ _
      | exact ih7 _ _ _ _ _ _ _ _ _ _ _ _ _ _ _
      | exact gamehallref1_Moved.mono _ _ _ _ _
      | exact gamehallref1_Symmetries.mono _ _ _
      | exact symm_Colours.mono _ _ _ _
      | exact LeO.none _
      | refine LeO.ite ?_ ?_
      | refine LeO.bind ?_ (fun _ => ?_)
set_option maxHeartbeats 8000000 in
set_option maxRecDepth 100000 in
theorem gamehalllaw1_SymmColours.calls (k : Nat) (a0 : Int) (a1 : Int) (a2 : Int) (r : Bool) (w : World) (h : gamehalllaw1_SymmColours.f k a0 a1 a2 = some r) :
    Calls Try.prog 6 #[.int .i64 a0, .int .i64 a1, .int .i64 a2] w fun e w' => e = .returned (.bool r) ∧ Below w.heap.size w w' := by
 have HB := Aside0.mk (Below.refl w.heap.size w)
 have H : ((symm_Colours.f k 2 2 2).bind fun bt114 => (if bt114.2 = 0 then (gamehalllaw1_SymmColours.j0 k a0 a1 a2 (bt114.1 != 6)) else (gamehalllaw1_SymmColours.j0 k a0 a1 a2 true))) = some r := h
 clear h
 replace H := Option.bind_eq_some_iff.mp H
 obtain ⟨⟨t114, t115⟩, A40, H⟩ := H
 replace H : (if t115 = 0 then (gamehalllaw1_SymmColours.j0 k a0 a1 a2 (t114 != 6)) else (gamehalllaw1_SymmColours.j0 k a0 a1 a2 true)) = some r := H
 have A4 := Aside0.mk A40
 clear A40
 have HC5 := Aside0.mk H
 clear H
 go_enter Try.func6, Try.ntmps6
 go_upto_region 2 with (first | (go_at_call 18; (with_reducible refine (symm_Colours.calls k 2 2 2 t114 t115 _ A4.out).mono ?_); rintro e w6 ⟨rfl, hb⟩; have n0_ := Aside0.mk (below_step (by repeat (first | (with_reducible first | exact HB.out | apply below_alloc | apply pw_below_drewN | apply below_drew1) | exact HB.out)) hb); clear HB; have HB := n0_; clear n0_; (try clear hb); (try clear hb2); (try clear hk); (try clear hi)))
 repeat (go_quiet (first | (go_at_call 18; (with_reducible refine (symm_Colours.calls k 2 2 2 t114 t115 _ A4.out).mono ?_); rintro e w6 ⟨rfl, hb⟩; have n0_ := Aside0.mk (below_step (by repeat (first | (with_reducible first | exact HB.out | apply below_alloc | apply pw_below_drewN | apply below_drew1) | exact HB.out)) hb); clear HB; have HB := n0_; clear n0_; (try clear hb); (try clear hb2); (try clear hk); (try clear hi))); go_upto_region 2 with (first | (go_at_call 18; (with_reducible refine (symm_Colours.calls k 2 2 2 t114 t115 _ A4.out).mono ?_); rintro e w6 ⟨rfl, hb⟩; have n0_ := Aside0.mk (below_step (by repeat (first | (with_reducible first | exact HB.out | apply below_alloc | apply pw_below_drewN | apply below_drew1) | exact HB.out)) hb); clear HB; have HB := n0_; clear n0_; (try clear hb); (try clear hb2); (try clear hk); (try clear hi))))
 (try simp only [Act.put, List.setIfInBounds_toArray, List.set_cons_zero, List.set_cons_succ])
 go_cut [32] (fun v32 wc => ∃ (kq : Nat) (x32_4 : Bool), v32 = .bool x32_4 ∧ Aside0 (gamehalllaw1_SymmColours.j0 kq a0 a1 a2 x32_4 = some r) ∧ Aside0 (kq ≤ k) ∧ Aside0 (Below w.heap.size w wc))
 case first =>
  have H := HC5.out
  clear HC5
  by_cases c7 : t115 = 0
  ·rw [if_pos c7] at H
   have c7b0 : (t115 == 0) = true := beq_iff_eq.mpr c7
   have c7b1 : (t115 != 0) = false := bne_eq_false_iff_eq.mpr c7
   clear c7
   (first | rw [c7b0] | (simp only [i64_w, i32_w]; rw [c7b0]) | skip)
   have H' := Aside0.mk H
   clear H
   go_wp2
   repeat (go_quiet (fail); try go_wp2)
   go_meet
   case rel => exact ⟨_, ((t114 != 6)), (by first | rfl | (simp; done) | (simp [*]; done)), H', ⟨by first | omega | exact Nat.le_refl _⟩, ⟨by repeat (first | (with_reducible first | exact HB.out | apply below_alloc | apply pw_below_drewN | apply below_drew1) | exact HB.out)⟩⟩
  ·rw [if_neg c7] at H
   have c7b0 : (t115 == 0) = false := beq_eq_false_iff_ne.mpr c7
   have c7b1 : (t115 != 0) = true := bne_iff_ne.mpr c7
   (first | rw [c7b0] | (simp only [i64_w, i32_w]; rw [c7b0]) | skip)
   have H' := Aside0.mk H
   clear H
   go_wp2
   repeat (go_quiet (fail); try go_wp2)
   go_meet
   case rel => exact ⟨_, (true), (by first | rfl | (simp; done) | (simp [*]; done)), H', ⟨by first | omega | exact Nat.le_refl _⟩, ⟨by repeat (first | (with_reducible first | exact HB.out | apply below_alloc | apply pw_below_drewN | apply below_drew1) | exact HB.out)⟩⟩
 case rest =>
  clear HC5
  try clear p2
  try clear c6
  try clear c7
  try clear c7b0
  try clear c7b1
  obtain ⟨kq, x32_4, rfl, HA, HJ4, HB⟩ := hcut
  cases kq with
  | zero => exact absurd HA.out (by simp [gamehalllaw1_SymmColours.j0])
  | succ kj4 =>
   have H := HA.out
   clear HA
   simp only [gamehalllaw1_SymmColours.j0] at H
   by_cases c8 : x32_4 = true
   ·subst c8
    have H1 : (some false) = some r := by rw [if_pos rfl] at H; exact H
    clear H
    have H := H1
    clear H1
    obtain rfl := Option.some.inj H
    go_wp2
    repeat (go_quiet (fail); try go_wp2)
    go_ret
    exact ⟨by first | rfl | (simp [errW_none, errW_some] <;> rfl) | (simp [*, errW_none, errW_some] <;> rfl), by repeat (first | (with_reducible first | exact HB.out | apply below_alloc | apply pw_below_drewN | apply below_drew1) | exact HB.out)⟩
   ·replace c8 := Bool.eq_false_iff.mpr c8
    subst c8
    have H1 : ((symm_Colours.f kj4 a0 a1 a2).bind fun bt116 => ((gamehallref1_Symmetries.f kj4 a0 a1).bind fun t118 => (if t118 = 0 then (if bt116.2 = 4 then (some (bt116.1 == 0)) else (some false)) else ((gamehallref1_In.f a2 0 16).bind fun t119 => (if t119 = true then (if (wrap64 (a0 * a1)) > 8 then (gamehalllaw1_SymmColours.j1 kj4 a0 a1 a2 bt116.1 bt116.2 true) else (gamehalllaw1_SymmColours.j1 kj4 a0 a1 a2 bt116.1 bt116.2 (decide (a2 > 3)))) else (if bt116.2 = 1 then (some (bt116.1 == 0)) else (some false))))))) = some r := by rw [if_neg (show ¬ (false = true) by decide)] at H; exact H
    clear H
    have H := H1
    clear H1
    replace H := Option.bind_eq_some_iff.mp H
    obtain ⟨⟨t116, t117⟩, A90, H⟩ := H
    replace H : ((gamehallref1_Symmetries.f kj4 a0 a1).bind fun t118 => (if t118 = 0 then (if t117 = 4 then (some (t116 == 0)) else (some false)) else ((gamehallref1_In.f a2 0 16).bind fun t119 => (if t119 = true then (if (wrap64 (a0 * a1)) > 8 then (gamehalllaw1_SymmColours.j1 kj4 a0 a1 a2 t116 t117 true) else (gamehalllaw1_SymmColours.j1 kj4 a0 a1 a2 t116 t117 (decide (a2 > 3)))) else (if t117 = 1 then (some (t116 == 0)) else (some false)))))) = some r := H
    have A9 := Aside0.mk A90
    clear A90
    replace H := Option.bind_eq_some_iff.mp H
    obtain ⟨t118, A100, H⟩ := H
    replace H : (if t118 = 0 then (if t117 = 4 then (some (t116 == 0)) else (some false)) else ((gamehallref1_In.f a2 0 16).bind fun t119 => (if t119 = true then (if (wrap64 (a0 * a1)) > 8 then (gamehalllaw1_SymmColours.j1 kj4 a0 a1 a2 t116 t117 true) else (gamehalllaw1_SymmColours.j1 kj4 a0 a1 a2 t116 t117 (decide (a2 > 3)))) else (if t117 = 1 then (some (t116 == 0)) else (some false))))) = some r := H
    have A10 := Aside0.mk A100
    clear A100
    by_cases c11 : t118 = 0
    ·rw [if_pos c11] at H
     have c11b0 : (t118 == 0) = true := beq_iff_eq.mpr c11
     have c11b1 : (t118 != 0) = false := bne_eq_false_iff_eq.mpr c11
     clear c11
     by_cases c12 : t117 = 4
     ·rw [if_pos c12] at H
      have c12b0 : (t117 == 4) = true := beq_iff_eq.mpr c12
      have c12b1 : (t117 != 4) = false := bne_eq_false_iff_eq.mpr c12
      clear c12
      obtain rfl := Option.some.inj H
      go_wp2_with (first | (go_at_call 18; (with_reducible refine (symm_Colours.calls kj4 a0 a1 a2 t116 t117 _ A9.out).mono ?_); rintro e w13 ⟨rfl, hb⟩; have n0_ := Aside0.mk (below_step (by repeat (first | (with_reducible first | exact HB.out | apply below_alloc | apply pw_below_drewN | apply below_drew1) | exact HB.out)) hb); clear HB; have HB := n0_; clear n0_; (try clear hb); (try clear hb2); (try clear hk); (try clear hi)) | (go_at_call 19; (with_reducible refine (gamehallref1_Symmetries.calls kj4 a0 a1 t118 _ A10.out).mono ?_); rintro e w' ⟨rfl, ⟨nd, rfl⟩⟩; (try first | exact ⟨rfl, _, World.drewN_drewN _ _ _⟩ | exact ⟨rfl, _, Eq.trans (World.drewN_drewN _ _ _) (congrArg (World.drewN _) (Nat.add_assoc _ _ _))⟩)))
      repeat (go_quiet (first | (go_at_call 18; (with_reducible refine (symm_Colours.calls kj4 a0 a1 a2 t116 t117 _ A9.out).mono ?_); rintro e w13 ⟨rfl, hb⟩; have n0_ := Aside0.mk (below_step (by repeat (first | (with_reducible first | exact HB.out | apply below_alloc | apply pw_below_drewN | apply below_drew1) | exact HB.out)) hb); clear HB; have HB := n0_; clear n0_; (try clear hb); (try clear hb2); (try clear hk); (try clear hi)) | (go_at_call 19; (with_reducible refine (gamehallref1_Symmetries.calls kj4 a0 a1 t118 _ A10.out).mono ?_); rintro e w' ⟨rfl, ⟨nd, rfl⟩⟩; (try first | exact ⟨rfl, _, World.drewN_drewN _ _ _⟩ | exact ⟨rfl, _, Eq.trans (World.drewN_drewN _ _ _) (congrArg (World.drewN _) (Nat.add_assoc _ _ _))⟩))); try go_wp2_with (first | (go_at_call 18; (with_reducible refine (symm_Colours.calls kj4 a0 a1 a2 t116 t117 _ A9.out).mono ?_); rintro e w13 ⟨rfl, hb⟩; have n0_ := Aside0.mk (below_step (by repeat (first | (with_reducible first | exact HB.out | apply below_alloc | apply pw_below_drewN | apply below_drew1) | exact HB.out)) hb); clear HB; have HB := n0_; clear n0_; (try clear hb); (try clear hb2); (try clear hk); (try clear hi)) | (go_at_call 19; (with_reducible refine (gamehallref1_Symmetries.calls kj4 a0 a1 t118 _ A10.out).mono ?_); rintro e w' ⟨rfl, ⟨nd, rfl⟩⟩; (try first | exact ⟨rfl, _, World.drewN_drewN _ _ _⟩ | exact ⟨rfl, _, Eq.trans (World.drewN_drewN _ _ _) (congrArg (World.drewN _) (Nat.add_assoc _ _ _))⟩))))
      go_ret
      exact ⟨by first | rfl | (simp [errW_none, errW_some] <;> rfl) | (simp [*, errW_none, errW_some] <;> rfl), by repeat (first | (with_reducible first | exact HB.out | apply below_alloc | apply pw_below_drewN | apply below_drew1) | exact HB.out)⟩
     ·rw [if_neg c12] at H
      have c12b0 : (t117 == 4) = false := beq_eq_false_iff_ne.mpr c12
      have c12b1 : (t117 != 4) = true := bne_iff_ne.mpr c12
      obtain rfl := Option.some.inj H
      go_wp2_with (first | (go_at_call 18; (with_reducible refine (symm_Colours.calls kj4 a0 a1 a2 t116 t117 _ A9.out).mono ?_); rintro e w14 ⟨rfl, hb⟩; have n0_ := Aside0.mk (below_step (by repeat (first | (with_reducible first | exact HB.out | apply below_alloc | apply pw_below_drewN | apply below_drew1) | exact HB.out)) hb); clear HB; have HB := n0_; clear n0_; (try clear hb); (try clear hb2); (try clear hk); (try clear hi)) | (go_at_call 19; (with_reducible refine (gamehallref1_Symmetries.calls kj4 a0 a1 t118 _ A10.out).mono ?_); rintro e w' ⟨rfl, ⟨nd, rfl⟩⟩; (try first | exact ⟨rfl, _, World.drewN_drewN _ _ _⟩ | exact ⟨rfl, _, Eq.trans (World.drewN_drewN _ _ _) (congrArg (World.drewN _) (Nat.add_assoc _ _ _))⟩)))
      repeat (go_quiet (first | (go_at_call 18; (with_reducible refine (symm_Colours.calls kj4 a0 a1 a2 t116 t117 _ A9.out).mono ?_); rintro e w14 ⟨rfl, hb⟩; have n0_ := Aside0.mk (below_step (by repeat (first | (with_reducible first | exact HB.out | apply below_alloc | apply pw_below_drewN | apply below_drew1) | exact HB.out)) hb); clear HB; have HB := n0_; clear n0_; (try clear hb); (try clear hb2); (try clear hk); (try clear hi)) | (go_at_call 19; (with_reducible refine (gamehallref1_Symmetries.calls kj4 a0 a1 t118 _ A10.out).mono ?_); rintro e w' ⟨rfl, ⟨nd, rfl⟩⟩; (try first | exact ⟨rfl, _, World.drewN_drewN _ _ _⟩ | exact ⟨rfl, _, Eq.trans (World.drewN_drewN _ _ _) (congrArg (World.drewN _) (Nat.add_assoc _ _ _))⟩))); try go_wp2_with (first | (go_at_call 18; (with_reducible refine (symm_Colours.calls kj4 a0 a1 a2 t116 t117 _ A9.out).mono ?_); rintro e w14 ⟨rfl, hb⟩; have n0_ := Aside0.mk (below_step (by repeat (first | (with_reducible first | exact HB.out | apply below_alloc | apply pw_below_drewN | apply below_drew1) | exact HB.out)) hb); clear HB; have HB := n0_; clear n0_; (try clear hb); (try clear hb2); (try clear hk); (try clear hi)) | (go_at_call 19; (with_reducible refine (gamehallref1_Symmetries.calls kj4 a0 a1 t118 _ A10.out).mono ?_); rintro e w' ⟨rfl, ⟨nd, rfl⟩⟩; (try first | exact ⟨rfl, _, World.drewN_drewN _ _ _⟩ | exact ⟨rfl, _, Eq.trans (World.drewN_drewN _ _ _) (congrArg (World.drewN _) (Nat.add_assoc _ _ _))⟩))))
      go_ret
      exact ⟨by first | rfl | (simp [errW_none, errW_some] <;> rfl) | (simp [*, errW_none, errW_some] <;> rfl), by repeat (first | (with_reducible first | exact HB.out | apply below_alloc | apply pw_below_drewN | apply below_drew1) | exact HB.out)⟩
    ·rw [if_neg c11] at H
     have c11b0 : (t118 == 0) = false := beq_eq_false_iff_ne.mpr c11
     have c11b1 : (t118 != 0) = true := bne_iff_ne.mpr c11
     replace H := Option.bind_eq_some_iff.mp H
     obtain ⟨t119, A150, H⟩ := H
     replace H : (if t119 = true then (if (wrap64 (a0 * a1)) > 8 then (gamehalllaw1_SymmColours.j1 kj4 a0 a1 a2 t116 t117 true) else (gamehalllaw1_SymmColours.j1 kj4 a0 a1 a2 t116 t117 (decide (a2 > 3)))) else (if t117 = 1 then (some (t116 == 0)) else (some false))) = some r := H
     have A15 := Aside0.mk A150
     clear A150
     by_cases c16 : t119 = true
     ·subst c16
      have H1 : (if (wrap64 (a0 * a1)) > 8 then (gamehalllaw1_SymmColours.j1 kj4 a0 a1 a2 t116 t117 true) else (gamehalllaw1_SymmColours.j1 kj4 a0 a1 a2 t116 t117 (decide (a2 > 3)))) = some r := by rw [if_pos rfl] at H; exact H
      clear H
      have H := H1
      clear H1
      have HC17 := Aside0.mk H
      clear H
      go_upto_region 9 with (first | (go_at_call 18; (with_reducible refine (symm_Colours.calls kj4 a0 a1 a2 t116 t117 _ A9.out).mono ?_); rintro e w18 ⟨rfl, hb⟩; have n0_ := Aside0.mk (below_step (by repeat (first | (with_reducible first | exact HB.out | apply below_alloc | apply pw_below_drewN | apply below_drew1) | exact HB.out)) hb); clear HB; have HB := n0_; clear n0_; (try clear hb); (try clear hb2); (try clear hk); (try clear hi)) | (go_at_call 19; (with_reducible refine (gamehallref1_Symmetries.calls kj4 a0 a1 t118 _ A10.out).mono ?_); rintro e w' ⟨rfl, ⟨nd, rfl⟩⟩; (try first | exact ⟨rfl, _, World.drewN_drewN _ _ _⟩ | exact ⟨rfl, _, Eq.trans (World.drewN_drewN _ _ _) (congrArg (World.drewN _) (Nat.add_assoc _ _ _))⟩)) | (go_at_call 15; (with_reducible refine (gamehallref1_In.calls a2 0 16 true _ A15.out).mono ?_); rintro e w' ⟨rfl, ⟨nd, rfl⟩⟩; (try first | exact ⟨rfl, _, World.drewN_drewN _ _ _⟩ | exact ⟨rfl, _, Eq.trans (World.drewN_drewN _ _ _) (congrArg (World.drewN _) (Nat.add_assoc _ _ _))⟩)))
      repeat (go_quiet (first | (go_at_call 18; (with_reducible refine (symm_Colours.calls kj4 a0 a1 a2 t116 t117 _ A9.out).mono ?_); rintro e w18 ⟨rfl, hb⟩; have n0_ := Aside0.mk (below_step (by repeat (first | (with_reducible first | exact HB.out | apply below_alloc | apply pw_below_drewN | apply below_drew1) | exact HB.out)) hb); clear HB; have HB := n0_; clear n0_; (try clear hb); (try clear hb2); (try clear hk); (try clear hi)) | (go_at_call 19; (with_reducible refine (gamehallref1_Symmetries.calls kj4 a0 a1 t118 _ A10.out).mono ?_); rintro e w' ⟨rfl, ⟨nd, rfl⟩⟩; (try first | exact ⟨rfl, _, World.drewN_drewN _ _ _⟩ | exact ⟨rfl, _, Eq.trans (World.drewN_drewN _ _ _) (congrArg (World.drewN _) (Nat.add_assoc _ _ _))⟩)) | (go_at_call 15; (with_reducible refine (gamehallref1_In.calls a2 0 16 true _ A15.out).mono ?_); rintro e w' ⟨rfl, ⟨nd, rfl⟩⟩; (try first | exact ⟨rfl, _, World.drewN_drewN _ _ _⟩ | exact ⟨rfl, _, Eq.trans (World.drewN_drewN _ _ _) (congrArg (World.drewN _) (Nat.add_assoc _ _ _))⟩))); go_upto_region 9 with (first | (go_at_call 18; (with_reducible refine (symm_Colours.calls kj4 a0 a1 a2 t116 t117 _ A9.out).mono ?_); rintro e w18 ⟨rfl, hb⟩; have n0_ := Aside0.mk (below_step (by repeat (first | (with_reducible first | exact HB.out | apply below_alloc | apply pw_below_drewN | apply below_drew1) | exact HB.out)) hb); clear HB; have HB := n0_; clear n0_; (try clear hb); (try clear hb2); (try clear hk); (try clear hi)) | (go_at_call 19; (with_reducible refine (gamehallref1_Symmetries.calls kj4 a0 a1 t118 _ A10.out).mono ?_); rintro e w' ⟨rfl, ⟨nd, rfl⟩⟩; (try first | exact ⟨rfl, _, World.drewN_drewN _ _ _⟩ | exact ⟨rfl, _, Eq.trans (World.drewN_drewN _ _ _) (congrArg (World.drewN _) (Nat.add_assoc _ _ _))⟩)) | (go_at_call 15; (with_reducible refine (gamehallref1_In.calls a2 0 16 true _ A15.out).mono ?_); rintro e w' ⟨rfl, ⟨nd, rfl⟩⟩; (try first | exact ⟨rfl, _, World.drewN_drewN _ _ _⟩ | exact ⟨rfl, _, Eq.trans (World.drewN_drewN _ _ _) (congrArg (World.drewN _) (Nat.add_assoc _ _ _))⟩))))
      (try simp only [Act.put, List.setIfInBounds_toArray, List.set_cons_zero, List.set_cons_succ])
      go_cut [66] (fun v66 wc => ∃ (kq : Nat) (x66_16 : Bool), v66 = .bool x66_16 ∧ Aside0 (gamehalllaw1_SymmColours.j1 kq a0 a1 a2 t116 t117 x66_16 = some r) ∧ Aside0 (kq ≤ kj4) ∧ Aside0 (Below w.heap.size w wc))
      case first =>
       have H := HC17.out
       clear HC17
       by_cases c19 : (wrap64 (a0 * a1)) > 8
       ·rw [if_pos c19] at H
        have c19b0 : decide (8 < (wrap64 (a0 * a1))) = true := decide_eq_true c19
        clear c19
        (first | rw [c19b0] | (simp only [i64_w, i32_w]; rw [c19b0]) | skip)
        have H' := Aside0.mk H
        clear H
        go_wp2
        repeat (go_quiet (fail); try go_wp2)
        go_meet
        case rel => exact ⟨_, (true), (by first | rfl | (simp; done) | (simp [*]; done)), H', ⟨by have := HJ4.out; first | omega | exact Nat.le_refl _⟩, ⟨by repeat (first | (with_reducible first | exact HB.out | apply below_alloc | apply pw_below_drewN | apply below_drew1) | exact HB.out)⟩⟩
       ·rw [if_neg c19] at H
        have c19b0 : decide (8 < (wrap64 (a0 * a1))) = false := decide_eq_false c19
        clear c19
        (first | rw [c19b0] | (simp only [i64_w, i32_w]; rw [c19b0]) | skip)
        have H' := Aside0.mk H
        clear H
        go_wp2
        repeat (go_quiet (fail); try go_wp2)
        go_meet
        case rel => exact ⟨_, (decide (a2 > 3)), (by first | rfl | (simp; done) | (simp [*]; done)), H', ⟨by have := HJ4.out; first | omega | exact Nat.le_refl _⟩, ⟨by repeat (first | (with_reducible first | exact HB.out | apply below_alloc | apply pw_below_drewN | apply below_drew1) | exact HB.out)⟩⟩
      case rest =>
       clear HC17
       try clear c1
       try clear p2
       try clear c6
       try clear p6
       try clear c7
       try clear c7b0
       try clear c7b1
       try clear c8
       try clear c11
       try clear c11b0
       try clear c11b1
       try clear c12
       try clear c12b0
       try clear c12b1
       try clear c16
       try clear c19
       try clear c19b0
       try clear p2
       obtain ⟨kq, x66_16, rfl, HA, HJ16, HB⟩ := hcut
       cases kq with
       | zero => exact absurd HA.out (by simp [gamehalllaw1_SymmColours.j1])
       | succ kj16 =>
        have H := HA.out
        clear HA
        simp only [gamehalllaw1_SymmColours.j1] at H
        by_cases c20 : x66_16 = true
        ·subst c20
         have H1 : (some true) = some r := by rw [if_pos rfl] at H; exact H
         clear H
         have H := H1
         clear H1
         obtain rfl := Option.some.inj H
         go_wp2
         repeat (go_quiet (fail); try go_wp2)
         go_ret
         exact ⟨by first | rfl | (simp [errW_none, errW_some] <;> rfl) | (simp [*, errW_none, errW_some] <;> rfl), by repeat (first | (with_reducible first | exact HB.out | apply below_alloc | apply pw_below_drewN | apply below_drew1) | exact HB.out)⟩
        ·replace c20 := Bool.eq_false_iff.mpr c20
         subst c20
         have H1 : (gamehalllaw1_SymmColours.l0 kj16 a0 a1 a2 t116 t117 1 (wrap64 (a0 * a1)) 0) = some r := by rw [if_neg (show ¬ (false = true) by decide)] at H; exact H
         clear H
         have H := H1
         clear H1
         have H' := Aside0.mk H
         clear H
         go_wp2
         repeat (go_quiet (fail); try go_wp2)
         go_loopg [11, 70] kj16 (fun kq v11 v70 w' => ∃ (x11_3 : Int) (x70_3 : Int), v11 = .int .i64 x11_3 ∧ v70 = .int .i64 x70_3 ∧ Aside0 (gamehalllaw1_SymmColours.l0 kq a0 a1 a2 t116 t117 x11_3 (wrap64 (a0 * a1)) x70_3 = some r) ∧ Aside0 (kq ≤ kj16) ∧ Aside0 (Below w.heap.size w w'))
         case atStart => exact ⟨(1), (0), (by first | rfl | (simp; done) | (simp [*]; done)), (by first | rfl | (simp; done) | (simp [*]; done)), H', ⟨Nat.le_refl _⟩, ⟨by repeat (first | (with_reducible first | exact HB.out | apply below_alloc | apply pw_below_drewN | apply below_drew1) | exact HB.out)⟩⟩
         case round =>
          clear H'
          try clear c1
          try clear c2
          try clear p2
          try clear c6
          try clear p6
          try clear c7
          try clear c7b0
          try clear c7b1
          try clear c8
          try clear c11
          try clear c11b0
          try clear c11b1
          try clear c12
          try clear c12b0
          try clear c12b1
          try clear c16
          try clear c19
          try clear c19b0
          try clear c20
          try clear p2
          try clear p6
          obtain ⟨x11_3, x70_3, rfl, rfl, HA, HK3, HB⟩ := hrel
          cases gk with
          | zero => exact absurd HA.out (by simp [gamehalllaw1_SymmColours.l0])
          | succ k3 =>
           have H := HA.out
           clear HA
           simp only [gamehalllaw1_SymmColours.l0] at H
           by_cases c21 : x70_3 < (wrap64 (a0 * a1))
           ·rw [if_pos c21] at H
            have c21b0 : decide (x70_3 < (wrap64 (a0 * a1))) = true := decide_eq_true c21
            clear c21
            have H' := Aside0.mk H
            clear H
            go_wp2
            repeat (go_quiet (fail); try go_wp2)
            go_roundg k3
            case measure => have := HJ4.out; have := HJ16.out; have := HK3.out; omega
            case rel => exact ⟨(wrap64 (x11_3 * a2)), (wrap64 (x70_3 + 1)), (by first | rfl | (simp; done) | (simp [*]; done)), (by first | rfl | (simp; done) | (simp [*]; done)), H', ⟨by have := HJ4.out; have := HJ16.out; have := HK3.out; omega⟩, ⟨by repeat (first | (with_reducible first | exact HB.out | apply below_alloc | apply pw_below_drewN | apply below_drew1) | exact HB.out)⟩⟩
           ·rw [if_neg c21] at H
            have c21b0 : decide (x70_3 < (wrap64 (a0 * a1))) = false := decide_eq_false c21
            clear c21
            have H' := Aside0.mk H
            clear H
            go_wp2
            repeat (go_quiet (fail); try go_wp2)
            go_loopg [12, 77] k3 (fun kq v12 v77 w' => ∃ (x12_4 : Int) (x77_4 : Int), v12 = .int .i64 x12_4 ∧ v77 = .int .i64 x77_4 ∧ Aside0 (gamehalllaw1_SymmColours.l1 kq a0 a1 a2 t116 t117 x12_4 x11_3 x77_4 = some r) ∧ Aside0 (kq ≤ k3) ∧ Aside0 (Below w.heap.size w w'))
            case atStart => exact ⟨(0), (0), (by first | rfl | (simp; done) | (simp [*]; done)), (by first | rfl | (simp; done) | (simp [*]; done)), H', ⟨Nat.le_refl _⟩, ⟨by repeat (first | (with_reducible first | exact HB.out | apply below_alloc | apply pw_below_drewN | apply below_drew1) | exact HB.out)⟩⟩
            case round =>
             clear H'
             try clear c1
             try clear c2
             try clear p2
             try clear c6
             try clear p6
             try clear c7
             try clear c7b0
             try clear c7b1
             try clear c8
             try clear c11
             try clear c11b0
             try clear c11b1
             try clear c12
             try clear c12b0
             try clear c12b1
             try clear c16
             try clear c19
             try clear c19b0
             try clear c20
             try clear c21
             try clear c21b0
             try clear p2
             try clear p6
             obtain ⟨x12_4, x77_4, rfl, rfl, HA, HK4, HB⟩ := hrel
             cases gk with
             | zero => exact absurd HA.out (by simp [gamehalllaw1_SymmColours.l1])
             | succ k4 =>
              have H := HA.out
              clear HA
              simp only [gamehalllaw1_SymmColours.l1] at H
              by_cases c22 : x77_4 < x11_3
              ·rw [if_pos c22] at H
               have c22b0 : decide (x77_4 < x11_3) = true := decide_eq_true c22
               clear c22
               obtain ⟨ji23, hji23⟩ : ∃ j_ : Int, (wrap64 (a0 * a1)) = j_ := ⟨_, rfl⟩
               replace H : (if 0 ≤ (ji23) then (if (ji23 : Int).toNat ≤ 35184372088832 then (gamehalllaw1_SymmColours.l2 k4 a0 a1 a2 t116 t117 x12_4 (List.replicate (ji23 : Int).toNat 0) 0 x77_4 x11_3 x77_4) else (none)) else (none)) = some r := by first | (rw [hji23] at H; exact H) | (simp only [hji23] at H ⊢; exact H)
               (try rw [hji23] at c21b0)
               have hji23w : (IntKind.i64.wrap (a0 * a1)) = ji23 := (i64_w _).trans hji23
               by_cases c24 : 0 ≤ (ji23)
               ·rw [if_pos c24] at H
                have c24b0 := eq_true c24
                have c24b1 : decide (0 ≤ (ji23)) = true := decide_eq_true c24
                clear c24
                by_cases c25 : (ji23 : Int).toNat ≤ 35184372088832
                ·rw [if_pos c25] at H
                 have c25b0 := eq_true c25
                 have c25b1 : decide ((ji23 : Int).toNat ≤ 35184372088832) = true := decide_eq_true c25
                 clear c25
                 obtain ⟨y120, hy120⟩ : ∃ y_ : List Int, y_ = (List.replicate (ji23 : Int).toNat 0) := ⟨_, rfl⟩
                 replace H : (gamehalllaw1_SymmColours.l2 k4 a0 a1 a2 t116 t117 x12_4 y120 0 x77_4 x11_3 x77_4) = some r := by first | (rw [hy120]; with_reducible exact H) | (have H2_ := (Option.bind_some _ _).symm.trans H; rw [hy120]; with_reducible exact H2_) | (have H2_ := (Option.bind_some _ _).symm.trans H; with_reducible exact H2_) | with_reducible exact H | (rw [hy120]; exact H) | exact H
                 have Ny120 := Aside0.mk hy120
                 clear hy120
                 have H' := Aside0.mk H
                 clear H
                 go_wp2_with (first | ((with_reducible refine gate_dst (N := 83) rfl ?_); refine Kd.R_make (Kd.int .i64) _ 3 rfl (N := 83) rfl 24 _ _ rfl ji23 rfl rfl Try.underlying24 (.int .i64 0) 8 info3 rfl (by decide) (by omega) 0 (ok := fun _ => True) (okp := fun _ => True) rfl (fun _ hk => hk) trivial (of_decide_eq_true (by first | (with_reducible assumption) | assumption)) (Nat.le_trans (Nat.mul_le_mul_right _ (of_decide_eq_true (by first | (with_reducible assumption) | assumption) : ji23.toNat ≤ 35184372088832)) (by omega)) (Below.refl _ _) (Nat.le_refl _) ?_; intro v121 w26 ho27 hb hg_ hnew_; clear hg_ hnew_; (first | rw [← Ny120.out] at ho27 | (simp only [Int.reduceToNat] at ho27; rw [← Ny120.out] at ho27)); have n0_ := Aside0.mk (Kd.R_lower ho27 (below_size (by repeat (first | (with_reducible first | exact HB.out | apply below_alloc | apply pw_below_drewN | apply below_drew1) | exact HB.out)))); have n1_ := Aside0.mk (below_step (by repeat (first | (with_reducible first | exact HB.out | apply below_alloc | apply pw_below_drewN | apply below_drew1) | exact HB.out)) hb); clear HB; have HO122 := n0_; have HB := n1_; clear n0_ n1_; clear hb ho27))
                 repeat (go_quiet (first | ((with_reducible refine gate_dst (N := 83) rfl ?_); refine Kd.R_make (Kd.int .i64) _ 3 rfl (N := 83) rfl 24 _ _ rfl ji23 rfl rfl Try.underlying24 (.int .i64 0) 8 info3 rfl (by decide) (by omega) 0 (ok := fun _ => True) (okp := fun _ => True) rfl (fun _ hk => hk) trivial (of_decide_eq_true (by first | (with_reducible assumption) | assumption)) (Nat.le_trans (Nat.mul_le_mul_right _ (of_decide_eq_true (by first | (with_reducible assumption) | assumption) : ji23.toNat ≤ 35184372088832)) (by omega)) (Below.refl _ _) (Nat.le_refl _) ?_; intro v121 w26 ho27 hb hg_ hnew_; clear hg_ hnew_; (first | rw [← Ny120.out] at ho27 | (simp only [Int.reduceToNat] at ho27; rw [← Ny120.out] at ho27)); have n0_ := Aside0.mk (Kd.R_lower ho27 (below_size (by repeat (first | (with_reducible first | exact HB.out | apply below_alloc | apply pw_below_drewN | apply below_drew1) | exact HB.out)))); have n1_ := Aside0.mk (below_step (by repeat (first | (with_reducible first | exact HB.out | apply below_alloc | apply pw_below_drewN | apply below_drew1) | exact HB.out)) hb); clear HB; have HO122 := n0_; have HB := n1_; clear n0_ n1_; clear hb ho27)); try go_wp2_with (first | ((with_reducible refine gate_dst (N := 83) rfl ?_); refine Kd.R_make (Kd.int .i64) _ 3 rfl (N := 83) rfl 24 _ _ rfl ji23 rfl rfl Try.underlying24 (.int .i64 0) 8 info3 rfl (by decide) (by omega) 0 (ok := fun _ => True) (okp := fun _ => True) rfl (fun _ hk => hk) trivial (of_decide_eq_true (by first | (with_reducible assumption) | assumption)) (Nat.le_trans (Nat.mul_le_mul_right _ (of_decide_eq_true (by first | (with_reducible assumption) | assumption) : ji23.toNat ≤ 35184372088832)) (by omega)) (Below.refl _ _) (Nat.le_refl _) ?_; intro v121 w26 ho27 hb hg_ hnew_; clear hg_ hnew_; (first | rw [← Ny120.out] at ho27 | (simp only [Int.reduceToNat] at ho27; rw [← Ny120.out] at ho27)); have n0_ := Aside0.mk (Kd.R_lower ho27 (below_size (by repeat (first | (with_reducible first | exact HB.out | apply below_alloc | apply pw_below_drewN | apply below_drew1) | exact HB.out)))); have n1_ := Aside0.mk (below_step (by repeat (first | (with_reducible first | exact HB.out | apply below_alloc | apply pw_below_drewN | apply below_drew1) | exact HB.out)) hb); clear HB; have HO122 := n0_; have HB := n1_; clear n0_ n1_; clear hb ho27)))
                 go_loopg [15, 16] k4 (fun kq v15 v16 w' => ∃ (x14_5 : List Int) (x15_5 : Int) (x16_5 : Int), v15 = .int .i64 x15_5 ∧ v16 = .int .i64 x16_5 ∧ Aside0 (gamehalllaw1_SymmColours.l2 kq a0 a1 a2 t116 t117 x12_4 x14_5 x15_5 x16_5 x11_3 x77_4 = some r) ∧ Aside0 (kq ≤ k4) ∧ Aside0 (Kd.R (Kd.int .i64) 3 w' w.heap.size (fun _ => True) v121 x14_5) ∧ Aside0 (Below w.heap.size w w'))
                 case atStart => exact ⟨(y120), (0), (x77_4), (by first | rfl | (simp; done) | (simp [*]; done)), (by first | rfl | (simp; done) | (simp [*]; done)), H', ⟨Nat.le_refl _⟩, ⟨by (with_reducible repeat (first | apply Kd.R_alloc | apply Kd.R_drewN | apply Kd.R_drew)); exact HO122.out⟩, ⟨by repeat (first | (with_reducible first | exact HB.out | apply below_alloc | apply pw_below_drewN | apply below_drew1) | exact HB.out)⟩⟩
                 case round =>
                  clear H'
                  try clear c1
                  try clear c2
                  try clear p2
                  try clear c6
                  try clear p6
                  try clear c7
                  try clear c7b0
                  try clear c7b1
                  try clear c8
                  try clear c11
                  try clear c11b0
                  try clear c11b1
                  try clear c12
                  try clear c12b0
                  try clear c12b1
                  try clear c16
                  try clear c19
                  try clear c19b0
                  try clear c20
                  try clear c21
                  try clear c21b0
                  try clear c22
                  try clear c22b0
                  try clear c24
                  try clear c24b0
                  try clear c24b1
                  try clear c25
                  try clear c25b0
                  try clear c25b1
                  try clear p2
                  try clear p6
                  obtain ⟨x14_5, x15_5, x16_5, rfl, rfl, HA, HK5, HO_14, HB⟩ := hrel
                  cases gk with
                  | zero => exact absurd HA.out (by simp [gamehalllaw1_SymmColours.l2])
                  | succ k5 =>
                   have H := HA.out
                   clear HA
                   simp only [gamehalllaw1_SymmColours.l2] at H
                   by_cases c28 : x15_5 < (x14_5.length : Int)
                   ·rw [if_pos c28] at H
                    have c28b0 : decide (x15_5 < (x14_5.length : Int)) = true := decide_eq_true c28
                    clear c28
                    by_cases c29 : a2 = 0
                    ·rw [if_pos c29] at H
                     exact absurd H (by simp)
                    ·rw [if_neg c29] at H
                     have c29b0 : (a2 == 0) = false := beq_eq_false_iff_ne.mpr c29
                     have c29b1 : (a2 != 0) = true := bne_iff_ne.mpr c29
                     by_cases c30 : 0 ≤ x15_5
                     ·rw [if_pos c30] at H
                      have c30b0 : decide (0 ≤ x15_5) = true := decide_eq_true c30
                      clear c30
                      obtain ⟨y123, hy123⟩ : ∃ y_ : List Int, y_ = (x14_5.set (x15_5 : Int).toNat (Int.tmod x16_5 a2)) := ⟨_, rfl⟩
                      replace H : (gamehalllaw1_SymmColours.l2 k5 a0 a1 a2 t116 t117 x12_4 y123 (wrap64 (x15_5 + 1)) (wrap64 (Int.tdiv x16_5 a2)) x11_3 x77_4) = some r := by first | (rw [hy123]; with_reducible exact H) | (have H2_ := (Option.bind_some _ _).symm.trans H; rw [hy123]; with_reducible exact H2_) | (have H2_ := (Option.bind_some _ _).symm.trans H; with_reducible exact H2_) | with_reducible exact H | (rw [hy123]; exact H) | exact H
                      have Ny123 := Aside0.mk hy123
                      clear hy123
                      have H' := Aside0.mk H
                      clear H
                      obtain ⟨Ao32, co32, eo32⟩ := Kd.R_slice HO_14.out
                      subst eo32
                      have p31 : 0 ≤ (x15_5 : Int) := of_decide_eq_true (by first | (with_reducible assumption) | assumption)
                      have q31 : (x15_5 : Int) < ((x14_5.length : Int) : Int) := of_decide_eq_true (by first | (with_reducible assumption) | assumption)
                      obtain ⟨go31, co31, eo31, gb31, gl31, cl31, HG31⟩ := Kd.R_form HO_14.out (by omega)
                      (first | cases eo31 | (injection eo31 with ea_ en_ ec_; (first | subst ea_ | (injection ea_ with ea_; subst ea_)); subst ec_; clear en_))
                      have GB31 := Aside0.mk gb31
                      have GG31 := Aside0.mk HG31
                      clear gb31 gl31 HG31
                      obtain ⟨hx31_0, hf31_0⟩ := Kd.R_celln 0 HO_14.out (x15_5 : Int) p31 q31
                      replace p31 := eq_true p31
                      replace q31 := eq_true q31
                      have HP33 := Kd.R_putg HO_14.out (x15_5 : Int) (Int.tmod x16_5 a2)
                      go_wp2_with (first | ((with_reducible refine gate_store (t := 3) (p := 99) rfl ?_); (try (rw [drewN_self wr]; generalize hq_ : World.drewN wr _ = wr; have n0_ := Aside0.mk (Kd.R_at hq_ HO_14.out); have n1_ := Aside0.mk (below_at hq_ HB.out); clear hq_ HO_14 HB; have HO_14 := n0_; have HB := n1_; clear n0_ n1_; (try (have HP33 := Kd.R_putg HO_14.out (x15_5 : Int) (Int.tmod x16_5 a2))))); refine store_event (t := 3) (p := 99) (v := ?vo_w34) (w1 := (wr.setCell ⟨go31, (x15_5 : Int).toNat, none⟩ (.int .i64 (Int.tmod x16_5 a2)))) ?hg ?ho ?hn ?hr ?_; (case ho => rfl); (case hg => rfl); (case hn => rfl); (case hr => first | (go_simp; done) | (go_simp; rfl)); intro w34 hw; have hg : wr.grownBy w34 (some go31) := (by rw [hw]; exact HP33.2); have hp_ : Kd.R (Kd.int .i64) 3 w34 w.heap.size (fun _ => True) (.slice (some ⟨go31, 0, none⟩) x14_5.length co32) y123 := (by rw [hw, Ny123.out]; exact HP33.1); clear HP33; have n0_ := Aside0.mk (hp_); have n1_ := Aside0.mk ((by rw [hw]; exact below_set (HB.out) GB31.out : Below w.heap.size w w34)); clear HO_14; clear HB; have HO_14 := n0_; have HB := n1_; clear n0_ n1_; clear hg hw hp_))
                      repeat (go_quiet (first | ((with_reducible refine gate_store (t := 3) (p := 99) rfl ?_); (try (rw [drewN_self wr]; generalize hq_ : World.drewN wr _ = wr; have n0_ := Aside0.mk (Kd.R_at hq_ HO_14.out); have n1_ := Aside0.mk (below_at hq_ HB.out); clear hq_ HO_14 HB; have HO_14 := n0_; have HB := n1_; clear n0_ n1_; (try (have HP33 := Kd.R_putg HO_14.out (x15_5 : Int) (Int.tmod x16_5 a2))))); refine store_event (t := 3) (p := 99) (v := ?vo_w34) (w1 := (wr.setCell ⟨go31, (x15_5 : Int).toNat, none⟩ (.int .i64 (Int.tmod x16_5 a2)))) ?hg ?ho ?hn ?hr ?_; (case ho => rfl); (case hg => rfl); (case hn => rfl); (case hr => first | (go_simp; done) | (go_simp; rfl)); intro w34 hw; have hg : wr.grownBy w34 (some go31) := (by rw [hw]; exact HP33.2); have hp_ : Kd.R (Kd.int .i64) 3 w34 w.heap.size (fun _ => True) (.slice (some ⟨go31, 0, none⟩) x14_5.length co32) y123 := (by rw [hw, Ny123.out]; exact HP33.1); clear HP33; have n0_ := Aside0.mk (hp_); have n1_ := Aside0.mk ((by rw [hw]; exact below_set (HB.out) GB31.out : Below w.heap.size w w34)); clear HO_14; clear HB; have HO_14 := n0_; have HB := n1_; clear n0_ n1_; clear hg hw hp_)); try go_wp2_with (first | ((with_reducible refine gate_store (t := 3) (p := 99) rfl ?_); (try (rw [drewN_self wr]; generalize hq_ : World.drewN wr _ = wr; have n0_ := Aside0.mk (Kd.R_at hq_ HO_14.out); have n1_ := Aside0.mk (below_at hq_ HB.out); clear hq_ HO_14 HB; have HO_14 := n0_; have HB := n1_; clear n0_ n1_; (try (have HP33 := Kd.R_putg HO_14.out (x15_5 : Int) (Int.tmod x16_5 a2))))); refine store_event (t := 3) (p := 99) (v := ?vo_w34) (w1 := (wr.setCell ⟨go31, (x15_5 : Int).toNat, none⟩ (.int .i64 (Int.tmod x16_5 a2)))) ?hg ?ho ?hn ?hr ?_; (case ho => rfl); (case hg => rfl); (case hn => rfl); (case hr => first | (go_simp; done) | (go_simp; rfl)); intro w34 hw; have hg : wr.grownBy w34 (some go31) := (by rw [hw]; exact HP33.2); have hp_ : Kd.R (Kd.int .i64) 3 w34 w.heap.size (fun _ => True) (.slice (some ⟨go31, 0, none⟩) x14_5.length co32) y123 := (by rw [hw, Ny123.out]; exact HP33.1); clear HP33; have n0_ := Aside0.mk (hp_); have n1_ := Aside0.mk ((by rw [hw]; exact below_set (HB.out) GB31.out : Below w.heap.size w w34)); clear HO_14; clear HB; have HO_14 := n0_; have HB := n1_; clear n0_ n1_; clear hg hw hp_)))
                      (first | go_roundg k5 | (simp only [← hji23]; go_roundg k5))
                      case measure => have := HJ4.out; have := HJ16.out; have := HK3.out; have := HK4.out; have := HK5.out; omega
                      case rel => exact ⟨(y123), (wrap64 (x15_5 + 1)), (wrap64 (Int.tdiv x16_5 a2)), (by first | rfl | (simp; done) | (simp [*]; done)), (by first | rfl | (simp; done) | (simp [*]; done)), H', ⟨by have := HJ4.out; have := HJ16.out; have := HK3.out; have := HK4.out; have := HK5.out; omega⟩, ⟨by (with_reducible repeat (first | apply Kd.R_alloc | apply Kd.R_drewN | apply Kd.R_drew)); exact HO_14.out⟩, ⟨by repeat (first | (with_reducible first | exact HB.out | apply below_alloc | apply pw_below_drewN | apply below_drew1) | exact HB.out)⟩⟩
                     ·rw [if_neg c30] at H
                      exact absurd H (by simp)
                   ·rw [if_neg c28] at H
                    have c28b0 : decide (x15_5 < (x14_5.length : Int)) = false := decide_eq_false c28
                    clear c28
                    replace H := Option.bind_eq_some_iff.mp H
                    obtain ⟨t124, A350, H⟩ := H
                    replace H : (gamehalllaw1_SymmColours.l3 k5 a0 a1 a2 t116 t117 x12_4 x14_5 true x11_3 x77_4 t124 0) = some r := H
                    have A35 := Aside0.mk A350
                    clear A350
                    have H' := Aside0.mk H
                    clear H
                    obtain ⟨Ao36, co36, eo36⟩ := Kd.R_slice HO_14.out
                    subst eo36
                    go_wp2_with (first | (go_at_call 19; (with_reducible refine (gamehallref1_Symmetries.calls k5 a0 a1 t124 _ A35.out).mono ?_); rintro e w' ⟨rfl, ⟨nd, rfl⟩⟩; (try first | exact ⟨rfl, _, World.drewN_drewN _ _ _⟩ | exact ⟨rfl, _, Eq.trans (World.drewN_drewN _ _ _) (congrArg (World.drewN _) (Nat.add_assoc _ _ _))⟩)))
                    repeat (go_quiet (first | (go_at_call 19; (with_reducible refine (gamehallref1_Symmetries.calls k5 a0 a1 t124 _ A35.out).mono ?_); rintro e w' ⟨rfl, ⟨nd, rfl⟩⟩; (try first | exact ⟨rfl, _, World.drewN_drewN _ _ _⟩ | exact ⟨rfl, _, Eq.trans (World.drewN_drewN _ _ _) (congrArg (World.drewN _) (Nat.add_assoc _ _ _))⟩))); try go_wp2_with (first | (go_at_call 19; (with_reducible refine (gamehallref1_Symmetries.calls k5 a0 a1 t124 _ A35.out).mono ?_); rintro e w' ⟨rfl, ⟨nd, rfl⟩⟩; (try first | exact ⟨rfl, _, World.drewN_drewN _ _ _⟩ | exact ⟨rfl, _, Eq.trans (World.drewN_drewN _ _ _) (congrArg (World.drewN _) (Nat.add_assoc _ _ _))⟩))))
                    go_loopg [17, 103] k5 (fun kq v17 v103 w' => ∃ (x14_6 : List Int) (x17_6 : Bool) (x103_6 : Int), v17 = .bool x17_6 ∧ v103 = .int .i64 x103_6 ∧ Aside0 (gamehalllaw1_SymmColours.l3 kq a0 a1 a2 t116 t117 x12_4 x14_6 x17_6 x11_3 x77_4 t124 x103_6 = some r) ∧ Aside0 (kq ≤ k5) ∧ Aside0 (Kd.R (Kd.int .i64) 3 w' w.heap.size (fun _ => True) (.slice Ao36 x14_5.length co36) x14_6) ∧ Aside0 (Below w.heap.size w w'))
                    case atStart => exact ⟨(x14_5), (true), (0), (by first | rfl | (simp; done) | (simp [*]; done)), (by first | rfl | (simp; done) | (simp [*]; done)), H', ⟨Nat.le_refl _⟩, ⟨by (with_reducible repeat (first | apply Kd.R_alloc | apply Kd.R_drewN | apply Kd.R_drew)); exact HO_14.out⟩, ⟨by repeat (first | (with_reducible first | exact HB.out | apply below_alloc | apply pw_below_drewN | apply below_drew1) | exact HB.out)⟩⟩
                    case round =>
                     clear H'
                     try clear c1
                     try clear c2
                     try clear p2
                     try clear c3
                     try clear p3
                     try clear q3
                     try clear hx3
                     try clear hf3
                     try clear c6
                     try clear p6
                     try clear c7
                     try clear c7b0
                     try clear c7b1
                     try clear c8
                     try clear c11
                     try clear c11b0
                     try clear c11b1
                     try clear c12
                     try clear c12b0
                     try clear c12b1
                     try clear c16
                     try clear c19
                     try clear c19b0
                     try clear c20
                     try clear c21
                     try clear c21b0
                     try clear c22
                     try clear c22b0
                     try clear c24
                     try clear c24b0
                     try clear c24b1
                     try clear c25
                     try clear c25b0
                     try clear c25b1
                     try clear c28
                     try clear c28b0
                     try clear c29
                     try clear c29b0
                     try clear c29b1
                     try clear c30
                     try clear c30b0
                     try clear p31
                     try clear q31
                     try clear hx31
                     try clear hf31
                     try clear hx31_0
                     try clear p2
                     try clear p31
                     try clear p6
                     try clear q31
                     obtain ⟨x14_6, x17_6, x103_6, rfl, rfl, HA, HK6, HO_14, HB⟩ := hrel
                     have hl14_6 := (Kd.R_reads' HO_14.out).1
                     rw [hl14_6] at HO_14
                     (try simp only [hl14_6])
                     cases gk with
                     | zero => exact absurd HA.out (by simp [gamehalllaw1_SymmColours.l3])
                     | succ k6 =>
                      have H := HA.out
                      clear HA
                      simp only [gamehalllaw1_SymmColours.l3] at H
                      by_cases c37 : x103_6 < t124
                      ·rw [if_pos c37] at H
                       have c37b0 : decide (x103_6 < t124) = true := decide_eq_true c37
                       clear c37
                       by_cases c38 : 0 ≤ (x14_6.length : Int)
                       ·rw [if_pos c38] at H
                        have c38b0 := eq_true c38
                        have c38b1 : decide (0 ≤ (x14_6.length : Int)) = true := decide_eq_true c38
                        clear c38
                        by_cases c39 : ((x14_6.length : Int) : Int).toNat ≤ 35184372088832
                        ·rw [if_pos c39] at H
                         have c39b0 := eq_true c39
                         have c39b1 : decide (((x14_6.length : Int) : Int).toNat ≤ 35184372088832) = true := decide_eq_true c39
                         clear c39
                         obtain ⟨y125, hy125⟩ : ∃ y_ : List Int, y_ = (List.replicate ((x14_6.length : Int) : Int).toNat 0) := ⟨_, rfl⟩
                         replace H : (gamehalllaw1_SymmColours.l4 k6 a0 a1 a2 t116 t117 x12_4 x14_6 x17_6 x103_6 y125 x11_3 x77_4 t124 x103_6 (x14_6.length : Int) 0) = some r := by first | (rw [hy125]; with_reducible exact H) | (have H2_ := (Option.bind_some _ _).symm.trans H; rw [hy125]; with_reducible exact H2_) | (have H2_ := (Option.bind_some _ _).symm.trans H; with_reducible exact H2_) | with_reducible exact H | (rw [hy125]; exact H) | exact H
                         have Ny125 := Aside0.mk hy125
                         clear hy125
                         have H' := Aside0.mk H
                         clear H
                         go_wp2_with (first | ((with_reducible refine gate_dst (N := 108) rfl ?_); refine Kd.R_make (Kd.int .i64) _ 3 rfl (N := 108) rfl 24 _ _ rfl (x14_6.length : Int) rfl rfl Try.underlying24 (.int .i64 0) 8 info3 rfl (by decide) (by omega) 0 (ok := fun _ => True) (okp := fun _ => True) rfl (fun _ hk => hk) trivial (of_decide_eq_true (by first | (with_reducible assumption) | assumption)) (Nat.le_trans (Nat.mul_le_mul_right _ (of_decide_eq_true (by first | (with_reducible assumption) | assumption) : (x14_6.length : Int).toNat ≤ 35184372088832)) (by omega)) (Below.refl _ _) (Nat.le_refl _) ?_; intro v126 w40 ho41 hb hg_ hnew_; clear hg_ hnew_; (first | rw [← Ny125.out] at ho41 | (simp only [Int.reduceToNat] at ho41; rw [← Ny125.out] at ho41)); have n0_ := Aside0.mk (Kd.R_elder' (by (with_reducible repeat (first | apply Kd.R_alloc | apply Kd.R_drewN | apply Kd.R_drew)); exact HO_14.out) (Kd.R_base ho41) hb); have n1_ := Aside0.mk (Kd.R_lower (Kd.R_new' ho41 (Kd.R_lt (by (with_reducible repeat (first | apply Kd.R_alloc | apply Kd.R_drewN | apply Kd.R_drew)); exact HO_14.out))) (below_size (by repeat (first | (with_reducible first | exact HB.out | apply below_alloc | apply pw_below_drewN | apply below_drew1) | exact HB.out)))); have n2_ := Aside0.mk (below_step (by repeat (first | (with_reducible first | exact HB.out | apply below_alloc | apply pw_below_drewN | apply below_drew1) | exact HB.out)) hb); clear HO_14; clear HB; have HO_14 := n0_; have HO127 := n1_; have HB := n2_; clear n0_ n1_ n2_; clear hb ho41))
                         repeat (go_quiet (first | ((with_reducible refine gate_dst (N := 108) rfl ?_); refine Kd.R_make (Kd.int .i64) _ 3 rfl (N := 108) rfl 24 _ _ rfl (x14_6.length : Int) rfl rfl Try.underlying24 (.int .i64 0) 8 info3 rfl (by decide) (by omega) 0 (ok := fun _ => True) (okp := fun _ => True) rfl (fun _ hk => hk) trivial (of_decide_eq_true (by first | (with_reducible assumption) | assumption)) (Nat.le_trans (Nat.mul_le_mul_right _ (of_decide_eq_true (by first | (with_reducible assumption) | assumption) : (x14_6.length : Int).toNat ≤ 35184372088832)) (by omega)) (Below.refl _ _) (Nat.le_refl _) ?_; intro v126 w40 ho41 hb hg_ hnew_; clear hg_ hnew_; (first | rw [← Ny125.out] at ho41 | (simp only [Int.reduceToNat] at ho41; rw [← Ny125.out] at ho41)); have n0_ := Aside0.mk (Kd.R_elder' (by (with_reducible repeat (first | apply Kd.R_alloc | apply Kd.R_drewN | apply Kd.R_drew)); exact HO_14.out) (Kd.R_base ho41) hb); have n1_ := Aside0.mk (Kd.R_lower (Kd.R_new' ho41 (Kd.R_lt (by (with_reducible repeat (first | apply Kd.R_alloc | apply Kd.R_drewN | apply Kd.R_drew)); exact HO_14.out))) (below_size (by repeat (first | (with_reducible first | exact HB.out | apply below_alloc | apply pw_below_drewN | apply below_drew1) | exact HB.out)))); have n2_ := Aside0.mk (below_step (by repeat (first | (with_reducible first | exact HB.out | apply below_alloc | apply pw_below_drewN | apply below_drew1) | exact HB.out)) hb); clear HO_14; clear HB; have HO_14 := n0_; have HO127 := n1_; have HB := n2_; clear n0_ n1_ n2_; clear hb ho41)); try go_wp2_with (first | ((with_reducible refine gate_dst (N := 108) rfl ?_); refine Kd.R_make (Kd.int .i64) _ 3 rfl (N := 108) rfl 24 _ _ rfl (x14_6.length : Int) rfl rfl Try.underlying24 (.int .i64 0) 8 info3 rfl (by decide) (by omega) 0 (ok := fun _ => True) (okp := fun _ => True) rfl (fun _ hk => hk) trivial (of_decide_eq_true (by first | (with_reducible assumption) | assumption)) (Nat.le_trans (Nat.mul_le_mul_right _ (of_decide_eq_true (by first | (with_reducible assumption) | assumption) : (x14_6.length : Int).toNat ≤ 35184372088832)) (by omega)) (Below.refl _ _) (Nat.le_refl _) ?_; intro v126 w40 ho41 hb hg_ hnew_; clear hg_ hnew_; (first | rw [← Ny125.out] at ho41 | (simp only [Int.reduceToNat] at ho41; rw [← Ny125.out] at ho41)); have n0_ := Aside0.mk (Kd.R_elder' (by (with_reducible repeat (first | apply Kd.R_alloc | apply Kd.R_drewN | apply Kd.R_drew)); exact HO_14.out) (Kd.R_base ho41) hb); have n1_ := Aside0.mk (Kd.R_lower (Kd.R_new' ho41 (Kd.R_lt (by (with_reducible repeat (first | apply Kd.R_alloc | apply Kd.R_drewN | apply Kd.R_drew)); exact HO_14.out))) (below_size (by repeat (first | (with_reducible first | exact HB.out | apply below_alloc | apply pw_below_drewN | apply below_drew1) | exact HB.out)))); have n2_ := Aside0.mk (below_step (by repeat (first | (with_reducible first | exact HB.out | apply below_alloc | apply pw_below_drewN | apply below_drew1) | exact HB.out)) hb); clear HO_14; clear HB; have HO_14 := n0_; have HO127 := n1_; have HB := n2_; clear n0_ n1_ n2_; clear hb ho41)))
                         go_loopg [111] k6 (fun kq v111 w' => ∃ (x19_7 : List Int) (x111_7 : Int), v111 = .int .i64 x111_7 ∧ Aside0 (gamehalllaw1_SymmColours.l4 kq a0 a1 a2 t116 t117 x12_4 x14_6 x17_6 x103_6 x19_7 x11_3 x77_4 t124 x103_6 (x14_6.length : Int) x111_7 = some r) ∧ Aside0 (kq ≤ k6) ∧ Aside0 (Kd.R (Kd.int .i64) 3 w' w.heap.size (fun k_ => some k_ ≠ (v126 : Value).ownBlock) (.slice Ao36 x14_6.length co36) x14_6) ∧ Aside0 (Kd.R (Kd.int .i64) 3 w' w.heap.size (fun k_ => some k_ ≠ ((.slice Ao36 x14_6.length co36) : Value).ownBlock) v126 x19_7) ∧ Aside0 (Below w.heap.size w w'))
                         case atStart => exact ⟨(y125), (0), (by first | rfl | (simp; done) | (simp [*]; done)), H', ⟨Nat.le_refl _⟩, ⟨by (try simp only [hl14_6]); (with_reducible repeat (first | apply Kd.R_alloc | apply Kd.R_drewN | apply Kd.R_drew)); exact Kd.R_mono HO_14.out (fun _ hk => hk.2)⟩, ⟨by (try simp only [hl14_6]); (with_reducible repeat (first | apply Kd.R_alloc | apply Kd.R_drewN | apply Kd.R_drew)); exact Kd.R_mono HO127.out (fun _ hk => hk.2)⟩, ⟨by repeat (first | (with_reducible first | exact HB.out | apply below_alloc | apply pw_below_drewN | apply below_drew1) | exact HB.out)⟩⟩
                         case round =>
                          clear H'
                          try clear c1
                          try clear c2
                          try clear p2
                          try clear c3
                          try clear p3
                          try clear q3
                          try clear hx3
                          try clear hf3
                          try clear c6
                          try clear p6
                          try clear c7
                          try clear c7b0
                          try clear c7b1
                          try clear c8
                          try clear c11
                          try clear c11b0
                          try clear c11b1
                          try clear c12
                          try clear c12b0
                          try clear c12b1
                          try clear c16
                          try clear c19
                          try clear c19b0
                          try clear c20
                          try clear c21
                          try clear c21b0
                          try clear c22
                          try clear c22b0
                          try clear c24
                          try clear c24b0
                          try clear c24b1
                          try clear c25
                          try clear c25b0
                          try clear c25b1
                          try clear c28
                          try clear c28b0
                          try clear c29
                          try clear c29b0
                          try clear c29b1
                          try clear c30
                          try clear c30b0
                          try clear p31
                          try clear q31
                          try clear hx31
                          try clear hf31
                          try clear c37
                          try clear c37b0
                          try clear c38
                          try clear c38b0
                          try clear c38b1
                          try clear c39
                          try clear c39b0
                          try clear c39b1
                          try clear hx31_0
                          try clear p2
                          try clear p3
                          try clear p31
                          try clear p6
                          try clear q3
                          try clear q31
                          obtain ⟨x19_7, x111_7, rfl, HA, HK7, HO_14, HO_19, HB⟩ := hrel
                          cases gk with
                          | zero => exact absurd HA.out (by simp [gamehalllaw1_SymmColours.l4])
                          | succ k7 =>
                           have H := HA.out
                           clear HA
                           simp only [gamehalllaw1_SymmColours.l4] at H
                           by_cases c42 : x111_7 < (x14_6.length : Int)
                           ·rw [if_pos c42] at H
                            have c42b0 : decide (x111_7 < (x14_6.length : Int)) = true := decide_eq_true c42
                            clear c42
                            by_cases c43 : 0 ≤ x111_7
                            ·rw [if_pos c43] at H
                             have c43b0 : decide (0 ≤ x111_7) = true := decide_eq_true c43
                             clear c43
                             by_cases c44 : x111_7 < (x14_6.length : Int)
                             ·rw [if_pos c44] at H
                              have c44b0 : decide (x111_7 < (x14_6.length : Int)) = true := decide_eq_true c44
                              clear c44
                              replace H := Option.bind_eq_some_iff.mp H
                              obtain ⟨t129, A450, H⟩ := H
                              replace H : (if 0 ≤ t129 then (if t129 < (x19_7.length : Int) then (gamehalllaw1_SymmColours.l4 k7 a0 a1 a2 t116 t117 x12_4 x14_6 x17_6 x103_6 (x19_7.set (t129 : Int).toNat (rd x14_6 x111_7)) x11_3 x77_4 t124 x103_6 (x14_6.length : Int) (wrap64 (x111_7 + 1))) else (none)) else (none)) = some r := H
                              have A45 := Aside0.mk A450
                              clear A450
                              by_cases c46 : 0 ≤ t129
                              ·rw [if_pos c46] at H
                               have c46b0 : decide (0 ≤ t129) = true := decide_eq_true c46
                               clear c46
                               by_cases c47 : t129 < (x19_7.length : Int)
                               ·rw [if_pos c47] at H
                                have c47b0 : decide (t129 < (x19_7.length : Int)) = true := decide_eq_true c47
                                (try (have c47b0l := c47b0; simp only [hl14_6] at c47b0l))
                                clear c47
                                obtain ⟨y130, hy130⟩ : ∃ y_ : List Int, y_ = (x19_7.set (t129 : Int).toNat (rd x14_6 x111_7)) := ⟨_, rfl⟩
                                replace H : (gamehalllaw1_SymmColours.l4 k7 a0 a1 a2 t116 t117 x12_4 x14_6 x17_6 x103_6 y130 x11_3 x77_4 t124 x103_6 (x14_6.length : Int) (wrap64 (x111_7 + 1))) = some r := by first | (rw [hy130]; with_reducible exact H) | (have H2_ := (Option.bind_some _ _).symm.trans H; rw [hy130]; with_reducible exact H2_) | (have H2_ := (Option.bind_some _ _).symm.trans H; with_reducible exact H2_) | with_reducible exact H | (rw [hy130]; exact H) | exact H
                                have Ny130 := Aside0.mk hy130
                                clear hy130
                                have H' := Aside0.mk H
                                clear H
                                have p128 : 0 ≤ (x111_7 : Int) := of_decide_eq_true (by first | (with_reducible assumption) | assumption)
                                have q128 : x111_7 < (x14_6.length : Int) := of_decide_eq_true (by first | (with_reducible assumption) | assumption)
                                obtain ⟨ad128, e128, hx128_0⟩ := Kd.at_int (Kd.R_reads' HO_14.out).2.2 x111_7 p128 q128
                                cases e128
                                replace p128 := eq_true p128
                                replace q128 := eq_true q128
                                go_wp2_with (first | (go_at_call 20; (with_reducible refine (gamehallref1_Moved.calls k7 a0 a1 x103_6 x111_7 t129 _ A45.out).mono ?_); rintro e w' ⟨rfl, ⟨nd, rfl⟩⟩; (try first | exact ⟨rfl, _, World.drewN_drewN _ _ _⟩ | exact ⟨rfl, _, Eq.trans (World.drewN_drewN _ _ _) (congrArg (World.drewN _) (Nat.add_assoc _ _ _))⟩); have p48 : 0 ≤ (t129 : Int) := of_decide_eq_true (by first | (with_reducible assumption) | assumption); have q48 : (t129 : Int) < ((x19_7.length : Int) : Int) := of_decide_eq_true (by first | (with_reducible assumption) | assumption); obtain ⟨go48, co48, eo48, gb48, gl48, cl48, HG48⟩ := Kd.R_form HO_19.out (by omega); (first | cases eo48 | (injection eo48 with ea_ en_ ec_; (first | subst ea_ | (injection ea_ with ea_; subst ea_)); subst ec_; clear en_)); have GB48 := Aside0.mk gb48; have GG48 := Aside0.mk HG48; clear gb48 gl48 HG48; obtain ⟨hx48_0, hf48_0⟩ := Kd.R_celln 0 HO_19.out (t129 : Int) p48 q48; replace p48 := eq_true p48; replace q48 := eq_true q48; obtain ⟨hy49_, hz49_⟩ := Kd.R_celln 0 HO_19.out (t129 : Int) (of_decide_eq_true (by first | (with_reducible assumption) | assumption)) (of_decide_eq_true (by first | (with_reducible assumption) | assumption)); have HP49 := Kd.R_putg HO_19.out (t129 : Int) (rd x14_6 x111_7)) | ((with_reducible refine gate_store (t := 3) (p := 123) rfl ?_); (try (rw [drewN_self wr]; generalize hq_ : World.drewN wr _ = wr; have n0_ := Aside0.mk (Kd.R_at hq_ HO_14.out); have n1_ := Aside0.mk (Kd.R_at hq_ HO_19.out); have n2_ := Aside0.mk (below_at hq_ HB.out); clear hq_ HO_14 HO_19 HB; have HO_14 := n0_; have HO_19 := n1_; have HB := n2_; clear n0_ n1_ n2_; (try (obtain ⟨hy49_, hz49_⟩ := Kd.R_celln 0 HO_19.out (t129 : Int) (of_decide_eq_true (by first | (with_reducible assumption) | assumption)) (of_decide_eq_true (by first | (with_reducible assumption) | assumption)))); (try (have HP49 := Kd.R_putg HO_19.out (t129 : Int) (rd x14_6 x111_7))))); refine store_event (t := 3) (p := 123) (v := ?vo_w50) (w1 := (wr.setCell ⟨go48, (t129 : Int).toNat, none⟩ (.int .i64 (rd x14_6 x111_7)))) ?hg ?ho ?hn ?hr ?_; (case ho => rfl); (case hg => rfl); (case hn => rfl); (case hr => first | (go_simp; done) | (go_simp; rfl)); intro w50 hw; have hg : wr.grownBy w50 (some go48) := (by rw [hw]; exact HP49.2); have hp_ : Kd.R (Kd.int .i64) 3 w50 w.heap.size (fun k_ => some k_ ≠ (.slice (some ad128) x14_6.length co36 : Value).ownBlock) (.slice (some ⟨go48, 0, none⟩) x19_7.length co48) y130 := (by rw [hw, Ny130.out]; exact HP49.1); clear HP49; have n0_ := Aside0.mk (Kd.R_after (v := (.slice (some ⟨go48, 0, none⟩) x19_7.length co48)) (v1 := (.slice (some ⟨go48, 0, none⟩) x19_7.length co48)) (ok := (fun _ => True)) (by (with_reducible repeat (first | apply Kd.R_alloc | apply Kd.R_drewN | apply Kd.R_drew)); exact Kd.R_mono HO_14.out (fun _ hk => ⟨trivial, hk⟩)) hg (.inl rfl)); have n1_ := Aside0.mk (hp_); have n2_ := Aside0.mk ((by rw [hw]; exact below_set (HB.out) GB48.out : Below w.heap.size w w50)); clear HO_14; clear HO_19; clear HB; have HO_14 := n0_; have HO_19 := n1_; have HB := n2_; clear n0_ n1_ n2_; clear hg hw hp_))
                                repeat (go_quiet (first | (go_at_call 20; (with_reducible refine (gamehallref1_Moved.calls k7 a0 a1 x103_6 x111_7 t129 _ A45.out).mono ?_); rintro e w' ⟨rfl, ⟨nd, rfl⟩⟩; (try first | exact ⟨rfl, _, World.drewN_drewN _ _ _⟩ | exact ⟨rfl, _, Eq.trans (World.drewN_drewN _ _ _) (congrArg (World.drewN _) (Nat.add_assoc _ _ _))⟩); have p48 : 0 ≤ (t129 : Int) := of_decide_eq_true (by first | (with_reducible assumption) | assumption); have q48 : (t129 : Int) < ((x19_7.length : Int) : Int) := of_decide_eq_true (by first | (with_reducible assumption) | assumption); obtain ⟨go48, co48, eo48, gb48, gl48, cl48, HG48⟩ := Kd.R_form HO_19.out (by omega); (first | cases eo48 | (injection eo48 with ea_ en_ ec_; (first | subst ea_ | (injection ea_ with ea_; subst ea_)); subst ec_; clear en_)); have GB48 := Aside0.mk gb48; have GG48 := Aside0.mk HG48; clear gb48 gl48 HG48; obtain ⟨hx48_0, hf48_0⟩ := Kd.R_celln 0 HO_19.out (t129 : Int) p48 q48; replace p48 := eq_true p48; replace q48 := eq_true q48; obtain ⟨hy49_, hz49_⟩ := Kd.R_celln 0 HO_19.out (t129 : Int) (of_decide_eq_true (by first | (with_reducible assumption) | assumption)) (of_decide_eq_true (by first | (with_reducible assumption) | assumption)); have HP49 := Kd.R_putg HO_19.out (t129 : Int) (rd x14_6 x111_7)) | ((with_reducible refine gate_store (t := 3) (p := 123) rfl ?_); (try (rw [drewN_self wr]; generalize hq_ : World.drewN wr _ = wr; have n0_ := Aside0.mk (Kd.R_at hq_ HO_14.out); have n1_ := Aside0.mk (Kd.R_at hq_ HO_19.out); have n2_ := Aside0.mk (below_at hq_ HB.out); clear hq_ HO_14 HO_19 HB; have HO_14 := n0_; have HO_19 := n1_; have HB := n2_; clear n0_ n1_ n2_; (try (obtain ⟨hy49_, hz49_⟩ := Kd.R_celln 0 HO_19.out (t129 : Int) (of_decide_eq_true (by first | (with_reducible assumption) | assumption)) (of_decide_eq_true (by first | (with_reducible assumption) | assumption)))); (try (have HP49 := Kd.R_putg HO_19.out (t129 : Int) (rd x14_6 x111_7))))); refine store_event (t := 3) (p := 123) (v := ?vo_w50) (w1 := (wr.setCell ⟨go48, (t129 : Int).toNat, none⟩ (.int .i64 (rd x14_6 x111_7)))) ?hg ?ho ?hn ?hr ?_; (case ho => rfl); (case hg => rfl); (case hn => rfl); (case hr => first | (go_simp; done) | (go_simp; rfl)); intro w50 hw; have hg : wr.grownBy w50 (some go48) := (by rw [hw]; exact HP49.2); have hp_ : Kd.R (Kd.int .i64) 3 w50 w.heap.size (fun k_ => some k_ ≠ (.slice (some ad128) x14_6.length co36 : Value).ownBlock) (.slice (some ⟨go48, 0, none⟩) x19_7.length co48) y130 := (by rw [hw, Ny130.out]; exact HP49.1); clear HP49; have n0_ := Aside0.mk (Kd.R_after (v := (.slice (some ⟨go48, 0, none⟩) x19_7.length co48)) (v1 := (.slice (some ⟨go48, 0, none⟩) x19_7.length co48)) (ok := (fun _ => True)) (by (with_reducible repeat (first | apply Kd.R_alloc | apply Kd.R_drewN | apply Kd.R_drew)); exact Kd.R_mono HO_14.out (fun _ hk => ⟨trivial, hk⟩)) hg (.inl rfl)); have n1_ := Aside0.mk (hp_); have n2_ := Aside0.mk ((by rw [hw]; exact below_set (HB.out) GB48.out : Below w.heap.size w w50)); clear HO_14; clear HO_19; clear HB; have HO_14 := n0_; have HO_19 := n1_; have HB := n2_; clear n0_ n1_ n2_; clear hg hw hp_)); try go_wp2_with (first | (go_at_call 20; (with_reducible refine (gamehallref1_Moved.calls k7 a0 a1 x103_6 x111_7 t129 _ A45.out).mono ?_); rintro e w' ⟨rfl, ⟨nd, rfl⟩⟩; (try first | exact ⟨rfl, _, World.drewN_drewN _ _ _⟩ | exact ⟨rfl, _, Eq.trans (World.drewN_drewN _ _ _) (congrArg (World.drewN _) (Nat.add_assoc _ _ _))⟩); have p48 : 0 ≤ (t129 : Int) := of_decide_eq_true (by first | (with_reducible assumption) | assumption); have q48 : (t129 : Int) < ((x19_7.length : Int) : Int) := of_decide_eq_true (by first | (with_reducible assumption) | assumption); obtain ⟨go48, co48, eo48, gb48, gl48, cl48, HG48⟩ := Kd.R_form HO_19.out (by omega); (first | cases eo48 | (injection eo48 with ea_ en_ ec_; (first | subst ea_ | (injection ea_ with ea_; subst ea_)); subst ec_; clear en_)); have GB48 := Aside0.mk gb48; have GG48 := Aside0.mk HG48; clear gb48 gl48 HG48; obtain ⟨hx48_0, hf48_0⟩ := Kd.R_celln 0 HO_19.out (t129 : Int) p48 q48; replace p48 := eq_true p48; replace q48 := eq_true q48; obtain ⟨hy49_, hz49_⟩ := Kd.R_celln 0 HO_19.out (t129 : Int) (of_decide_eq_true (by first | (with_reducible assumption) | assumption)) (of_decide_eq_true (by first | (with_reducible assumption) | assumption)); have HP49 := Kd.R_putg HO_19.out (t129 : Int) (rd x14_6 x111_7)) | ((with_reducible refine gate_store (t := 3) (p := 123) rfl ?_); (try (rw [drewN_self wr]; generalize hq_ : World.drewN wr _ = wr; have n0_ := Aside0.mk (Kd.R_at hq_ HO_14.out); have n1_ := Aside0.mk (Kd.R_at hq_ HO_19.out); have n2_ := Aside0.mk (below_at hq_ HB.out); clear hq_ HO_14 HO_19 HB; have HO_14 := n0_; have HO_19 := n1_; have HB := n2_; clear n0_ n1_ n2_; (try (obtain ⟨hy49_, hz49_⟩ := Kd.R_celln 0 HO_19.out (t129 : Int) (of_decide_eq_true (by first | (with_reducible assumption) | assumption)) (of_decide_eq_true (by first | (with_reducible assumption) | assumption)))); (try (have HP49 := Kd.R_putg HO_19.out (t129 : Int) (rd x14_6 x111_7))))); refine store_event (t := 3) (p := 123) (v := ?vo_w50) (w1 := (wr.setCell ⟨go48, (t129 : Int).toNat, none⟩ (.int .i64 (rd x14_6 x111_7)))) ?hg ?ho ?hn ?hr ?_; (case ho => rfl); (case hg => rfl); (case hn => rfl); (case hr => first | (go_simp; done) | (go_simp; rfl)); intro w50 hw; have hg : wr.grownBy w50 (some go48) := (by rw [hw]; exact HP49.2); have hp_ : Kd.R (Kd.int .i64) 3 w50 w.heap.size (fun k_ => some k_ ≠ (.slice (some ad128) x14_6.length co36 : Value).ownBlock) (.slice (some ⟨go48, 0, none⟩) x19_7.length co48) y130 := (by rw [hw, Ny130.out]; exact HP49.1); clear HP49; have n0_ := Aside0.mk (Kd.R_after (v := (.slice (some ⟨go48, 0, none⟩) x19_7.length co48)) (v1 := (.slice (some ⟨go48, 0, none⟩) x19_7.length co48)) (ok := (fun _ => True)) (by (with_reducible repeat (first | apply Kd.R_alloc | apply Kd.R_drewN | apply Kd.R_drew)); exact Kd.R_mono HO_14.out (fun _ hk => ⟨trivial, hk⟩)) hg (.inl rfl)); have n1_ := Aside0.mk (hp_); have n2_ := Aside0.mk ((by rw [hw]; exact below_set (HB.out) GB48.out : Below w.heap.size w w50)); clear HO_14; clear HO_19; clear HB; have HO_14 := n0_; have HO_19 := n1_; have HB := n2_; clear n0_ n1_ n2_; clear hg hw hp_)))
                                (first | go_roundg k7 | (simp only [← hji23]; go_roundg k7))
                                case measure => have := HJ4.out; have := HJ16.out; have := HK3.out; have := HK4.out; have := HK5.out; have := HK6.out; have := HK7.out; omega
                                case rel => exact ⟨(y130), (wrap64 (x111_7 + 1)), (by first | rfl | (simp; done) | (simp [*]; done)), H', ⟨by have := HJ4.out; have := HJ16.out; have := HK3.out; have := HK4.out; have := HK5.out; have := HK6.out; have := HK7.out; omega⟩, ⟨by (try simp only [hl14_6]); (with_reducible repeat (first | apply Kd.R_alloc | apply Kd.R_drewN | apply Kd.R_drew)); exact Kd.R_mono HO_14.out (fun _ hk => hk.2)⟩, ⟨by (try simp only [hl14_6]); (with_reducible repeat (first | apply Kd.R_alloc | apply Kd.R_drewN | apply Kd.R_drew)); exact HO_19.out⟩, ⟨by repeat (first | (with_reducible first | exact HB.out | apply below_alloc | apply pw_below_drewN | apply below_drew1) | exact HB.out)⟩⟩
                               ·rw [if_neg c47] at H
                                exact absurd H (by simp)
                              ·rw [if_neg c46] at H
                               exact absurd H (by simp)
                             ·rw [if_neg c44] at H
                              exact absurd H (by simp)
                            ·rw [if_neg c43] at H
                             exact absurd H (by simp)
                           ·rw [if_neg c42] at H
                            have c42b0 : decide (x111_7 < (x14_6.length : Int)) = false := decide_eq_false c42
                            clear c42
                            have H' := Aside0.mk H
                            clear H
                            obtain ⟨Ao51, co51, eo51⟩ := Kd.R_slice HO_19.out
                            subst eo51
                            go_wp2
                            repeat (go_quiet (fail); try go_wp2)
                            go_loopg [17, 127] k7 (fun kq v17 v127 w' => ∃ (x17_8 : Bool) (x127_8 : Int), v17 = .bool x17_8 ∧ v127 = .int .i64 x127_8 ∧ Aside0 (gamehalllaw1_SymmColours.l5 kq a0 a1 a2 t116 t117 x12_4 x14_6 x17_8 x19_7 x11_3 x77_4 t124 x103_6 (x19_7.length : Int) x127_8 = some r) ∧ Aside0 (kq ≤ k7) ∧ Aside0 (Kd.R (Kd.int .i64) 3 w' w.heap.size (fun k_ => some k_ ≠ ((.slice Ao51 x19_7.length co51) : Value).ownBlock) (.slice Ao36 x14_6.length co36) x14_6) ∧ Aside0 (Kd.R (Kd.int .i64) 3 w' w.heap.size (fun k_ => some k_ ≠ ((.slice Ao36 x14_6.length co36) : Value).ownBlock) (.slice Ao51 x19_7.length co51) x19_7) ∧ Aside0 (Below w.heap.size w w'))
                            case atStart => exact ⟨(x17_6), (0), (by first | rfl | (simp; done) | (simp [*]; done)), (by first | rfl | (simp; done) | (simp [*]; done)), H', ⟨Nat.le_refl _⟩, ⟨by (try simp only [hl14_6]); (with_reducible repeat (first | apply Kd.R_alloc | apply Kd.R_drewN | apply Kd.R_drew)); exact HO_14.out⟩, ⟨by (try simp only [hl14_6]); (with_reducible repeat (first | apply Kd.R_alloc | apply Kd.R_drewN | apply Kd.R_drew)); exact HO_19.out⟩, ⟨by repeat (first | (with_reducible first | exact HB.out | apply below_alloc | apply pw_below_drewN | apply below_drew1) | exact HB.out)⟩⟩
                            case round =>
                             clear H'
                             try clear c1
                             try clear p1
                             try clear q1
                             try clear hx1
                             try clear c2
                             try clear p2
                             try clear c3
                             try clear p3
                             try clear q3
                             try clear hx3
                             try clear hf3
                             try clear c4
                             try clear p4
                             try clear q4
                             try clear hx4
                             try clear hf4
                             try clear c6
                             try clear p6
                             try clear c7
                             try clear c7b0
                             try clear c7b1
                             try clear c8
                             try clear c11
                             try clear c11b0
                             try clear c11b1
                             try clear c12
                             try clear c12b0
                             try clear c12b1
                             try clear p12
                             try clear q12
                             try clear hx12
                             try clear c16
                             try clear c19
                             try clear c19b0
                             try clear c20
                             try clear c21
                             try clear c21b0
                             try clear c22
                             try clear c22b0
                             try clear c24
                             try clear c24b0
                             try clear c24b1
                             try clear c25
                             try clear c25b0
                             try clear c25b1
                             try clear c28
                             try clear c28b0
                             try clear c29
                             try clear c29b0
                             try clear c29b1
                             try clear c30
                             try clear c30b0
                             try clear p31
                             try clear q31
                             try clear hx31
                             try clear hf31
                             try clear c37
                             try clear c37b0
                             try clear c38
                             try clear c38b0
                             try clear c38b1
                             try clear c39
                             try clear c39b0
                             try clear c39b1
                             try clear c42
                             try clear c42b0
                             try clear c43
                             try clear c43b0
                             try clear c44
                             try clear c44b0
                             try clear c46
                             try clear c46b0
                             try clear c47
                             try clear c47b0
                             try clear p48
                             try clear q48
                             try clear hx48
                             try clear hf48
                             try clear hx128_0
                             try clear hx31_0
                             try clear hx48_0
                             try clear p128
                             try clear p2
                             try clear p3
                             try clear p31
                             try clear p48
                             try clear p6
                             try clear q128
                             try clear q3
                             try clear q31
                             try clear q48
                             obtain ⟨x17_8, x127_8, rfl, rfl, HA, HK8, HO_14, HO_19, HB⟩ := hrel
                             cases gk with
                             | zero => exact absurd HA.out (by simp [gamehalllaw1_SymmColours.l5])
                             | succ k8 =>
                              have H := HA.out
                              clear HA
                              simp only [gamehalllaw1_SymmColours.l5] at H
                              by_cases c52 : x127_8 < (x19_7.length : Int)
                              ·rw [if_pos c52] at H
                               have c52b0 : decide (x127_8 < (x19_7.length : Int)) = true := decide_eq_true c52
                               (try (have c52b0l := c52b0; simp only [hl14_6] at c52b0l))
                               clear c52
                               by_cases c53 : 0 ≤ x127_8
                               ·rw [if_pos c53] at H
                                have c53b0 : decide (0 ≤ x127_8) = true := decide_eq_true c53
                                clear c53
                                by_cases c54 : x127_8 < (x19_7.length : Int)
                                ·rw [if_pos c54] at H
                                 have c54b0 : decide (x127_8 < (x19_7.length : Int)) = true := decide_eq_true c54
                                 (try (have c54b0l := c54b0; simp only [hl14_6] at c54b0l))
                                 clear c54
                                 by_cases c55 : x127_8 < (x14_6.length : Int)
                                 ·rw [if_pos c55] at H
                                  have c55b0 : decide (x127_8 < (x14_6.length : Int)) = true := decide_eq_true c55
                                  clear c55
                                  by_cases c56 : (rd x19_7 x127_8) = (rd x14_6 x127_8)
                                  ·rw [if_pos c56] at H
                                   have c56b0 : ((rd x19_7 x127_8) == (rd x14_6 x127_8)) = true := beq_iff_eq.mpr c56
                                   have c56b1 : ((rd x19_7 x127_8) != (rd x14_6 x127_8)) = false := bne_eq_false_iff_eq.mpr c56
                                   clear c56
                                   have H' := Aside0.mk H
                                   clear H
                                   have p131 : 0 ≤ (x127_8 : Int) := of_decide_eq_true (by first | (with_reducible assumption) | assumption)
                                   have q131 : x127_8 < (x19_7.length : Int) := of_decide_eq_true (by first | (with_reducible assumption) | assumption)
                                   obtain ⟨ad131, e131, hx131_0⟩ := Kd.at_int (Kd.R_reads' HO_19.out).2.2 x127_8 p131 q131
                                   cases e131
                                   replace p131 := eq_true p131
                                   replace q131 := eq_true q131
                                   have p132 : 0 ≤ (x127_8 : Int) := of_decide_eq_true (by first | (with_reducible assumption) | assumption)
                                   have q132 : x127_8 < (x14_6.length : Int) := of_decide_eq_true (by first | (with_reducible assumption) | assumption)
                                   obtain ⟨ad132, e132, hx132_0⟩ := Kd.at_int (Kd.R_reads' HO_14.out).2.2 x127_8 p132 q132
                                   cases e132
                                   replace p132 := eq_true p132
                                   replace q132 := eq_true q132
                                   go_wp2
                                   repeat (go_quiet (fail); try go_wp2)
                                   (first | go_roundg k8 | (simp only [← hji23]; go_roundg k8))
                                   case measure => have := HJ4.out; have := HJ16.out; have := HK3.out; have := HK4.out; have := HK5.out; have := HK6.out; have := HK7.out; have := HK8.out; omega
                                   case rel => exact ⟨(x17_8), (wrap64 (x127_8 + 1)), (by first | rfl | (simp; done) | (simp [*]; done)), (by first | rfl | (simp; done) | (simp [*]; done)), H', ⟨by have := HJ4.out; have := HJ16.out; have := HK3.out; have := HK4.out; have := HK5.out; have := HK6.out; have := HK7.out; have := HK8.out; omega⟩, ⟨by (try simp only [hl14_6]); (with_reducible repeat (first | apply Kd.R_alloc | apply Kd.R_drewN | apply Kd.R_drew)); exact HO_14.out⟩, ⟨by (try simp only [hl14_6]); (with_reducible repeat (first | apply Kd.R_alloc | apply Kd.R_drewN | apply Kd.R_drew)); exact HO_19.out⟩, ⟨by repeat (first | (with_reducible first | exact HB.out | apply below_alloc | apply pw_below_drewN | apply below_drew1) | exact HB.out)⟩⟩
                                  ·rw [if_neg c56] at H
                                   have c56b0 : ((rd x19_7 x127_8) == (rd x14_6 x127_8)) = false := beq_eq_false_iff_ne.mpr c56
                                   have c56b1 : ((rd x19_7 x127_8) != (rd x14_6 x127_8)) = true := bne_iff_ne.mpr c56
                                   by_cases c57 : x17_8 = true
                                   ·subst c57
                                    have H1 : (gamehalllaw1_SymmColours.l3 k8 a0 a1 a2 t116 t117 x12_4 x14_6 (decide ((rd x19_7 x127_8) > (rd x14_6 x127_8))) x11_3 x77_4 t124 (wrap64 (x103_6 + 1))) = some r := by rw [if_pos rfl] at H; exact H
                                    clear H
                                    have H := H1
                                    clear H1
                                    have H' := Aside0.mk H
                                    clear H
                                    have p131 : 0 ≤ (x127_8 : Int) := of_decide_eq_true (by first | (with_reducible assumption) | assumption)
                                    have q131 : x127_8 < (x19_7.length : Int) := of_decide_eq_true (by first | (with_reducible assumption) | assumption)
                                    obtain ⟨ad131, e131, hx131_0⟩ := Kd.at_int (Kd.R_reads' HO_19.out).2.2 x127_8 p131 q131
                                    cases e131
                                    replace p131 := eq_true p131
                                    replace q131 := eq_true q131
                                    have p132 : 0 ≤ (x127_8 : Int) := of_decide_eq_true (by first | (with_reducible assumption) | assumption)
                                    have q132 : x127_8 < (x14_6.length : Int) := of_decide_eq_true (by first | (with_reducible assumption) | assumption)
                                    obtain ⟨ad132, e132, hx132_0⟩ := Kd.at_int (Kd.R_reads' HO_14.out).2.2 x127_8 p132 q132
                                    cases e132
                                    replace p132 := eq_true p132
                                    replace q132 := eq_true q132
                                    have p133 : 0 ≤ (x127_8 : Int) := of_decide_eq_true (by first | (with_reducible assumption) | assumption)
                                    have q133 : x127_8 < (x19_7.length : Int) := of_decide_eq_true (by first | (with_reducible assumption) | assumption)
                                    obtain ⟨ad133, e133, hx133_0⟩ := Kd.at_int (Kd.R_reads' HO_19.out).2.2 x127_8 p133 q133
                                    obtain rfl : ad131 = ad133 := (by injection e133)
                                    replace p133 := eq_true p133
                                    replace q133 := eq_true q133
                                    have p134 : 0 ≤ (x127_8 : Int) := of_decide_eq_true (by first | (with_reducible assumption) | assumption)
                                    have q134 : x127_8 < (x14_6.length : Int) := of_decide_eq_true (by first | (with_reducible assumption) | assumption)
                                    obtain ⟨ad134, e134, hx134_0⟩ := Kd.at_int (Kd.R_reads' HO_14.out).2.2 x127_8 p134 q134
                                    obtain rfl : ad132 = ad134 := (by injection e134)
                                    replace p134 := eq_true p134
                                    replace q134 := eq_true q134
                                    go_wp2
                                    repeat (go_quiet (fail); try go_wp2)
                                    (try simp only [← hl14_6])
                                    (first | go_roundg k8 | (simp only [← hji23]; go_roundg k8))
                                    case measure => have := HJ4.out; have := HJ16.out; have := HK3.out; have := HK4.out; have := HK5.out; have := HK6.out; have := HK7.out; have := HK8.out; omega
                                    case rel => exact ⟨(x14_6), (decide ((rd x19_7 x127_8) > (rd x14_6 x127_8))), (wrap64 (x103_6 + 1)), (by first | rfl | (simp; done) | (simp [*]; done)), (by first | rfl | (simp; done) | (simp [*]; done)), H', ⟨by have := HJ4.out; have := HJ16.out; have := HK3.out; have := HK4.out; have := HK5.out; have := HK6.out; have := HK7.out; have := HK8.out; omega⟩, ⟨by (try simp only [hl14_6]); (with_reducible repeat (first | apply Kd.R_alloc | apply Kd.R_drewN | apply Kd.R_drew)); exact Kd.R_mono HO_14.out (fun _ hk => trivial)⟩, ⟨by repeat (first | (with_reducible first | exact HB.out | apply below_alloc | apply pw_below_drewN | apply below_drew1) | exact HB.out)⟩⟩
                                   ·replace c57 := Bool.eq_false_iff.mpr c57
                                    subst c57
                                    have H1 : (gamehalllaw1_SymmColours.l3 k8 a0 a1 a2 t116 t117 x12_4 x14_6 false x11_3 x77_4 t124 (wrap64 (x103_6 + 1))) = some r := by rw [if_neg (show ¬ (false = true) by decide)] at H; exact H
                                    clear H
                                    have H := H1
                                    clear H1
                                    have H' := Aside0.mk H
                                    clear H
                                    have p131 : 0 ≤ (x127_8 : Int) := of_decide_eq_true (by first | (with_reducible assumption) | assumption)
                                    have q131 : x127_8 < (x19_7.length : Int) := of_decide_eq_true (by first | (with_reducible assumption) | assumption)
                                    obtain ⟨ad131, e131, hx131_0⟩ := Kd.at_int (Kd.R_reads' HO_19.out).2.2 x127_8 p131 q131
                                    cases e131
                                    replace p131 := eq_true p131
                                    replace q131 := eq_true q131
                                    have p132 : 0 ≤ (x127_8 : Int) := of_decide_eq_true (by first | (with_reducible assumption) | assumption)
                                    have q132 : x127_8 < (x14_6.length : Int) := of_decide_eq_true (by first | (with_reducible assumption) | assumption)
                                    obtain ⟨ad132, e132, hx132_0⟩ := Kd.at_int (Kd.R_reads' HO_14.out).2.2 x127_8 p132 q132
                                    cases e132
                                    replace p132 := eq_true p132
                                    replace q132 := eq_true q132
                                    go_wp2
                                    repeat (go_quiet (fail); try go_wp2)
                                    (try simp only [← hl14_6])
                                    (first | go_roundg k8 | (simp only [← hji23]; go_roundg k8))
                                    case measure => have := HJ4.out; have := HJ16.out; have := HK3.out; have := HK4.out; have := HK5.out; have := HK6.out; have := HK7.out; have := HK8.out; omega
                                    case rel => exact ⟨(x14_6), (false), (wrap64 (x103_6 + 1)), (by first | rfl | (simp; done) | (simp [*]; done)), (by first | rfl | (simp; done) | (simp [*]; done)), H', ⟨by have := HJ4.out; have := HJ16.out; have := HK3.out; have := HK4.out; have := HK5.out; have := HK6.out; have := HK7.out; have := HK8.out; omega⟩, ⟨by (try simp only [hl14_6]); (with_reducible repeat (first | apply Kd.R_alloc | apply Kd.R_drewN | apply Kd.R_drew)); exact Kd.R_mono HO_14.out (fun _ hk => trivial)⟩, ⟨by repeat (first | (with_reducible first | exact HB.out | apply below_alloc | apply pw_below_drewN | apply below_drew1) | exact HB.out)⟩⟩
                                 ·rw [if_neg c55] at H
                                  exact absurd H (by simp)
                                ·rw [if_neg c54] at H
                                 exact absurd H (by simp)
                               ·rw [if_neg c53] at H
                                exact absurd H (by simp)
                              ·rw [if_neg c52] at H
                               have c52b0 : decide (x127_8 < (x19_7.length : Int)) = false := decide_eq_false c52
                               (try (have c52b0l := c52b0; simp only [hl14_6] at c52b0l))
                               clear c52
                               have H' := Aside0.mk H
                               clear H
                               go_wp2
                               repeat (go_quiet (fail); try go_wp2)
                               (try simp only [← hl14_6])
                               (first | go_roundg k8 | (simp only [← hji23]; go_roundg k8))
                               case measure => have := HJ4.out; have := HJ16.out; have := HK3.out; have := HK4.out; have := HK5.out; have := HK6.out; have := HK7.out; have := HK8.out; omega
                               case rel => exact ⟨(x14_6), (x17_8), (wrap64 (x103_6 + 1)), (by first | rfl | (simp; done) | (simp [*]; done)), (by first | rfl | (simp; done) | (simp [*]; done)), H', ⟨by have := HJ4.out; have := HJ16.out; have := HK3.out; have := HK4.out; have := HK5.out; have := HK6.out; have := HK7.out; have := HK8.out; omega⟩, ⟨by (try simp only [hl14_6]); (with_reducible repeat (first | apply Kd.R_alloc | apply Kd.R_drewN | apply Kd.R_drew)); exact Kd.R_mono HO_14.out (fun _ hk => trivial)⟩, ⟨by repeat (first | (with_reducible first | exact HB.out | apply below_alloc | apply pw_below_drewN | apply below_drew1) | exact HB.out)⟩⟩
                        ·rw [if_neg c39] at H
                         exact absurd H (by simp)
                       ·rw [if_neg c38] at H
                        exact absurd H (by simp)
                      ·rw [if_neg c37] at H
                       have c37b0 : decide (x103_6 < t124) = false := decide_eq_false c37
                       clear c37
                       by_cases c58 : x17_6 = true
                       ·subst c58
                        have H1 : (gamehalllaw1_SymmColours.l1 k6 a0 a1 a2 t116 t117 (wrap64 (x12_4 + 1)) x11_3 (wrap64 (x77_4 + 1))) = some r := by rw [if_pos rfl] at H; exact H
                        clear H
                        have H := H1
                        clear H1
                        have H' := Aside0.mk H
                        clear H
                        go_wp2
                        repeat (go_quiet (fail); try go_wp2)
                        (try simp only [← hl14_6])
                        (first | go_roundg k6 | (simp only [← hji23]; go_roundg k6))
                        case measure => have := HJ4.out; have := HJ16.out; have := HK3.out; have := HK4.out; have := HK5.out; have := HK6.out; omega
                        case rel => exact ⟨(wrap64 (x12_4 + 1)), (wrap64 (x77_4 + 1)), (by first | rfl | (simp; done) | (simp [*]; done)), (by first | rfl | (simp; done) | (simp [*]; done)), H', ⟨by have := HJ4.out; have := HJ16.out; have := HK3.out; have := HK4.out; have := HK5.out; have := HK6.out; omega⟩, ⟨by repeat (first | (with_reducible first | exact HB.out | apply below_alloc | apply pw_below_drewN | apply below_drew1) | exact HB.out)⟩⟩
                       ·replace c58 := Bool.eq_false_iff.mpr c58
                        subst c58
                        have H1 : (gamehalllaw1_SymmColours.l1 k6 a0 a1 a2 t116 t117 x12_4 x11_3 (wrap64 (x77_4 + 1))) = some r := by rw [if_neg (show ¬ (false = true) by decide)] at H; exact H
                        clear H
                        have H := H1
                        clear H1
                        have H' := Aside0.mk H
                        clear H
                        go_wp2
                        repeat (go_quiet (fail); try go_wp2)
                        (try simp only [← hl14_6])
                        (first | go_roundg k6 | (simp only [← hji23]; go_roundg k6))
                        case measure => have := HJ4.out; have := HJ16.out; have := HK3.out; have := HK4.out; have := HK5.out; have := HK6.out; omega
                        case rel => exact ⟨(x12_4), (wrap64 (x77_4 + 1)), (by first | rfl | (simp; done) | (simp [*]; done)), (by first | rfl | (simp; done) | (simp [*]; done)), H', ⟨by have := HJ4.out; have := HJ16.out; have := HK3.out; have := HK4.out; have := HK5.out; have := HK6.out; omega⟩, ⟨by repeat (first | (with_reducible first | exact HB.out | apply below_alloc | apply pw_below_drewN | apply below_drew1) | exact HB.out)⟩⟩
                ·rw [if_neg c25] at H
                 exact absurd H (by simp)
               ·rw [if_neg c24] at H
                exact absurd H (by simp)
              ·rw [if_neg c22] at H
               have c22b0 : decide (x77_4 < x11_3) = false := decide_eq_false c22
               clear c22
               by_cases c59 : t117 = 0
               ·rw [if_pos c59] at H
                have c59b0 : (t117 == 0) = true := beq_iff_eq.mpr c59
                have c59b1 : (t117 != 0) = false := bne_eq_false_iff_eq.mpr c59
                clear c59
                obtain rfl := Option.some.inj H
                go_wp2
                repeat (go_quiet (fail); try go_wp2)
                go_ret
                exact ⟨by first | rfl | (simp [errW_none, errW_some] <;> rfl) | (simp [*, errW_none, errW_some] <;> rfl), by repeat (first | (with_reducible first | exact HB.out | apply below_alloc | apply pw_below_drewN | apply below_drew1) | exact HB.out)⟩
               ·rw [if_neg c59] at H
                have c59b0 : (t117 == 0) = false := beq_eq_false_iff_ne.mpr c59
                have c59b1 : (t117 != 0) = true := bne_iff_ne.mpr c59
                obtain rfl := Option.some.inj H
                go_wp2
                repeat (go_quiet (fail); try go_wp2)
                go_ret
                exact ⟨by first | rfl | (simp [errW_none, errW_some] <;> rfl) | (simp [*, errW_none, errW_some] <;> rfl), by repeat (first | (with_reducible first | exact HB.out | apply below_alloc | apply pw_below_drewN | apply below_drew1) | exact HB.out)⟩
     ·replace c16 := Bool.eq_false_iff.mpr c16
      subst c16
      have H1 : (if t117 = 1 then (some (t116 == 0)) else (some false)) = some r := by rw [if_neg (show ¬ (false = true) by decide)] at H; exact H
      clear H
      have H := H1
      clear H1
      by_cases c60 : t117 = 1
      ·rw [if_pos c60] at H
       have c60b0 : (t117 == 1) = true := beq_iff_eq.mpr c60
       have c60b1 : (t117 != 1) = false := bne_eq_false_iff_eq.mpr c60
       clear c60
       obtain rfl := Option.some.inj H
       go_wp2_with (first | (go_at_call 18; (with_reducible refine (symm_Colours.calls kj4 a0 a1 a2 t116 t117 _ A9.out).mono ?_); rintro e w61 ⟨rfl, hb⟩; have n0_ := Aside0.mk (below_step (by repeat (first | (with_reducible first | exact HB.out | apply below_alloc | apply pw_below_drewN | apply below_drew1) | exact HB.out)) hb); clear HB; have HB := n0_; clear n0_; (try clear hb); (try clear hb2); (try clear hk); (try clear hi)) | (go_at_call 19; (with_reducible refine (gamehallref1_Symmetries.calls kj4 a0 a1 t118 _ A10.out).mono ?_); rintro e w' ⟨rfl, ⟨nd, rfl⟩⟩; (try first | exact ⟨rfl, _, World.drewN_drewN _ _ _⟩ | exact ⟨rfl, _, Eq.trans (World.drewN_drewN _ _ _) (congrArg (World.drewN _) (Nat.add_assoc _ _ _))⟩)) | (go_at_call 15; (with_reducible refine (gamehallref1_In.calls a2 0 16 false _ A15.out).mono ?_); rintro e w' ⟨rfl, ⟨nd, rfl⟩⟩; (try first | exact ⟨rfl, _, World.drewN_drewN _ _ _⟩ | exact ⟨rfl, _, Eq.trans (World.drewN_drewN _ _ _) (congrArg (World.drewN _) (Nat.add_assoc _ _ _))⟩)))
       repeat (go_quiet (first | (go_at_call 18; (with_reducible refine (symm_Colours.calls kj4 a0 a1 a2 t116 t117 _ A9.out).mono ?_); rintro e w61 ⟨rfl, hb⟩; have n0_ := Aside0.mk (below_step (by repeat (first | (with_reducible first | exact HB.out | apply below_alloc | apply pw_below_drewN | apply below_drew1) | exact HB.out)) hb); clear HB; have HB := n0_; clear n0_; (try clear hb); (try clear hb2); (try clear hk); (try clear hi)) | (go_at_call 19; (with_reducible refine (gamehallref1_Symmetries.calls kj4 a0 a1 t118 _ A10.out).mono ?_); rintro e w' ⟨rfl, ⟨nd, rfl⟩⟩; (try first | exact ⟨rfl, _, World.drewN_drewN _ _ _⟩ | exact ⟨rfl, _, Eq.trans (World.drewN_drewN _ _ _) (congrArg (World.drewN _) (Nat.add_assoc _ _ _))⟩)) | (go_at_call 15; (with_reducible refine (gamehallref1_In.calls a2 0 16 false _ A15.out).mono ?_); rintro e w' ⟨rfl, ⟨nd, rfl⟩⟩; (try first | exact ⟨rfl, _, World.drewN_drewN _ _ _⟩ | exact ⟨rfl, _, Eq.trans (World.drewN_drewN _ _ _) (congrArg (World.drewN _) (Nat.add_assoc _ _ _))⟩))); try go_wp2_with (first | (go_at_call 18; (with_reducible refine (symm_Colours.calls kj4 a0 a1 a2 t116 t117 _ A9.out).mono ?_); rintro e w61 ⟨rfl, hb⟩; have n0_ := Aside0.mk (below_step (by repeat (first | (with_reducible first | exact HB.out | apply below_alloc | apply pw_below_drewN | apply below_drew1) | exact HB.out)) hb); clear HB; have HB := n0_; clear n0_; (try clear hb); (try clear hb2); (try clear hk); (try clear hi)) | (go_at_call 19; (with_reducible refine (gamehallref1_Symmetries.calls kj4 a0 a1 t118 _ A10.out).mono ?_); rintro e w' ⟨rfl, ⟨nd, rfl⟩⟩; (try first | exact ⟨rfl, _, World.drewN_drewN _ _ _⟩ | exact ⟨rfl, _, Eq.trans (World.drewN_drewN _ _ _) (congrArg (World.drewN _) (Nat.add_assoc _ _ _))⟩)) | (go_at_call 15; (with_reducible refine (gamehallref1_In.calls a2 0 16 false _ A15.out).mono ?_); rintro e w' ⟨rfl, ⟨nd, rfl⟩⟩; (try first | exact ⟨rfl, _, World.drewN_drewN _ _ _⟩ | exact ⟨rfl, _, Eq.trans (World.drewN_drewN _ _ _) (congrArg (World.drewN _) (Nat.add_assoc _ _ _))⟩))))
       go_ret
       exact ⟨by first | rfl | (simp [errW_none, errW_some] <;> rfl) | (simp [*, errW_none, errW_some] <;> rfl), by repeat (first | (with_reducible first | exact HB.out | apply below_alloc | apply pw_below_drewN | apply below_drew1) | exact HB.out)⟩
      ·rw [if_neg c60] at H
       have c60b0 : (t117 == 1) = false := beq_eq_false_iff_ne.mpr c60
       have c60b1 : (t117 != 1) = true := bne_iff_ne.mpr c60
       obtain rfl := Option.some.inj H
       go_wp2_with (first | (go_at_call 18; (with_reducible refine (symm_Colours.calls kj4 a0 a1 a2 t116 t117 _ A9.out).mono ?_); rintro e w62 ⟨rfl, hb⟩; have n0_ := Aside0.mk (below_step (by repeat (first | (with_reducible first | exact HB.out | apply below_alloc | apply pw_below_drewN | apply below_drew1) | exact HB.out)) hb); clear HB; have HB := n0_; clear n0_; (try clear hb); (try clear hb2); (try clear hk); (try clear hi)) | (go_at_call 19; (with_reducible refine (gamehallref1_Symmetries.calls kj4 a0 a1 t118 _ A10.out).mono ?_); rintro e w' ⟨rfl, ⟨nd, rfl⟩⟩; (try first | exact ⟨rfl, _, World.drewN_drewN _ _ _⟩ | exact ⟨rfl, _, Eq.trans (World.drewN_drewN _ _ _) (congrArg (World.drewN _) (Nat.add_assoc _ _ _))⟩)) | (go_at_call 15; (with_reducible refine (gamehallref1_In.calls a2 0 16 false _ A15.out).mono ?_); rintro e w' ⟨rfl, ⟨nd, rfl⟩⟩; (try first | exact ⟨rfl, _, World.drewN_drewN _ _ _⟩ | exact ⟨rfl, _, Eq.trans (World.drewN_drewN _ _ _) (congrArg (World.drewN _) (Nat.add_assoc _ _ _))⟩)))
       repeat (go_quiet (first | (go_at_call 18; (with_reducible refine (symm_Colours.calls kj4 a0 a1 a2 t116 t117 _ A9.out).mono ?_); rintro e w62 ⟨rfl, hb⟩; have n0_ := Aside0.mk (below_step (by repeat (first | (with_reducible first | exact HB.out | apply below_alloc | apply pw_below_drewN | apply below_drew1) | exact HB.out)) hb); clear HB; have HB := n0_; clear n0_; (try clear hb); (try clear hb2); (try clear hk); (try clear hi)) | (go_at_call 19; (with_reducible refine (gamehallref1_Symmetries.calls kj4 a0 a1 t118 _ A10.out).mono ?_); rintro e w' ⟨rfl, ⟨nd, rfl⟩⟩; (try first | exact ⟨rfl, _, World.drewN_drewN _ _ _⟩ | exact ⟨rfl, _, Eq.trans (World.drewN_drewN _ _ _) (congrArg (World.drewN _) (Nat.add_assoc _ _ _))⟩)) | (go_at_call 15; (with_reducible refine (gamehallref1_In.calls a2 0 16 false _ A15.out).mono ?_); rintro e w' ⟨rfl, ⟨nd, rfl⟩⟩; (try first | exact ⟨rfl, _, World.drewN_drewN _ _ _⟩ | exact ⟨rfl, _, Eq.trans (World.drewN_drewN _ _ _) (congrArg (World.drewN _) (Nat.add_assoc _ _ _))⟩))); try go_wp2_with (first | (go_at_call 18; (with_reducible refine (symm_Colours.calls kj4 a0 a1 a2 t116 t117 _ A9.out).mono ?_); rintro e w62 ⟨rfl, hb⟩; have n0_ := Aside0.mk (below_step (by repeat (first | (with_reducible first | exact HB.out | apply below_alloc | apply pw_below_drewN | apply below_drew1) | exact HB.out)) hb); clear HB; have HB := n0_; clear n0_; (try clear hb); (try clear hb2); (try clear hk); (try clear hi)) | (go_at_call 19; (with_reducible refine (gamehallref1_Symmetries.calls kj4 a0 a1 t118 _ A10.out).mono ?_); rintro e w' ⟨rfl, ⟨nd, rfl⟩⟩; (try first | exact ⟨rfl, _, World.drewN_drewN _ _ _⟩ | exact ⟨rfl, _, Eq.trans (World.drewN_drewN _ _ _) (congrArg (World.drewN _) (Nat.add_assoc _ _ _))⟩)) | (go_at_call 15; (with_reducible refine (gamehallref1_In.calls a2 0 16 false _ A15.out).mono ?_); rintro e w' ⟨rfl, ⟨nd, rfl⟩⟩; (try first | exact ⟨rfl, _, World.drewN_drewN _ _ _⟩ | exact ⟨rfl, _, Eq.trans (World.drewN_drewN _ _ _) (congrArg (World.drewN _) (Nat.add_assoc _ _ _))⟩))))
       go_ret
       exact ⟨by first | rfl | (simp [errW_none, errW_some] <;> rfl) | (simp [*, errW_none, errW_some] <;> rfl), by repeat (first | (with_reducible first | exact HB.out | apply below_alloc | apply pw_below_drewN | apply below_drew1) | exact HB.out)⟩

/-- THE ONE PURE STATEMENT of gamehalllaw1_SymmColours: yours. -/
def gamehalllaw1_SymmColours.Pure : Prop := ∀ (a0 : Int) (a1 : Int) (a2 : Int), (Lit.int .i64 a0).wf = true → (Lit.int .i64 a1).wf = true → (Lit.int .i64 a2).wf = true → ∃ k, gamehalllaw1_SymmColours.f k a0 a1 a2 = some true
theorem gamehalllaw1_SymmColours.walk (P : gamehalllaw1_SymmColours.Pure) (a0 : Int) (a1 : Int) (a2 : Int) (w : World) (w0 : (Lit.int .i64 a0).wf = true) (w1 : (Lit.int .i64 a1).wf = true) (w2 : (Lit.int .i64 a2).wf = true) :
  Calls Try.prog 6 #[.int .i64 a0, .int .i64 a1, .int .i64 a2] w fun e w' => e = .returned (.bool true) ∧ Below w.heap.size w w' := by
 obtain ⟨k, h⟩ := P a0 a1 a2 w0 w1 w2
 refine (gamehalllaw1_SymmColours.calls k a0 a1 a2 true w h).mono ?_
 rintro e w' ⟨rfl, hd⟩
 exact ⟨rfl, hd⟩

end Go.Proofs.Ytcncilipmekfhaa.PSymmColours
