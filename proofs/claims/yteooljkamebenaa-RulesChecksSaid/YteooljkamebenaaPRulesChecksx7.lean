-- Printed by a program of this claim's writer (wip/ext): an extension of the kit's print.
import Derived.Test.YteooljkamebenaaPRulesChecksx0
import Derived.Test.YteooljkamebenaaPRulesChecksx1
import Derived.Test.YteooljkamebenaaPRulesChecksx3
import Derived.Test.YteooljkamebenaaPRulesChecksx4
import Derived.Test.YteooljkamebenaaPRulesChecksx6
namespace Go.Proofs.Yteooljkamebenaa.PRulesChecks
open Go.RowKit Go.Proofs.YteooljkamebenaaW.PrintWords Go.Proofs.YteooljkamebenaaW.PrintLast Go.Proofs.YteooljkamebenaaW.PrintMore
attribute [local go_sem] max2_int min2_int max_two min_two max_three min_three max_four min_four   -- for this text's walks alone
set_option linter.unusedVariables false
set_option linter.unusedSimpArgs false

/-! ### gamehalllaw1_RulesChecks: function 3 -/
mutual
def gamehalllaw1_RulesChecks.j0 : Nat → ByteArray → Int → Int → Bool → ByteArray → Int → Int → List (S136) → List Int → Bool → Bool → List (S132) → Int → Int → Int → Option (Bool)
  | 0, _, _, _, _, _, _, _, _, _, _, _, _, _, _, _ => none
  | k + 1, x1, x2, x3, x22, x168000, x168001, x168002, x168003, x168004, x168005, x168006, x168007, x168008, x168009, x168010 => if x22 = true then (some false) else ((gamehalllaw1_three.f).bind fun bt187 => ((rules_Last.f k bt187.1 bt187.2.1 bt187.2.2.1 bt187.2.2.2.1 bt187.2.2.2.2.1 bt187.2.2.2.2.2.1 bt187.2.2.2.2.2.2.1 bt187.2.2.2.2.2.2.2.1 bt187.2.2.2.2.2.2.2.2.1 bt187.2.2.2.2.2.2.2.2.2.1 bt187.2.2.2.2.2.2.2.2.2.2 0 7).bind fun bt204 => (if bt204.2 = 0 then (if bt204.1 = true then ((rules_Name.f k (⟨#[65, 49]⟩ : ByteArray)).bind fun t206 => (gamehalllaw1_RulesChecks.j1 k x1 x2 x3 (!t206) x168000 x168001 x168002 x168003 x168004 x168005 x168006 x168007 x168008 x168009 x168010)) else (gamehalllaw1_RulesChecks.j1 k x1 x2 x3 true x168000 x168001 x168002 x168003 x168004 x168005 x168006 x168007 x168008 x168009 x168010)) else (gamehalllaw1_RulesChecks.j1 k x1 x2 x3 true x168000 x168001 x168002 x168003 x168004 x168005 x168006 x168007 x168008 x168009 x168010))))
def gamehalllaw1_RulesChecks.j1 : Nat → ByteArray → Int → Int → Bool → ByteArray → Int → Int → List (S136) → List Int → Bool → Bool → List (S132) → Int → Int → Int → Option (Bool)
  | 0, _, _, _, _, _, _, _, _, _, _, _, _, _, _, _ => none
  | k + 1, x1, x2, x3, x37, x168000, x168001, x168002, x168003, x168004, x168005, x168006, x168007, x168008, x168009, x168010 => if x37 = true then (some false) else ((gamehallref1_RulesError.f k x168000 x168001 x168002 x168003 x168004 x168005 x168006 x168007 x168008 x168009 x168010).bind fun t207 => ((rules_Check.f k x168000 x168001 x168002 x168003 x168004 x168005 x168006 x168007 x168008 x168009 x168010).bind fun t208 => (if t208 = t207 then ((rules_Name.f k x1).bind fun t209 => ((gamehallref1_Named.f k x1).bind fun t210 => (gamehalllaw1_RulesChecks.j2 k x2 x3 t207 (t209 != t210) x168000 x168001 x168002 x168003 x168004 x168005 x168006 x168007 x168008 x168009 x168010))) else (gamehalllaw1_RulesChecks.j2 k x2 x3 t207 true x168000 x168001 x168002 x168003 x168004 x168005 x168006 x168007 x168008 x168009 x168010))))
def gamehalllaw1_RulesChecks.j2 : Nat → Int → Int → Int → Bool → ByteArray → Int → Int → List (S136) → List Int → Bool → Bool → List (S132) → Int → Int → Int → Option (Bool)
  | 0, _, _, _, _, _, _, _, _, _, _, _, _, _, _, _ => none
  | k + 1, x2, x3, x11, x50, x168000, x168001, x168002, x168003, x168004, x168005, x168006, x168007, x168008, x168009, x168010 => if x50 = true then (some false) else ((rules_Last.f k x168000 x168001 x168002 x168003 x168004 x168005 x168006 x168007 x168008 x168009 x168010 x2 x3).bind fun bt211 => (if x11 = 0 then ((gamehallref1_In.f x2 0 1).bind fun t213 => (gamehalllaw1_RulesChecks.j3 k x2 x3 x11 bt211.1 bt211.2 (!t213) x168000 x168001 x168002 x168003 x168004 x168005 x168006 x168007 x168008 x168009 x168010)) else (gamehalllaw1_RulesChecks.j3 k x2 x3 x11 bt211.1 bt211.2 false x168000 x168001 x168002 x168003 x168004 x168005 x168006 x168007 x168008 x168009 x168010)))
def gamehalllaw1_RulesChecks.j3 : Nat → Int → Int → Int → Bool → Int → Bool → ByteArray → Int → Int → List (S136) → List Int → Bool → Bool → List (S132) → Int → Int → Int → Option (Bool)
  | 0, _, _, _, _, _, _, _, _, _, _, _, _, _, _, _, _, _ => none
  | k + 1, x2, x3, x11, x12, x13, x64, x168000, x168001, x168002, x168003, x168004, x168005, x168006, x168007, x168008, x168009, x168010 => if x64 = true then (gamehalllaw1_RulesChecks.j4 k x2 x3 1 x12 x13 x168000 x168001 x168002 x168003 x168004 x168005 x168006 x168007 x168008 x168009 x168010) else (gamehalllaw1_RulesChecks.j4 k x2 x3 x11 x12 x13 x168000 x168001 x168002 x168003 x168004 x168005 x168006 x168007 x168008 x168009 x168010)
def gamehalllaw1_RulesChecks.j4 : Nat → Int → Int → Int → Bool → Int → ByteArray → Int → Int → List (S136) → List Int → Bool → Bool → List (S132) → Int → Int → Int → Option (Bool)
  | 0, _, _, _, _, _, _, _, _, _, _, _, _, _, _, _, _ => none
  | k + 1, x2, x3, x11, x12, x13, x168000, x168001, x168002, x168003, x168004, x168005, x168006, x168007, x168008, x168009, x168010 => if x11 = 0 then ((gamehallref1_In.f x3 0 (wrap64 ((x168004.length : Int) - 1))).bind fun t214 => (gamehalllaw1_RulesChecks.j5 k x2 x3 x11 x12 x13 (!t214) x168000 x168001 x168002 x168003 x168004 x168005 x168006 x168007 x168008 x168009 x168010)) else (gamehalllaw1_RulesChecks.j5 k x2 x3 x11 x12 x13 false x168000 x168001 x168002 x168003 x168004 x168005 x168006 x168007 x168008 x168009 x168010)
def gamehalllaw1_RulesChecks.j5 : Nat → Int → Int → Int → Bool → Int → Bool → ByteArray → Int → Int → List (S136) → List Int → Bool → Bool → List (S132) → Int → Int → Int → Option (Bool)
  | 0, _, _, _, _, _, _, _, _, _, _, _, _, _, _, _, _, _ => none
  | k + 1, x2, x3, x11, x12, x13, x75, x168000, x168001, x168002, x168003, x168004, x168005, x168006, x168007, x168008, x168009, x168010 => if x75 = true then (if 4 = 0 then (if x168001 = 0 then (none) else (if x13 = 0 then (if x2 = 0 then (if (wrap64 (Int.tdiv x3 x168001)) = (wrap64 (x168002 - 1)) then (some (x12 == true)) else (if x2 = 1 then (some (x12 == ((wrap64 (Int.tdiv x3 x168001)) == 0))) else (some (x12 == false)))) else (if x2 = 1 then (some (x12 == ((wrap64 (Int.tdiv x3 x168001)) == 0))) else (some (x12 == false)))) else (some false))) else (if x13 = 4 then (some (!x12)) else (some false))) else (if x11 = 0 then (if x168001 = 0 then (none) else (if x13 = 0 then (if x2 = 0 then (if (wrap64 (Int.tdiv x3 x168001)) = (wrap64 (x168002 - 1)) then (some (x12 == true)) else (if x2 = 1 then (some (x12 == ((wrap64 (Int.tdiv x3 x168001)) == 0))) else (some (x12 == false)))) else (if x2 = 1 then (some (x12 == ((wrap64 (Int.tdiv x3 x168001)) == 0))) else (some (x12 == false)))) else (some false))) else (if x13 = x11 then (some (!x12)) else (some false)))
end
def gamehalllaw1_RulesChecks.f (k : Nat) (a0_0 : ByteArray) (a0_1 : Int) (a0_2 : Int) (l0_3 : List (S136)) (l0_4 : List Int) (a0_5 : Bool) (a0_6 : Bool) (l0_7 : List (S132)) (a0_8 : Int) (a0_9 : Int) (a0_10 : Int) (a1 : ByteArray) (a2 : Int) (a3 : Int) : Option (Bool) := (rules_Check.f k (⟨#[]⟩ : ByteArray) 0 0 ([] : List (S136)) ([] : List Int) false false ([] : List (S132)) 0 0 0).bind fun t168 => (if t168 = 6 then ((gamehalllaw1_three.f).bind fun bt169 => ((rules_Check.f k bt169.1 bt169.2.1 bt169.2.2.1 bt169.2.2.2.1 bt169.2.2.2.2.1 bt169.2.2.2.2.2.1 bt169.2.2.2.2.2.2.1 bt169.2.2.2.2.2.2.2.1 bt169.2.2.2.2.2.2.2.2.1 bt169.2.2.2.2.2.2.2.2.2.1 bt169.2.2.2.2.2.2.2.2.2.2).bind fun t186 => (gamehalllaw1_RulesChecks.j0 k a1 a2 a3 (t186 != 0) a0_0 a0_1 a0_2 l0_3 l0_4 a0_5 a0_6 l0_7 a0_8 a0_9 a0_10))) else (gamehalllaw1_RulesChecks.j0 k a1 a2 a3 true a0_0 a0_1 a0_2 l0_3 l0_4 a0_5 a0_6 l0_7 a0_8 a0_9 a0_10))
theorem gamehalllaw1_RulesChecks.mono_l : ∀ k, (∀ y0 y1 y2 y3 y4 y5 y6 y7 y8 y9 y10 y11 y12 y13 y14, LeO (gamehalllaw1_RulesChecks.j0 k y0 y1 y2 y3 y4 y5 y6 y7 y8 y9 y10 y11 y12 y13 y14) (gamehalllaw1_RulesChecks.j0 (k + 1) y0 y1 y2 y3 y4 y5 y6 y7 y8 y9 y10 y11 y12 y13 y14)) ∧ (∀ y0 y1 y2 y3 y4 y5 y6 y7 y8 y9 y10 y11 y12 y13 y14, LeO (gamehalllaw1_RulesChecks.j1 k y0 y1 y2 y3 y4 y5 y6 y7 y8 y9 y10 y11 y12 y13 y14) (gamehalllaw1_RulesChecks.j1 (k + 1) y0 y1 y2 y3 y4 y5 y6 y7 y8 y9 y10 y11 y12 y13 y14)) ∧ (∀ y0 y1 y2 y3 y4 y5 y6 y7 y8 y9 y10 y11 y12 y13 y14, LeO (gamehalllaw1_RulesChecks.j2 k y0 y1 y2 y3 y4 y5 y6 y7 y8 y9 y10 y11 y12 y13 y14) (gamehalllaw1_RulesChecks.j2 (k + 1) y0 y1 y2 y3 y4 y5 y6 y7 y8 y9 y10 y11 y12 y13 y14)) ∧ (∀ y0 y1 y2 y3 y4 y5 y6 y7 y8 y9 y10 y11 y12 y13 y14 y15 y16, LeO (gamehalllaw1_RulesChecks.j3 k y0 y1 y2 y3 y4 y5 y6 y7 y8 y9 y10 y11 y12 y13 y14 y15 y16) (gamehalllaw1_RulesChecks.j3 (k + 1) y0 y1 y2 y3 y4 y5 y6 y7 y8 y9 y10 y11 y12 y13 y14 y15 y16)) ∧ (∀ y0 y1 y2 y3 y4 y5 y6 y7 y8 y9 y10 y11 y12 y13 y14 y15, LeO (gamehalllaw1_RulesChecks.j4 k y0 y1 y2 y3 y4 y5 y6 y7 y8 y9 y10 y11 y12 y13 y14 y15) (gamehalllaw1_RulesChecks.j4 (k + 1) y0 y1 y2 y3 y4 y5 y6 y7 y8 y9 y10 y11 y12 y13 y14 y15)) ∧ (∀ y0 y1 y2 y3 y4 y5 y6 y7 y8 y9 y10 y11 y12 y13 y14 y15 y16, LeO (gamehalllaw1_RulesChecks.j5 k y0 y1 y2 y3 y4 y5 y6 y7 y8 y9 y10 y11 y12 y13 y14 y15 y16) (gamehalllaw1_RulesChecks.j5 (k + 1) y0 y1 y2 y3 y4 y5 y6 y7 y8 y9 y10 y11 y12 y13 y14 y15 y16))
  | 0 => ⟨fun _ _ _ _ _ _ _ _ _ _ _ _ _ _ _ r h => by simp [gamehalllaw1_RulesChecks.j0] at h, fun _ _ _ _ _ _ _ _ _ _ _ _ _ _ _ r h => by simp [gamehalllaw1_RulesChecks.j1] at h, fun _ _ _ _ _ _ _ _ _ _ _ _ _ _ _ r h => by simp [gamehalllaw1_RulesChecks.j2] at h, fun _ _ _ _ _ _ _ _ _ _ _ _ _ _ _ _ _ r h => by simp [gamehalllaw1_RulesChecks.j3] at h, fun _ _ _ _ _ _ _ _ _ _ _ _ _ _ _ _ r h => by simp [gamehalllaw1_RulesChecks.j4] at h, fun _ _ _ _ _ _ _ _ _ _ _ _ _ _ _ _ _ r h => by simp [gamehalllaw1_RulesChecks.j5] at h⟩
  | k + 1 => by
    obtain ⟨ih0, ih1, ih2, ih3, ih4, ih5⟩ := gamehalllaw1_RulesChecks.mono_l k
    refine ⟨?_, ?_, ?_, ?_, ?_, ?_⟩
    · intro y0 y1 y2 y3 y4 y5 y6 y7 y8 y9 y10 y11 y12 y13 y14
      unfold gamehalllaw1_RulesChecks.j0
      repeat' first
      | (with_reducible exact ih0 _ _ _ _ _ _ _ _ _ _ _ _ _ _ _)
      | (with_reducible exact ih1 _ _ _ _ _ _ _ _ _ _ _ _ _ _ _)
      | (with_reducible exact ih2 _ _ _ _ _ _ _ _ _ _ _ _ _ _ _)
      | (with_reducible exact ih3 _ _ _ _ _ _ _ _ _ _ _ _ _ _ _ _ _)
      | (with_reducible exact ih4 _ _ _ _ _ _ _ _ _ _ _ _ _ _ _ _)
      | (with_reducible exact ih5 _ _ _ _ _ _ _ _ _ _ _ _ _ _ _ _ _)
      | (with_reducible exact gamehallref1_Named.mono _ _)
      | (with_reducible exact gamehallref1_RulesError.mono _ _ _ _ _ _ _ _ _ _ _ _)
      | (with_reducible exact rules_Check.mono _ _ _ _ _ _ _ _ _ _ _ _)
      | (with_reducible exact rules_Last.mono _ _ _ _ _ _ _ _ _ _ _ _ _ _)
      | (with_reducible exact rules_Name.mono _ _)
      | (with_reducible exact LeO.refl _)
      | (with_reducible exact LeO.none _)
      | (with_reducible refine LeO.ite ?_ ?_)
      | (with_reducible refine LeO.bind ?_ (fun _ => ?_))
      | exact ih0 _ _ _ _ _ _ _ _ _ _ _ _ _ _ _
      | exact ih1 _ _ _ _ _ _ _ _ _ _ _ _ _ _ _
      | exact ih2 _ _ _ _ _ _ _ _ _ _ _ _ _ _ _
      | exact ih3 _ _ _ _ _ _ _ _ _ _ _ _ _ _ _ _ _
      | exact ih4 _ _ _ _ _ _ _ _ _ _ _ _ _ _ _ _
      | exact ih5 _ _ _ _ _ _ _ _ _ _ _ _ _ _ _ _ _
      | exact gamehallref1_Named.mono _ _
      | exact gamehallref1_RulesError.mono _ _ _ _ _ _ _ _ _ _ _ _
      | exact rules_Check.mono _ _ _ _ _ _ _ _ _ _ _ _
      | exact rules_Last.mono _ _ _ _ _ _ _ _ _ _ _ _ _ _
      | exact rules_Name.mono _ _
      | exact LeO.none _
      | refine LeO.ite ?_ ?_
      | refine LeO.bind ?_ (fun _ => ?_)
    · intro y0 y1 y2 y3 y4 y5 y6 y7 y8 y9 y10 y11 y12 y13 y14
      unfold gamehalllaw1_RulesChecks.j1
      repeat' first
      | (with_reducible exact ih0 _ _ _ _ _ _ _ _ _ _ _ _ _ _ _)
      | (with_reducible exact ih1 _ _ _ _ _ _ _ _ _ _ _ _ _ _ _)
      | (with_reducible exact ih2 _ _ _ _ _ _ _ _ _ _ _ _ _ _ _)
      | (with_reducible exact ih3 _ _ _ _ _ _ _ _ _ _ _ _ _ _ _ _ _)
      | (with_reducible exact ih4 _ _ _ _ _ _ _ _ _ _ _ _ _ _ _ _)
      | (with_reducible exact ih5 _ _ _ _ _ _ _ _ _ _ _ _ _ _ _ _ _)
      | (with_reducible exact gamehallref1_Named.mono _ _)
      | (with_reducible exact gamehallref1_RulesError.mono _ _ _ _ _ _ _ _ _ _ _ _)
      | (with_reducible exact rules_Check.mono _ _ _ _ _ _ _ _ _ _ _ _)
      | (with_reducible exact rules_Last.mono _ _ _ _ _ _ _ _ _ _ _ _ _ _)
      | (with_reducible exact rules_Name.mono _ _)
      | (with_reducible exact LeO.refl _)
      | (with_reducible exact LeO.none _)
      | (with_reducible refine LeO.ite ?_ ?_)
      | (with_reducible refine LeO.bind ?_ (fun _ => ?_))
      | exact ih0 _ _ _ _ _ _ _ _ _ _ _ _ _ _ _
      | exact ih1 _ _ _ _ _ _ _ _ _ _ _ _ _ _ _
      | exact ih2 _ _ _ _ _ _ _ _ _ _ _ _ _ _ _
      | exact ih3 _ _ _ _ _ _ _ _ _ _ _ _ _ _ _ _ _
      | exact ih4 _ _ _ _ _ _ _ _ _ _ _ _ _ _ _ _
      | exact ih5 _ _ _ _ _ _ _ _ _ _ _ _ _ _ _ _ _
      | exact gamehallref1_Named.mono _ _
      | exact gamehallref1_RulesError.mono _ _ _ _ _ _ _ _ _ _ _ _
      | exact rules_Check.mono _ _ _ _ _ _ _ _ _ _ _ _
      | exact rules_Last.mono _ _ _ _ _ _ _ _ _ _ _ _ _ _
      | exact rules_Name.mono _ _
      | exact LeO.none _
      | refine LeO.ite ?_ ?_
      | refine LeO.bind ?_ (fun _ => ?_)
    · intro y0 y1 y2 y3 y4 y5 y6 y7 y8 y9 y10 y11 y12 y13 y14
      unfold gamehalllaw1_RulesChecks.j2
      repeat' first
      | (with_reducible exact ih0 _ _ _ _ _ _ _ _ _ _ _ _ _ _ _)
      | (with_reducible exact ih1 _ _ _ _ _ _ _ _ _ _ _ _ _ _ _)
      | (with_reducible exact ih2 _ _ _ _ _ _ _ _ _ _ _ _ _ _ _)
      | (with_reducible exact ih3 _ _ _ _ _ _ _ _ _ _ _ _ _ _ _ _ _)
      | (with_reducible exact ih4 _ _ _ _ _ _ _ _ _ _ _ _ _ _ _ _)
      | (with_reducible exact ih5 _ _ _ _ _ _ _ _ _ _ _ _ _ _ _ _ _)
      | (with_reducible exact gamehallref1_Named.mono _ _)
      | (with_reducible exact gamehallref1_RulesError.mono _ _ _ _ _ _ _ _ _ _ _ _)
      | (with_reducible exact rules_Check.mono _ _ _ _ _ _ _ _ _ _ _ _)
      | (with_reducible exact rules_Last.mono _ _ _ _ _ _ _ _ _ _ _ _ _ _)
      | (with_reducible exact rules_Name.mono _ _)
      | (with_reducible exact LeO.refl _)
      | (with_reducible exact LeO.none _)
      | (with_reducible refine LeO.ite ?_ ?_)
      | (with_reducible refine LeO.bind ?_ (fun _ => ?_))
      | exact ih0 _ _ _ _ _ _ _ _ _ _ _ _ _ _ _
      | exact ih1 _ _ _ _ _ _ _ _ _ _ _ _ _ _ _
      | exact ih2 _ _ _ _ _ _ _ _ _ _ _ _ _ _ _
      | exact ih3 _ _ _ _ _ _ _ _ _ _ _ _ _ _ _ _ _
      | exact ih4 _ _ _ _ _ _ _ _ _ _ _ _ _ _ _ _
      | exact ih5 _ _ _ _ _ _ _ _ _ _ _ _ _ _ _ _ _
      | exact gamehallref1_Named.mono _ _
      | exact gamehallref1_RulesError.mono _ _ _ _ _ _ _ _ _ _ _ _
      | exact rules_Check.mono _ _ _ _ _ _ _ _ _ _ _ _
      | exact rules_Last.mono _ _ _ _ _ _ _ _ _ _ _ _ _ _
      | exact rules_Name.mono _ _
      | exact LeO.none _
      | refine LeO.ite ?_ ?_
      | refine LeO.bind ?_ (fun _ => ?_)
    · intro y0 y1 y2 y3 y4 y5 y6 y7 y8 y9 y10 y11 y12 y13 y14 y15 y16
      unfold gamehalllaw1_RulesChecks.j3
      repeat' first
      | (with_reducible exact ih0 _ _ _ _ _ _ _ _ _ _ _ _ _ _ _)
      | (with_reducible exact ih1 _ _ _ _ _ _ _ _ _ _ _ _ _ _ _)
      | (with_reducible exact ih2 _ _ _ _ _ _ _ _ _ _ _ _ _ _ _)
      | (with_reducible exact ih3 _ _ _ _ _ _ _ _ _ _ _ _ _ _ _ _ _)
      | (with_reducible exact ih4 _ _ _ _ _ _ _ _ _ _ _ _ _ _ _ _)
      | (with_reducible exact ih5 _ _ _ _ _ _ _ _ _ _ _ _ _ _ _ _ _)
      | (with_reducible exact gamehallref1_Named.mono _ _)
      | (with_reducible exact gamehallref1_RulesError.mono _ _ _ _ _ _ _ _ _ _ _ _)
      | (with_reducible exact rules_Check.mono _ _ _ _ _ _ _ _ _ _ _ _)
      | (with_reducible exact rules_Last.mono _ _ _ _ _ _ _ _ _ _ _ _ _ _)
      | (with_reducible exact rules_Name.mono _ _)
      | (with_reducible exact LeO.refl _)
      | (with_reducible exact LeO.none _)
      | (with_reducible refine LeO.ite ?_ ?_)
      | (with_reducible refine LeO.bind ?_ (fun _ => ?_))
      | exact ih0 _ _ _ _ _ _ _ _ _ _ _ _ _ _ _
      | exact ih1 _ _ _ _ _ _ _ _ _ _ _ _ _ _ _
      | exact ih2 _ _ _ _ _ _ _ _ _ _ _ _ _ _ _
      | exact ih3 _ _ _ _ _ _ _ _ _ _ _ _ _ _ _ _ _
      | exact ih4 _ _ _ _ _ _ _ _ _ _ _ _ _ _ _ _
      | exact ih5 _ _ _ _ _ _ _ _ _ _ _ _ _ _ _ _ _
      | exact gamehallref1_Named.mono _ _
      | exact gamehallref1_RulesError.mono _ _ _ _ _ _ _ _ _ _ _ _
      | exact rules_Check.mono _ _ _ _ _ _ _ _ _ _ _ _
      | exact rules_Last.mono _ _ _ _ _ _ _ _ _ _ _ _ _ _
      | exact rules_Name.mono _ _
      | exact LeO.none _
      | refine LeO.ite ?_ ?_
      | refine LeO.bind ?_ (fun _ => ?_)
    · intro y0 y1 y2 y3 y4 y5 y6 y7 y8 y9 y10 y11 y12 y13 y14 y15
      unfold gamehalllaw1_RulesChecks.j4
      repeat' first
      | (with_reducible exact ih0 _ _ _ _ _ _ _ _ _ _ _ _ _ _ _)
      | (with_reducible exact ih1 _ _ _ _ _ _ _ _ _ _ _ _ _ _ _)
      | (with_reducible exact ih2 _ _ _ _ _ _ _ _ _ _ _ _ _ _ _)
      | (with_reducible exact ih3 _ _ _ _ _ _ _ _ _ _ _ _ _ _ _ _ _)
      | (with_reducible exact ih4 _ _ _ _ _ _ _ _ _ _ _ _ _ _ _ _)
      | (with_reducible exact ih5 _ _ _ _ _ _ _ _ _ _ _ _ _ _ _ _ _)
      | (with_reducible exact gamehallref1_Named.mono _ _)
      | (with_reducible exact gamehallref1_RulesError.mono _ _ _ _ _ _ _ _ _ _ _ _)
      | (with_reducible exact rules_Check.mono _ _ _ _ _ _ _ _ _ _ _ _)
      | (with_reducible exact rules_Last.mono _ _ _ _ _ _ _ _ _ _ _ _ _ _)
      | (with_reducible exact rules_Name.mono _ _)
      | (with_reducible exact LeO.refl _)
      | (with_reducible exact LeO.none _)
      | (with_reducible refine LeO.ite ?_ ?_)
      | (with_reducible refine LeO.bind ?_ (fun _ => ?_))
      | exact ih0 _ _ _ _ _ _ _ _ _ _ _ _ _ _ _
      | exact ih1 _ _ _ _ _ _ _ _ _ _ _ _ _ _ _
      | exact ih2 _ _ _ _ _ _ _ _ _ _ _ _ _ _ _
      | exact ih3 _ _ _ _ _ _ _ _ _ _ _ _ _ _ _ _ _
      | exact ih4 _ _ _ _ _ _ _ _ _ _ _ _ _ _ _ _
      | exact ih5 _ _ _ _ _ _ _ _ _ _ _ _ _ _ _ _ _
      | exact gamehallref1_Named.mono _ _
      | exact gamehallref1_RulesError.mono _ _ _ _ _ _ _ _ _ _ _ _
      | exact rules_Check.mono _ _ _ _ _ _ _ _ _ _ _ _
      | exact rules_Last.mono _ _ _ _ _ _ _ _ _ _ _ _ _ _
      | exact rules_Name.mono _ _
      | exact LeO.none _
      | refine LeO.ite ?_ ?_
      | refine LeO.bind ?_ (fun _ => ?_)
    · intro y0 y1 y2 y3 y4 y5 y6 y7 y8 y9 y10 y11 y12 y13 y14 y15 y16
      unfold gamehalllaw1_RulesChecks.j5
      repeat' first
      | (with_reducible exact ih0 _ _ _ _ _ _ _ _ _ _ _ _ _ _ _)
      | (with_reducible exact ih1 _ _ _ _ _ _ _ _ _ _ _ _ _ _ _)
      | (with_reducible exact ih2 _ _ _ _ _ _ _ _ _ _ _ _ _ _ _)
      | (with_reducible exact ih3 _ _ _ _ _ _ _ _ _ _ _ _ _ _ _ _ _)
      | (with_reducible exact ih4 _ _ _ _ _ _ _ _ _ _ _ _ _ _ _ _)
      | (with_reducible exact ih5 _ _ _ _ _ _ _ _ _ _ _ _ _ _ _ _ _)
      | (with_reducible exact gamehallref1_Named.mono _ _)
      | (with_reducible exact gamehallref1_RulesError.mono _ _ _ _ _ _ _ _ _ _ _ _)
      | (with_reducible exact rules_Check.mono _ _ _ _ _ _ _ _ _ _ _ _)
      | (with_reducible exact rules_Last.mono _ _ _ _ _ _ _ _ _ _ _ _ _ _)
      | (with_reducible exact rules_Name.mono _ _)
      | (with_reducible exact LeO.refl _)
      | (with_reducible exact LeO.none _)
      | (with_reducible refine LeO.ite ?_ ?_)
      | (with_reducible refine LeO.bind ?_ (fun _ => ?_))
      | exact ih0 _ _ _ _ _ _ _ _ _ _ _ _ _ _ _
      | exact ih1 _ _ _ _ _ _ _ _ _ _ _ _ _ _ _
      | exact ih2 _ _ _ _ _ _ _ _ _ _ _ _ _ _ _
      | exact ih3 _ _ _ _ _ _ _ _ _ _ _ _ _ _ _ _ _
      | exact ih4 _ _ _ _ _ _ _ _ _ _ _ _ _ _ _ _
      | exact ih5 _ _ _ _ _ _ _ _ _ _ _ _ _ _ _ _ _
      | exact gamehallref1_Named.mono _ _
      | exact gamehallref1_RulesError.mono _ _ _ _ _ _ _ _ _ _ _ _
      | exact rules_Check.mono _ _ _ _ _ _ _ _ _ _ _ _
      | exact rules_Last.mono _ _ _ _ _ _ _ _ _ _ _ _ _ _
      | exact rules_Name.mono _ _
      | exact LeO.none _
      | refine LeO.ite ?_ ?_
      | refine LeO.bind ?_ (fun _ => ?_)
theorem gamehalllaw1_RulesChecks.mono : ∀ a0 a1 a2 a3 a4 a5 a6 a7 a8 a9 a10 a11 a12 a13 k, LeO (gamehalllaw1_RulesChecks.f k a0 a1 a2 a3 a4 a5 a6 a7 a8 a9 a10 a11 a12 a13) (gamehalllaw1_RulesChecks.f (k + 1) a0 a1 a2 a3 a4 a5 a6 a7 a8 a9 a10 a11 a12 a13) := by
  intro a0 a1 a2 a3 a4 a5 a6 a7 a8 a9 a10 a11 a12 a13 k
  obtain ⟨ih0, ih1, ih2, ih3, ih4, ih5⟩ := gamehalllaw1_RulesChecks.mono_l k
  unfold gamehalllaw1_RulesChecks.f
  repeat' first
      | (with_reducible exact ih0 _ _ _ _ _ _ _ _ _ _ _ _ _ _ _)
      | (with_reducible exact ih1 _ _ _ _ _ _ _ _ _ _ _ _ _ _ _)
      | (with_reducible exact ih2 _ _ _ _ _ _ _ _ _ _ _ _ _ _ _)
      | (with_reducible exact ih3 _ _ _ _ _ _ _ _ _ _ _ _ _ _ _ _ _)
      | (with_reducible exact ih4 _ _ _ _ _ _ _ _ _ _ _ _ _ _ _ _)
      | (with_reducible exact ih5 _ _ _ _ _ _ _ _ _ _ _ _ _ _ _ _ _)
      | (with_reducible exact gamehallref1_Named.mono _ _)
      | (with_reducible exact gamehallref1_RulesError.mono _ _ _ _ _ _ _ _ _ _ _ _)
      | (with_reducible exact rules_Check.mono _ _ _ _ _ _ _ _ _ _ _ _)
      | (with_reducible exact rules_Last.mono _ _ _ _ _ _ _ _ _ _ _ _ _ _)
      | (with_reducible exact rules_Name.mono _ _)
      | (with_reducible exact LeO.refl _)
      | (with_reducible exact LeO.none _)
      | (with_reducible refine LeO.ite ?_ ?_)
      | (with_reducible refine LeO.bind ?_ (fun _ => ?_))
      | exact ih0 _ _ _ _ _ _ _ _ _ _ _ _ _ _ _
      | exact ih1 _ _ _ _ _ _ _ _ _ _ _ _ _ _ _
      | exact ih2 _ _ _ _ _ _ _ _ _ _ _ _ _ _ _
      | exact ih3 _ _ _ _ _ _ _ _ _ _ _ _ _ _ _ _ _
      | exact ih4 _ _ _ _ _ _ _ _ _ _ _ _ _ _ _ _
      | exact ih5 _ _ _ _ _ _ _ _ _ _ _ _ _ _ _ _ _
      | exact gamehallref1_Named.mono _ _
      | exact gamehallref1_RulesError.mono _ _ _ _ _ _ _ _ _ _ _ _
      | exact rules_Check.mono _ _ _ _ _ _ _ _ _ _ _ _
      | exact rules_Last.mono _ _ _ _ _ _ _ _ _ _ _ _ _ _
      | exact rules_Name.mono _ _
      | exact LeO.none _
      | refine LeO.ite ?_ ?_
      | refine LeO.bind ?_ (fun _ => ?_)
set_option maxHeartbeats 8000000 in
set_option maxRecDepth 100000 in
theorem gamehalllaw1_RulesChecks.calls (k : Nat) (a0_0 : ByteArray) (a0_1 : Int) (a0_2 : Int) (A0_3 : Option Addr) (c0_3 : Nat) (l0_3 : List (S136)) (A0_4 : Option Addr) (c0_4 : Nat) (l0_4 : List Int) (a0_5 : Bool) (a0_6 : Bool) (A0_7 : Option Addr) (c0_7 : Nat) (l0_7 : List (S132)) (a0_8 : Int) (a0_9 : Int) (a0_10 : Int) (a1 : ByteArray) (a2 : Int) (a3 : Int) (r : Bool) (w : World) (hr0_3 : Kd.C k136 w A0_3 l0_3.length l0_3) (hc0_3 : l0_3.length ≤ c0_3) (hr0_4 : Kd.C (Kd.int .i64) w A0_4 l0_4.length l0_4) (hc0_4 : l0_4.length ≤ c0_4) (hr0_7 : Kd.C k132 w A0_7 l0_7.length l0_7) (hc0_7 : l0_7.length ≤ c0_7) (h : gamehalllaw1_RulesChecks.f k a0_0 a0_1 a0_2 l0_3 l0_4 a0_5 a0_6 l0_7 a0_8 a0_9 a0_10 a1 a2 a3 = some r) :
    Calls Try.prog 3 #[.agg #[.string a0_0, .int .i64 a0_1, .int .i64 a0_2, .slice A0_3 l0_3.length c0_3, .slice A0_4 l0_4.length c0_4, .bool a0_5, .bool a0_6, .slice A0_7 l0_7.length c0_7, .int .i64 a0_8, .int .i64 a0_9, .int .i64 a0_10], .string a1, .int .i64 a2, .int .i64 a3] w fun e w' => e = .returned (.bool r) ∧ Below w.heap.size w w' := by
 have hu26 := Try.underlying26
 have HR0_3 := Aside0.mk hr0_3
 have HC0_3 := Aside0.mk hc0_3
 clear hr0_3 hc0_3
 have HR0_4 := Aside0.mk hr0_4
 have HC0_4 := Aside0.mk hc0_4
 clear hr0_4 hc0_4
 have HR0_7 := Aside0.mk hr0_7
 have HC0_7 := Aside0.mk hc0_7
 clear hr0_7 hc0_7
 have HB := Aside0.mk (Below.refl w.heap.size w)
 have H : ((rules_Check.f k (⟨#[]⟩ : ByteArray) 0 0 ([] : List (S136)) ([] : List Int) false false ([] : List (S132)) 0 0 0).bind fun t168 => (if t168 = 6 then ((gamehalllaw1_three.f).bind fun bt169 => ((rules_Check.f k bt169.1 bt169.2.1 bt169.2.2.1 bt169.2.2.2.1 bt169.2.2.2.2.1 bt169.2.2.2.2.2.1 bt169.2.2.2.2.2.2.1 bt169.2.2.2.2.2.2.2.1 bt169.2.2.2.2.2.2.2.2.1 bt169.2.2.2.2.2.2.2.2.2.1 bt169.2.2.2.2.2.2.2.2.2.2).bind fun t186 => (gamehalllaw1_RulesChecks.j0 k a1 a2 a3 (t186 != 0) a0_0 a0_1 a0_2 l0_3 l0_4 a0_5 a0_6 l0_7 a0_8 a0_9 a0_10))) else (gamehalllaw1_RulesChecks.j0 k a1 a2 a3 true a0_0 a0_1 a0_2 l0_3 l0_4 a0_5 a0_6 l0_7 a0_8 a0_9 a0_10))) = some r := h
 clear h
 have HC5 := Aside0.mk H
 clear H
 go_enter Try.func3, Try.ntmps3
 go_upto_region 1 with (first | ((with_reducible refine gate_dst (N := 4) rfl ?_); (try (refine gate_guard (by rfl) ?_; dsimp only)); refine box_event ?hg (N := 4) ?hd (cs := #[.string a0_0, .int .i64 a0_1, .int .i64 a0_2, .slice A0_3 l0_3.length c0_3, .slice A0_4 l0_4.length c0_4, .bool a0_5, .bool a0_6, .slice A0_7 l0_7.length c0_7, .int .i64 a0_8, .int .i64 a0_9, .int .i64 a0_10]) (t := 26) ?hr ?_; (case hd => rfl); (case hg => rfl); (case hr => first | (go_simp; done) | (go_simp; rfl)); intro gb167 hg w6 hbox hb; have n0_ := Aside0.mk (below_step (by repeat (first | (with_reducible first | exact HB.out | apply below_alloc | apply pw_below_drewN | apply below_drew1) | exact HB.out)) hb); have n1_ := Aside0.mk (hbox); have n2_ := Aside0.mk ((by rw [hg]; exact (below_size (by repeat (first | (with_reducible first | exact HB.out | apply below_alloc | apply pw_below_drewN | apply below_drew1) | exact HB.out))) : w.heap.size ≤ gb167)); have n3_ := Aside0.mk ((by rw [hg]; exact (below_size (by repeat (first | (with_reducible first | exact HB.out | apply below_alloc | apply pw_below_drewN | apply below_drew1) | exact HB.out))) : w.heap.size ≤ gb167)); clear HB; have HB := n0_; have BK167 := n1_; have GW167 := n2_; have GE167 := n3_; clear n0_ n1_ n2_ n3_; clear hb hbox hg))
 (try simp only [Act.put, List.setIfInBounds_toArray, List.set_cons_zero, List.set_cons_succ])
 go_cut [22] (fun v22 wc => ∃ (kq : Nat) (x22_4 : Bool), v22 = .bool x22_4 ∧ Aside0 (gamehalllaw1_RulesChecks.j0 kq a1 a2 a3 x22_4 a0_0 a0_1 a0_2 l0_3 l0_4 a0_5 a0_6 l0_7 a0_8 a0_9 a0_10 = some r) ∧ Aside0 (kq ≤ k) ∧ Aside0 (wc.heap[gb167]? = some (.cells #[.string a0_0, .int .i64 a0_1, .int .i64 a0_2, (.slice A0_3 l0_3.length c0_3), (.slice A0_4 l0_4.length c0_4), .bool a0_5, .bool a0_6, (.slice A0_7 l0_7.length c0_7), .int .i64 a0_8, .int .i64 a0_9, .int .i64 a0_10] 26 (0, 0))) ∧ Aside0 (Below w.heap.size w wc))
 case first =>
  have H := HC5.out
  clear HC5
  replace H := Option.bind_eq_some_iff.mp H
  obtain ⟨t168, A70, H⟩ := H
  replace H : (if t168 = 6 then ((gamehalllaw1_three.f).bind fun bt169 => ((rules_Check.f k bt169.1 bt169.2.1 bt169.2.2.1 bt169.2.2.2.1 bt169.2.2.2.2.1 bt169.2.2.2.2.2.1 bt169.2.2.2.2.2.2.1 bt169.2.2.2.2.2.2.2.1 bt169.2.2.2.2.2.2.2.2.1 bt169.2.2.2.2.2.2.2.2.2.1 bt169.2.2.2.2.2.2.2.2.2.2).bind fun t186 => (gamehalllaw1_RulesChecks.j0 k a1 a2 a3 (t186 != 0) a0_0 a0_1 a0_2 l0_3 l0_4 a0_5 a0_6 l0_7 a0_8 a0_9 a0_10))) else (gamehalllaw1_RulesChecks.j0 k a1 a2 a3 true a0_0 a0_1 a0_2 l0_3 l0_4 a0_5 a0_6 l0_7 a0_8 a0_9 a0_10)) = some r := H
  have A7 := Aside0.mk A70
  clear A70
  by_cases c8 : t168 = 6
  ·rw [if_pos c8] at H
   have c8b0 : (t168 == 6) = true := beq_iff_eq.mpr c8
   have c8b1 : (t168 != 6) = false := bne_eq_false_iff_eq.mpr c8
   clear c8
   (first | rw [c8b0] | (simp only [i64_w, i32_w]; rw [c8b0]) | skip)
   replace H := Option.bind_eq_some_iff.mp H
   obtain ⟨⟨t169, t170, t171, t172, t175, t178, t179, t180, t183, t184, t185⟩, A90, H⟩ := H
   replace H : ((rules_Check.f k t169 t170 t171 t172 t175 t178 t179 t180 t183 t184 t185).bind fun t186 => (gamehalllaw1_RulesChecks.j0 k a1 a2 a3 (t186 != 0) a0_0 a0_1 a0_2 l0_3 l0_4 a0_5 a0_6 l0_7 a0_8 a0_9 a0_10)) = some r := H
   have A9 := Aside0.mk A90
   clear A90
   replace H := Option.bind_eq_some_iff.mp H
   obtain ⟨t186, A100, H⟩ := H
   replace H : (gamehalllaw1_RulesChecks.j0 k a1 a2 a3 (t186 != 0) a0_0 a0_1 a0_2 l0_3 l0_4 a0_5 a0_6 l0_7 a0_8 a0_9 a0_10) = some r := H
   have A10 := Aside0.mk A100
   clear A100
   have H' := Aside0.mk H
   clear H
   go_wp2_with (first | ((with_reducible refine gate_callee (f := 12) rfl ?_); refine goesL_ (some 16) rfl rfl Try.func12 (by kernel_rfl) rfl #[.agg #[.string (⟨#[]⟩ : ByteArray), .int .i64 0, .int .i64 0, .slice none 0 0, .slice none 0 0, .bool false, .bool false, .slice none 0 0, .int .i64 0, .int .i64 0, .int .i64 0]] rfl (by (try simp only [List.map_toArray, List.map_cons, List.map_nil]); first | done | rfl | (simp only [List.length_drop, List.length_take]; rfl)) ?_; (refine (rules_Check.calls k (⟨#[]⟩ : ByteArray) 0 0 _ _ ([] : List (S136)) _ _ ([] : List Int) false false _ _ ([] : List (S132)) 0 0 0 t168 _ ?side1 ?side2 ?side3 ?side4 ?side5 ?side6 A7.out).mono ?_); (case side1 => exact Kd.C_nil _ _); (case side2 => exact Nat.le_refl _); (case side3 => exact Kd.C_nil _ _); (case side4 => exact Nat.le_refl _); (case side5 => exact Kd.C_nil _ _); (case side6 => exact Nat.le_refl _); rintro e w11 ⟨rfl, hb⟩; refine ⟨_, rfl, ?_⟩; have n0_ := Aside0.mk (blk_below (g := gb167) (o := .cells #[.string a0_0, .int .i64 a0_1, .int .i64 a0_2, .slice A0_3 l0_3.length c0_3, .slice A0_4 l0_4.length c0_4, .bool a0_5, .bool a0_6, .slice A0_7 l0_7.length c0_7, .int .i64 a0_8, .int .i64 a0_9, .int .i64 a0_10] 26 (0, 0)) (by (with_reducible repeat (first | refine blk_drewN ?_ _ | refine blk_drew ?_ | refine blk_alloc ?_ _)); exact BK167.out) hb); have n1_ := Aside0.mk (below_step (by repeat (first | (with_reducible first | exact HB.out | apply below_alloc | apply pw_below_drewN | apply below_drew1 | refine below_set ?_ GE167.out) | exact HB.out)) hb); clear BK167; clear HB; have BK167 := n0_; have HB := n1_; clear n0_ n1_; (try clear hb); (try clear hb2); (try clear hk); (try clear hi)) | (go_at_call 13; (with_reducible refine (gamehalllaw1_three.calls  t169 t170 t171 t172 t175 t178 t179 t180 t183 t184 t185 _ A9.out).mono ?_); rintro e w12 ⟨v173, v176, v181, rfl, ho0, ho1, ho2, hb⟩; have n0_ := Aside0.mk (Kd.S_lower ho0 (below_size (by repeat (first | (with_reducible first | exact HB.out | apply below_alloc | apply pw_below_drewN | apply below_drew1 | refine below_set ?_ GE167.out) | exact HB.out)))); have n1_ := Aside0.mk (Kd.R_lower ho1 (below_size (by repeat (first | (with_reducible first | exact HB.out | apply below_alloc | apply pw_below_drewN | apply below_drew1 | refine below_set ?_ GE167.out) | exact HB.out)))); have n2_ := Aside0.mk (Kd.R_lower ho2 (below_size (by repeat (first | (with_reducible first | exact HB.out | apply below_alloc | apply pw_below_drewN | apply below_drew1 | refine below_set ?_ GE167.out) | exact HB.out)))); have n3_ := Aside0.mk (blk_below (g := gb167) (o := .cells #[.string a0_0, .int .i64 a0_1, .int .i64 a0_2, .slice A0_3 l0_3.length c0_3, .slice A0_4 l0_4.length c0_4, .bool a0_5, .bool a0_6, .slice A0_7 l0_7.length c0_7, .int .i64 a0_8, .int .i64 a0_9, .int .i64 a0_10] 26 (0, 0)) (by (with_reducible repeat (first | refine blk_drewN ?_ _ | refine blk_drew ?_ | refine blk_alloc ?_ _)); exact BK167.out) hb); have n4_ := Aside0.mk (below_step (by repeat (first | (with_reducible first | exact HB.out | apply below_alloc | apply pw_below_drewN | apply below_drew1 | refine below_set ?_ GE167.out) | exact HB.out)) hb); clear BK167; clear HB; have HO174 := n0_; have HO177 := n1_; have HO182 := n2_; have BK167 := n3_; have HB := n4_; clear n0_ n1_ n2_ n3_ n4_; (try clear hb); (try clear hb2); (try clear hk); (try clear hi); (try clear ho0); (try clear ho1); (try clear ho2); obtain ⟨Ao13, co13, eo13⟩ := Kd.S_slice HO174.out; subst eo13; obtain ⟨Ao14, co14, eo14⟩ := Kd.R_slice HO177.out; subst eo14; obtain ⟨Ao15, co15, eo15⟩ := Kd.R_slice HO182.out; subst eo15) | (go_at_call 12; (with_reducible refine (rules_Check.calls k t169 t170 t171 _ _ t172 _ _ t175 t178 t179 _ _ t180 t183 t184 t185 t186 _ ?side1 ?side2 ?side3 ?side4 ?side5 ?side6 A10.out).mono ?_); (case side1 => repeat (first | exact (Kd.S_reads' HO174.out).2.2 | (with_reducible refine Kd.C_alloc ?_ _) | (with_reducible refine Kd.C_drewN ?_ _) | (with_reducible refine Kd.C_drew ?_))); (case side2 => exact (Kd.S_reads' HO174.out).2.1); (case side3 => repeat (first | exact (Kd.R_reads' HO177.out).2.2 | (with_reducible refine Kd.C_alloc ?_ _) | (with_reducible refine Kd.C_drewN ?_ _) | (with_reducible refine Kd.C_drew ?_))); (case side4 => exact (Kd.R_reads' HO177.out).2.1); (case side5 => repeat (first | exact (Kd.R_reads' HO182.out).2.2 | (with_reducible refine Kd.C_alloc ?_ _) | (with_reducible refine Kd.C_drewN ?_ _) | (with_reducible refine Kd.C_drew ?_))); (case side6 => exact (Kd.R_reads' HO182.out).2.1); rintro e w16 ⟨rfl, hb⟩; have n0_ := Aside0.mk (Kd.S_below (by (with_reducible repeat (first | apply Kd.S_alloc | apply Kd.S_drewN | apply Kd.S_drew)); exact HO174.out) hb); have n1_ := Aside0.mk (Kd.R_below (by (with_reducible repeat (first | apply Kd.R_alloc | apply Kd.R_drewN | apply Kd.R_drew)); exact HO177.out) hb); have n2_ := Aside0.mk (Kd.R_below (by (with_reducible repeat (first | apply Kd.R_alloc | apply Kd.R_drewN | apply Kd.R_drew)); exact HO182.out) hb); have n3_ := Aside0.mk (blk_below (g := gb167) (o := .cells #[.string a0_0, .int .i64 a0_1, .int .i64 a0_2, .slice A0_3 l0_3.length c0_3, .slice A0_4 l0_4.length c0_4, .bool a0_5, .bool a0_6, .slice A0_7 l0_7.length c0_7, .int .i64 a0_8, .int .i64 a0_9, .int .i64 a0_10] 26 (0, 0)) (by (with_reducible repeat (first | refine blk_drewN ?_ _ | refine blk_drew ?_ | refine blk_alloc ?_ _)); exact BK167.out) hb); have n4_ := Aside0.mk (below_step (by repeat (first | (with_reducible first | exact HB.out | apply below_alloc | apply pw_below_drewN | apply below_drew1 | refine below_set ?_ GE167.out) | exact HB.out)) hb); clear HO174; clear HO177; clear HO182; clear BK167; clear HB; have HO174 := n0_; have HO177 := n1_; have HO182 := n2_; have BK167 := n3_; have HB := n4_; clear n0_ n1_ n2_ n3_ n4_; (try clear hb); (try clear hb2); (try clear hk); (try clear hi)))
   go_meet
   case rel => exact ⟨_, ((t186 != 0)), (by first | rfl | (simp; done) | (simp [*]; done)), H', ⟨by first | omega | exact Nat.le_refl _⟩, ⟨by (with_reducible repeat (first | refine blk_drewN ?_ _ | refine blk_drew ?_ | refine blk_alloc ?_ _)); exact BK167.out⟩, ⟨by repeat (first | (with_reducible first | exact HB.out | apply below_alloc | apply pw_below_drewN | apply below_drew1 | refine below_set ?_ GE167.out) | exact HB.out)⟩⟩
  ·rw [if_neg c8] at H
   have c8b0 : (t168 == 6) = false := beq_eq_false_iff_ne.mpr c8
   have c8b1 : (t168 != 6) = true := bne_iff_ne.mpr c8
   (first | rw [c8b0] | (simp only [i64_w, i32_w]; rw [c8b0]) | skip)
   have H' := Aside0.mk H
   clear H
   go_wp2_with (first | ((with_reducible refine gate_callee (f := 12) rfl ?_); refine goesL_ (some 16) rfl rfl Try.func12 (by kernel_rfl) rfl #[.agg #[.string (⟨#[]⟩ : ByteArray), .int .i64 0, .int .i64 0, .slice none 0 0, .slice none 0 0, .bool false, .bool false, .slice none 0 0, .int .i64 0, .int .i64 0, .int .i64 0]] rfl (by (try simp only [List.map_toArray, List.map_cons, List.map_nil]); first | done | rfl | (simp only [List.length_drop, List.length_take]; rfl)) ?_; (refine (rules_Check.calls k (⟨#[]⟩ : ByteArray) 0 0 _ _ ([] : List (S136)) _ _ ([] : List Int) false false _ _ ([] : List (S132)) 0 0 0 t168 _ ?side1 ?side2 ?side3 ?side4 ?side5 ?side6 A7.out).mono ?_); (case side1 => exact Kd.C_nil _ _); (case side2 => exact Nat.le_refl _); (case side3 => exact Kd.C_nil _ _); (case side4 => exact Nat.le_refl _); (case side5 => exact Kd.C_nil _ _); (case side6 => exact Nat.le_refl _); rintro e w17 ⟨rfl, hb⟩; refine ⟨_, rfl, ?_⟩; have n0_ := Aside0.mk (blk_below (g := gb167) (o := .cells #[.string a0_0, .int .i64 a0_1, .int .i64 a0_2, .slice A0_3 l0_3.length c0_3, .slice A0_4 l0_4.length c0_4, .bool a0_5, .bool a0_6, .slice A0_7 l0_7.length c0_7, .int .i64 a0_8, .int .i64 a0_9, .int .i64 a0_10] 26 (0, 0)) (by (with_reducible repeat (first | refine blk_drewN ?_ _ | refine blk_drew ?_ | refine blk_alloc ?_ _)); exact BK167.out) hb); have n1_ := Aside0.mk (below_step (by repeat (first | (with_reducible first | exact HB.out | apply below_alloc | apply pw_below_drewN | apply below_drew1 | refine below_set ?_ GE167.out) | exact HB.out)) hb); clear BK167; clear HB; have BK167 := n0_; have HB := n1_; clear n0_ n1_; (try clear hb); (try clear hb2); (try clear hk); (try clear hi)))
   go_meet
   case rel => exact ⟨_, (true), (by first | rfl | (simp; done) | (simp [*]; done)), H', ⟨by first | omega | exact Nat.le_refl _⟩, ⟨by (with_reducible repeat (first | refine blk_drewN ?_ _ | refine blk_drew ?_ | refine blk_alloc ?_ _)); exact BK167.out⟩, ⟨by repeat (first | (with_reducible first | exact HB.out | apply below_alloc | apply pw_below_drewN | apply below_drew1 | refine below_set ?_ GE167.out) | exact HB.out)⟩⟩
 case rest =>
  clear HC5
  try clear c1
  try clear p2
  try clear c3
  try clear c8
  try clear c8b0
  try clear c8b1
  try clear c12
  obtain ⟨kq, x22_4, rfl, HA, HJ4, BK167, HB⟩ := hcut
  cases kq with
  | zero => exact absurd HA.out (by simp [gamehalllaw1_RulesChecks.j0])
  | succ kj4 =>
   have H := HA.out
   clear HA
   simp only [gamehalllaw1_RulesChecks.j0] at H
   by_cases c18 : x22_4 = true
   ·subst c18
    have H1 : (some false) = some r := by rw [if_pos rfl] at H; exact H
    clear H
    have H := H1
    clear H1
    obtain rfl := Option.some.inj H
    go_wp2
    go_ret
    exact ⟨by first | rfl | (simp [errW_none, errW_some] <;> rfl) | (simp [*, errW_none, errW_some] <;> rfl), by repeat (first | (with_reducible first | exact HB.out | apply below_alloc | apply pw_below_drewN | apply below_drew1 | refine below_set ?_ GE167.out) | exact HB.out)⟩
   ·replace c18 := Bool.eq_false_iff.mpr c18
    subst c18
    have H1 : ((gamehalllaw1_three.f).bind fun bt187 => ((rules_Last.f kj4 bt187.1 bt187.2.1 bt187.2.2.1 bt187.2.2.2.1 bt187.2.2.2.2.1 bt187.2.2.2.2.2.1 bt187.2.2.2.2.2.2.1 bt187.2.2.2.2.2.2.2.1 bt187.2.2.2.2.2.2.2.2.1 bt187.2.2.2.2.2.2.2.2.2.1 bt187.2.2.2.2.2.2.2.2.2.2 0 7).bind fun bt204 => (if bt204.2 = 0 then (if bt204.1 = true then ((rules_Name.f kj4 (⟨#[65, 49]⟩ : ByteArray)).bind fun t206 => (gamehalllaw1_RulesChecks.j1 kj4 a1 a2 a3 (!t206) a0_0 a0_1 a0_2 l0_3 l0_4 a0_5 a0_6 l0_7 a0_8 a0_9 a0_10)) else (gamehalllaw1_RulesChecks.j1 kj4 a1 a2 a3 true a0_0 a0_1 a0_2 l0_3 l0_4 a0_5 a0_6 l0_7 a0_8 a0_9 a0_10)) else (gamehalllaw1_RulesChecks.j1 kj4 a1 a2 a3 true a0_0 a0_1 a0_2 l0_3 l0_4 a0_5 a0_6 l0_7 a0_8 a0_9 a0_10)))) = some r := by rw [if_neg (show ¬ (false = true) by decide)] at H; exact H
    clear H
    have H := H1
    clear H1
    replace H := Option.bind_eq_some_iff.mp H
    obtain ⟨⟨t187, t188, t189, t190, t193, t196, t197, t198, t201, t202, t203⟩, A190, H⟩ := H
    replace H : ((rules_Last.f kj4 t187 t188 t189 t190 t193 t196 t197 t198 t201 t202 t203 0 7).bind fun bt204 => (if bt204.2 = 0 then (if bt204.1 = true then ((rules_Name.f kj4 (⟨#[65, 49]⟩ : ByteArray)).bind fun t206 => (gamehalllaw1_RulesChecks.j1 kj4 a1 a2 a3 (!t206) a0_0 a0_1 a0_2 l0_3 l0_4 a0_5 a0_6 l0_7 a0_8 a0_9 a0_10)) else (gamehalllaw1_RulesChecks.j1 kj4 a1 a2 a3 true a0_0 a0_1 a0_2 l0_3 l0_4 a0_5 a0_6 l0_7 a0_8 a0_9 a0_10)) else (gamehalllaw1_RulesChecks.j1 kj4 a1 a2 a3 true a0_0 a0_1 a0_2 l0_3 l0_4 a0_5 a0_6 l0_7 a0_8 a0_9 a0_10))) = some r := H
    have A19 := Aside0.mk A190
    clear A190
    replace H := Option.bind_eq_some_iff.mp H
    obtain ⟨⟨t204, t205⟩, A200, H⟩ := H
    replace H : (if t205 = 0 then (if t204 = true then ((rules_Name.f kj4 (⟨#[65, 49]⟩ : ByteArray)).bind fun t206 => (gamehalllaw1_RulesChecks.j1 kj4 a1 a2 a3 (!t206) a0_0 a0_1 a0_2 l0_3 l0_4 a0_5 a0_6 l0_7 a0_8 a0_9 a0_10)) else (gamehalllaw1_RulesChecks.j1 kj4 a1 a2 a3 true a0_0 a0_1 a0_2 l0_3 l0_4 a0_5 a0_6 l0_7 a0_8 a0_9 a0_10)) else (gamehalllaw1_RulesChecks.j1 kj4 a1 a2 a3 true a0_0 a0_1 a0_2 l0_3 l0_4 a0_5 a0_6 l0_7 a0_8 a0_9 a0_10)) = some r := H
    have A20 := Aside0.mk A200
    clear A200
    have HC21 := Aside0.mk H
    clear H
    go_upto_region 4 with (first | ((with_reducible refine gate_callee (f := 13) rfl ?_); refine goesL_ (some 24) rfl rfl Try.func13 (by kernel_rfl) rfl #[] rfl (by (try simp only [List.map_toArray, List.map_cons, List.map_nil]); first | done | rfl | (simp only [List.length_drop, List.length_take]; rfl)) ?_; (with_reducible refine (gamehalllaw1_three.calls  t187 t188 t189 t190 t193 t196 t197 t198 t201 t202 t203 _ A19.out).mono ?_); rintro e w22 ⟨v191, v194, v199, rfl, ho0, ho1, ho2, hb⟩; refine ⟨_, rfl, ?_⟩; have n0_ := Aside0.mk (Kd.S_lower ho0 (below_size (by repeat (first | (with_reducible first | exact HB.out | apply below_alloc | apply pw_below_drewN | apply below_drew1 | refine below_set ?_ GE167.out) | exact HB.out)))); have n1_ := Aside0.mk (Kd.R_lower ho1 (below_size (by repeat (first | (with_reducible first | exact HB.out | apply below_alloc | apply pw_below_drewN | apply below_drew1 | refine below_set ?_ GE167.out) | exact HB.out)))); have n2_ := Aside0.mk (Kd.R_lower ho2 (below_size (by repeat (first | (with_reducible first | exact HB.out | apply below_alloc | apply pw_below_drewN | apply below_drew1 | refine below_set ?_ GE167.out) | exact HB.out)))); have n3_ := Aside0.mk (blk_below (g := gb167) (o := .cells #[.string a0_0, .int .i64 a0_1, .int .i64 a0_2, .slice A0_3 l0_3.length c0_3, .slice A0_4 l0_4.length c0_4, .bool a0_5, .bool a0_6, .slice A0_7 l0_7.length c0_7, .int .i64 a0_8, .int .i64 a0_9, .int .i64 a0_10] 26 (0, 0)) (by (with_reducible repeat (first | refine blk_drewN ?_ _ | refine blk_drew ?_ | refine blk_alloc ?_ _)); exact BK167.out) hb); have n4_ := Aside0.mk (below_step (by repeat (first | (with_reducible first | exact HB.out | apply below_alloc | apply pw_below_drewN | apply below_drew1 | refine below_set ?_ GE167.out) | exact HB.out)) hb); clear BK167; clear HB; have HO192 := n0_; have HO195 := n1_; have HO200 := n2_; have BK167 := n3_; have HB := n4_; clear n0_ n1_ n2_ n3_ n4_; (try clear hb); (try clear hb2); (try clear hk); (try clear hi); (try clear ho0); (try clear ho1); (try clear ho2); obtain ⟨Ao23, co23, eo23⟩ := Kd.S_slice HO192.out; subst eo23; obtain ⟨Ao24, co24, eo24⟩ := Kd.R_slice HO195.out; subst eo24; obtain ⟨Ao25, co25, eo25⟩ := Kd.R_slice HO200.out; subst eo25) | ((with_reducible refine gate_callee (f := 14) rfl ?_); refine goesL_ (some 25) rfl rfl Try.func14 (by kernel_rfl) rfl #[.agg #[.string t187, .int .i64 t188, .int .i64 t189, .slice Ao23 t190.length co23, .slice Ao24 t193.length co24, .bool t196, .bool t197, .slice Ao25 t198.length co25, .int .i64 t201, .int .i64 t202, .int .i64 t203], .int .i64 0, .int .i64 7] rfl (by (try simp only [List.map_toArray, List.map_cons, List.map_nil]); first | done | rfl | (simp only [List.length_drop, List.length_take]; rfl)) ?_; (with_reducible refine (rules_Last.calls kj4 t187 t188 t189 _ _ t190 _ _ t193 t196 t197 _ _ t198 t201 t202 t203 0 7 t204 t205 _ ?side1 ?side2 ?side3 ?side4 ?side5 ?side6 A20.out).mono ?_); (case side1 => repeat (first | exact (Kd.S_reads' HO192.out).2.2 | (with_reducible refine Kd.C_alloc ?_ _) | (with_reducible refine Kd.C_drewN ?_ _) | (with_reducible refine Kd.C_drew ?_))); (case side2 => exact (Kd.S_reads' HO192.out).2.1); (case side3 => repeat (first | exact (Kd.R_reads' HO195.out).2.2 | (with_reducible refine Kd.C_alloc ?_ _) | (with_reducible refine Kd.C_drewN ?_ _) | (with_reducible refine Kd.C_drew ?_))); (case side4 => exact (Kd.R_reads' HO195.out).2.1); (case side5 => repeat (first | exact (Kd.R_reads' HO200.out).2.2 | (with_reducible refine Kd.C_alloc ?_ _) | (with_reducible refine Kd.C_drewN ?_ _) | (with_reducible refine Kd.C_drew ?_))); (case side6 => exact (Kd.R_reads' HO200.out).2.1); rintro e w26 ⟨rfl, hb⟩; refine ⟨_, rfl, ?_⟩; have n0_ := Aside0.mk (Kd.S_below (by (with_reducible repeat (first | apply Kd.S_alloc | apply Kd.S_drewN | apply Kd.S_drew)); exact HO192.out) hb); have n1_ := Aside0.mk (Kd.R_below (by (with_reducible repeat (first | apply Kd.R_alloc | apply Kd.R_drewN | apply Kd.R_drew)); exact HO195.out) hb); have n2_ := Aside0.mk (Kd.R_below (by (with_reducible repeat (first | apply Kd.R_alloc | apply Kd.R_drewN | apply Kd.R_drew)); exact HO200.out) hb); have n3_ := Aside0.mk (blk_below (g := gb167) (o := .cells #[.string a0_0, .int .i64 a0_1, .int .i64 a0_2, .slice A0_3 l0_3.length c0_3, .slice A0_4 l0_4.length c0_4, .bool a0_5, .bool a0_6, .slice A0_7 l0_7.length c0_7, .int .i64 a0_8, .int .i64 a0_9, .int .i64 a0_10] 26 (0, 0)) (by (with_reducible repeat (first | refine blk_drewN ?_ _ | refine blk_drew ?_ | refine blk_alloc ?_ _)); exact BK167.out) hb); have n4_ := Aside0.mk (below_step (by repeat (first | (with_reducible first | exact HB.out | apply below_alloc | apply pw_below_drewN | apply below_drew1 | refine below_set ?_ GE167.out) | exact HB.out)) hb); clear HO192; clear HO195; clear HO200; clear BK167; clear HB; have HO192 := n0_; have HO195 := n1_; have HO200 := n2_; have BK167 := n3_; have HB := n4_; clear n0_ n1_ n2_ n3_ n4_; (try clear hb); (try clear hb2); (try clear hk); (try clear hi)))
    (try simp only [Act.put, List.setIfInBounds_toArray, List.set_cons_zero, List.set_cons_succ])
    go_cut [37] (fun v37 wc => ∃ (kq : Nat) (x37_20 : Bool), v37 = .bool x37_20 ∧ Aside0 (gamehalllaw1_RulesChecks.j1 kq a1 a2 a3 x37_20 a0_0 a0_1 a0_2 l0_3 l0_4 a0_5 a0_6 l0_7 a0_8 a0_9 a0_10 = some r) ∧ Aside0 (kq ≤ kj4) ∧ Aside0 (wc.heap[gb167]? = some (.cells #[.string a0_0, .int .i64 a0_1, .int .i64 a0_2, (.slice A0_3 l0_3.length c0_3), (.slice A0_4 l0_4.length c0_4), .bool a0_5, .bool a0_6, (.slice A0_7 l0_7.length c0_7), .int .i64 a0_8, .int .i64 a0_9, .int .i64 a0_10] 26 (0, 0))) ∧ Aside0 (Below w.heap.size w wc))
    case first =>
     have H := HC21.out
     clear HC21
     by_cases c27 : t205 = 0
     ·rw [if_pos c27] at H
      have c27b0 : (t205 == 0) = true := beq_iff_eq.mpr c27
      have c27b1 : (t205 != 0) = false := bne_eq_false_iff_eq.mpr c27
      clear c27
      (first | rw [c27b0] | (simp only [i64_w, i32_w]; rw [c27b0]) | skip)
      by_cases c28 : t204 = true
      ·subst c28
       have H1 : ((rules_Name.f kj4 (⟨#[65, 49]⟩ : ByteArray)).bind fun t206 => (gamehalllaw1_RulesChecks.j1 kj4 a1 a2 a3 (!t206) a0_0 a0_1 a0_2 l0_3 l0_4 a0_5 a0_6 l0_7 a0_8 a0_9 a0_10)) = some r := by rw [if_pos rfl] at H; exact H
       clear H
       have H := H1
       clear H1
       replace H := Option.bind_eq_some_iff.mp H
       obtain ⟨t206, A290, H⟩ := H
       replace H : (gamehalllaw1_RulesChecks.j1 kj4 a1 a2 a3 (!t206) a0_0 a0_1 a0_2 l0_3 l0_4 a0_5 a0_6 l0_7 a0_8 a0_9 a0_10) = some r := H
       have A29 := Aside0.mk A290
       clear A290
       have H' := Aside0.mk H
       clear H
       go_wp2_with (first | (go_at_call 15; (with_reducible refine (rules_Name.calls kj4 (⟨#[65, 49]⟩ : ByteArray) t206 _ A29.out).mono ?_); rintro e w' ⟨rfl, ⟨nd, rfl⟩⟩))
       go_meet
       case rel => exact ⟨_, (!t206), (by first | rfl | (simp; done) | (simp [*]; done)), H', ⟨by have := HJ4.out; first | omega | exact Nat.le_refl _⟩, ⟨by (with_reducible repeat (first | refine blk_drewN ?_ _ | refine blk_drew ?_ | refine blk_alloc ?_ _)); exact BK167.out⟩, ⟨by repeat (first | (with_reducible first | exact HB.out | apply below_alloc | apply pw_below_drewN | apply below_drew1 | refine below_set ?_ GE167.out) | exact HB.out)⟩⟩
      ·replace c28 := Bool.eq_false_iff.mpr c28
       subst c28
       have H1 : (gamehalllaw1_RulesChecks.j1 kj4 a1 a2 a3 true a0_0 a0_1 a0_2 l0_3 l0_4 a0_5 a0_6 l0_7 a0_8 a0_9 a0_10) = some r := by rw [if_neg (show ¬ (false = true) by decide)] at H; exact H
       clear H
       have H := H1
       clear H1
       have H' := Aside0.mk H
       clear H
       go_wp2
       go_meet
       case rel => exact ⟨_, (true), (by first | rfl | (simp; done) | (simp [*]; done)), H', ⟨by have := HJ4.out; first | omega | exact Nat.le_refl _⟩, ⟨by (with_reducible repeat (first | refine blk_drewN ?_ _ | refine blk_drew ?_ | refine blk_alloc ?_ _)); exact BK167.out⟩, ⟨by repeat (first | (with_reducible first | exact HB.out | apply below_alloc | apply pw_below_drewN | apply below_drew1 | refine below_set ?_ GE167.out) | exact HB.out)⟩⟩
     ·rw [if_neg c27] at H
      have c27b0 : (t205 == 0) = false := beq_eq_false_iff_ne.mpr c27
      have c27b1 : (t205 != 0) = true := bne_iff_ne.mpr c27
      (first | rw [c27b0] | (simp only [i64_w, i32_w]; rw [c27b0]) | skip)
      have H' := Aside0.mk H
      clear H
      go_wp2
      go_meet
      case rel => exact ⟨_, (true), (by first | rfl | (simp; done) | (simp [*]; done)), H', ⟨by have := HJ4.out; first | omega | exact Nat.le_refl _⟩, ⟨by (with_reducible repeat (first | refine blk_drewN ?_ _ | refine blk_drew ?_ | refine blk_alloc ?_ _)); exact BK167.out⟩, ⟨by repeat (first | (with_reducible first | exact HB.out | apply below_alloc | apply pw_below_drewN | apply below_drew1 | refine below_set ?_ GE167.out) | exact HB.out)⟩⟩
    case rest =>
     clear HC21
     try clear c1
     try clear c2
     try clear p2
     try clear c3
     try clear c8
     try clear c8b0
     try clear c8b1
     try clear c12
     try clear c13
     try clear c14
     try clear c18
     try clear c27
     try clear c27b0
     try clear c27b1
     try clear c28
     try clear p2
     obtain ⟨kq, x37_20, rfl, HA, HJ20, BK167, HB⟩ := hcut
     cases kq with
     | zero => exact absurd HA.out (by simp [gamehalllaw1_RulesChecks.j1])
     | succ kj20 =>
      have H := HA.out
      clear HA
      simp only [gamehalllaw1_RulesChecks.j1] at H
      by_cases c30 : x37_20 = true
      ·subst c30
       have H1 : (some false) = some r := by rw [if_pos rfl] at H; exact H
       clear H
       have H := H1
       clear H1
       obtain rfl := Option.some.inj H
       go_wp2
       go_ret
       exact ⟨by first | rfl | (simp [errW_none, errW_some] <;> rfl) | (simp [*, errW_none, errW_some] <;> rfl), by repeat (first | (with_reducible first | exact HB.out | apply below_alloc | apply pw_below_drewN | apply below_drew1 | refine below_set ?_ GE167.out) | exact HB.out)⟩
      ·replace c30 := Bool.eq_false_iff.mpr c30
       subst c30
       have H1 : ((gamehallref1_RulesError.f kj20 a0_0 a0_1 a0_2 l0_3 l0_4 a0_5 a0_6 l0_7 a0_8 a0_9 a0_10).bind fun t207 => ((rules_Check.f kj20 a0_0 a0_1 a0_2 l0_3 l0_4 a0_5 a0_6 l0_7 a0_8 a0_9 a0_10).bind fun t208 => (if t208 = t207 then ((rules_Name.f kj20 a1).bind fun t209 => ((gamehallref1_Named.f kj20 a1).bind fun t210 => (gamehalllaw1_RulesChecks.j2 kj20 a2 a3 t207 (t209 != t210) a0_0 a0_1 a0_2 l0_3 l0_4 a0_5 a0_6 l0_7 a0_8 a0_9 a0_10))) else (gamehalllaw1_RulesChecks.j2 kj20 a2 a3 t207 true a0_0 a0_1 a0_2 l0_3 l0_4 a0_5 a0_6 l0_7 a0_8 a0_9 a0_10)))) = some r := by rw [if_neg (show ¬ (false = true) by decide)] at H; exact H
       clear H
       have H := H1
       clear H1
       replace H := Option.bind_eq_some_iff.mp H
       obtain ⟨t207, A310, H⟩ := H
       replace H : ((rules_Check.f kj20 a0_0 a0_1 a0_2 l0_3 l0_4 a0_5 a0_6 l0_7 a0_8 a0_9 a0_10).bind fun t208 => (if t208 = t207 then ((rules_Name.f kj20 a1).bind fun t209 => ((gamehallref1_Named.f kj20 a1).bind fun t210 => (gamehalllaw1_RulesChecks.j2 kj20 a2 a3 t207 (t209 != t210) a0_0 a0_1 a0_2 l0_3 l0_4 a0_5 a0_6 l0_7 a0_8 a0_9 a0_10))) else (gamehalllaw1_RulesChecks.j2 kj20 a2 a3 t207 true a0_0 a0_1 a0_2 l0_3 l0_4 a0_5 a0_6 l0_7 a0_8 a0_9 a0_10))) = some r := H
       have A31 := Aside0.mk A310
       clear A310
       have HC32 := Aside0.mk H
       clear H
       have hcz33_0 := blkc11 BK167.out
       go_upto_region 7 with (first | ((with_reducible refine gate_callee (f := 16) rfl ?_); refine goesL_ (some 39) rfl rfl Try.func16 (by kernel_rfl) rfl #[.agg #[.string a0_0, .int .i64 a0_1, .int .i64 a0_2, .slice A0_3 l0_3.length c0_3, .slice A0_4 l0_4.length c0_4, .bool a0_5, .bool a0_6, .slice A0_7 l0_7.length c0_7, .int .i64 a0_8, .int .i64 a0_9, .int .i64 a0_10]] rfl (by (try simp only [List.map_toArray, List.map_cons, List.map_nil]); first | done | rfl | (simp only [List.length_drop, List.length_take]; rfl)) ?_; (with_reducible refine (gamehallref1_RulesError.calls kj20 a0_0 a0_1 a0_2 _ _ l0_3 _ _ l0_4 a0_5 a0_6 _ _ l0_7 a0_8 a0_9 a0_10 t207 _ ?side1 ?side2 ?side3 ?side4 ?side5 ?side6 A31.out).mono ?_); (case side1 => repeat (first | exact (Kd.C_below HR0_3.out HB.out) | (with_reducible refine Kd.C_alloc ?_ _) | (with_reducible refine Kd.C_drewN ?_ _) | (with_reducible refine Kd.C_drew ?_))); (case side2 => exact HC0_3.out); (case side3 => repeat (first | exact (Kd.C_below HR0_4.out HB.out) | (with_reducible refine Kd.C_alloc ?_ _) | (with_reducible refine Kd.C_drewN ?_ _) | (with_reducible refine Kd.C_drew ?_))); (case side4 => exact HC0_4.out); (case side5 => repeat (first | exact (Kd.C_below HR0_7.out HB.out) | (with_reducible refine Kd.C_alloc ?_ _) | (with_reducible refine Kd.C_drewN ?_ _) | (with_reducible refine Kd.C_drew ?_))); (case side6 => exact HC0_7.out); rintro e w34 ⟨rfl, hb⟩; refine ⟨_, rfl, ?_⟩; have n0_ := Aside0.mk (blk_below (g := gb167) (o := .cells #[.string a0_0, .int .i64 a0_1, .int .i64 a0_2, .slice A0_3 l0_3.length c0_3, .slice A0_4 l0_4.length c0_4, .bool a0_5, .bool a0_6, .slice A0_7 l0_7.length c0_7, .int .i64 a0_8, .int .i64 a0_9, .int .i64 a0_10] 26 (0, 0)) (by (with_reducible repeat (first | refine blk_drewN ?_ _ | refine blk_drew ?_ | refine blk_alloc ?_ _)); exact BK167.out) hb); have n1_ := Aside0.mk (below_step (by repeat (first | (with_reducible first | exact HB.out | apply below_alloc | apply pw_below_drewN | apply below_drew1 | refine below_set ?_ GE167.out) | exact HB.out)) hb); clear BK167; clear HB; have BK167 := n0_; have HB := n1_; clear n0_ n1_; (try clear hb); (try clear hb2); (try clear hk); (try clear hi)))
       (try simp only [Act.put, List.setIfInBounds_toArray, List.set_cons_zero, List.set_cons_succ])
       go_cut [50] (fun v50 wc => ∃ (kq : Nat) (x50_31 : Bool), v50 = .bool x50_31 ∧ Aside0 (gamehalllaw1_RulesChecks.j2 kq a2 a3 t207 x50_31 a0_0 a0_1 a0_2 l0_3 l0_4 a0_5 a0_6 l0_7 a0_8 a0_9 a0_10 = some r) ∧ Aside0 (kq ≤ kj20) ∧ Aside0 (wc.heap[gb167]? = some (.cells #[.string a0_0, .int .i64 a0_1, .int .i64 a0_2, (.slice A0_3 l0_3.length c0_3), (.slice A0_4 l0_4.length c0_4), .bool a0_5, .bool a0_6, (.slice A0_7 l0_7.length c0_7), .int .i64 a0_8, .int .i64 a0_9, .int .i64 a0_10] 26 (0, 0))) ∧ Aside0 (Below w.heap.size w wc))
       case first =>
        have H := HC32.out
        clear HC32
        replace H := Option.bind_eq_some_iff.mp H
        obtain ⟨t208, A350, H⟩ := H
        replace H : (if t208 = t207 then ((rules_Name.f kj20 a1).bind fun t209 => ((gamehallref1_Named.f kj20 a1).bind fun t210 => (gamehalllaw1_RulesChecks.j2 kj20 a2 a3 t207 (t209 != t210) a0_0 a0_1 a0_2 l0_3 l0_4 a0_5 a0_6 l0_7 a0_8 a0_9 a0_10))) else (gamehalllaw1_RulesChecks.j2 kj20 a2 a3 t207 true a0_0 a0_1 a0_2 l0_3 l0_4 a0_5 a0_6 l0_7 a0_8 a0_9 a0_10)) = some r := H
        have A35 := Aside0.mk A350
        clear A350
        by_cases c36 : t208 = t207
        ·rw [if_pos c36] at H
         have c36b0 : (t208 == t207) = true := beq_iff_eq.mpr c36
         have c36b1 : (t208 != t207) = false := bne_eq_false_iff_eq.mpr c36
         clear c36
         (first | rw [c36b0] | (simp only [i64_w, i32_w]; rw [c36b0]) | skip)
         replace H := Option.bind_eq_some_iff.mp H
         obtain ⟨t209, A370, H⟩ := H
         replace H : ((gamehallref1_Named.f kj20 a1).bind fun t210 => (gamehalllaw1_RulesChecks.j2 kj20 a2 a3 t207 (t209 != t210) a0_0 a0_1 a0_2 l0_3 l0_4 a0_5 a0_6 l0_7 a0_8 a0_9 a0_10)) = some r := H
         have A37 := Aside0.mk A370
         clear A370
         replace H := Option.bind_eq_some_iff.mp H
         obtain ⟨t210, A380, H⟩ := H
         replace H : (gamehalllaw1_RulesChecks.j2 kj20 a2 a3 t207 (t209 != t210) a0_0 a0_1 a0_2 l0_3 l0_4 a0_5 a0_6 l0_7 a0_8 a0_9 a0_10) = some r := H
         have A38 := Aside0.mk A380
         clear A380
         have H' := Aside0.mk H
         clear H
         have hcz39_0 := blkc11 BK167.out
         go_wp2_with (first | ((with_reducible refine gate_callee (f := 12) rfl ?_); refine goesL_ (some 41) rfl rfl Try.func12 (by kernel_rfl) rfl #[.agg #[.string a0_0, .int .i64 a0_1, .int .i64 a0_2, .slice A0_3 l0_3.length c0_3, .slice A0_4 l0_4.length c0_4, .bool a0_5, .bool a0_6, .slice A0_7 l0_7.length c0_7, .int .i64 a0_8, .int .i64 a0_9, .int .i64 a0_10]] rfl (by (try simp only [List.map_toArray, List.map_cons, List.map_nil]); first | done | rfl | (simp only [List.length_drop, List.length_take]; rfl)) ?_; (with_reducible refine (rules_Check.calls kj20 a0_0 a0_1 a0_2 _ _ l0_3 _ _ l0_4 a0_5 a0_6 _ _ l0_7 a0_8 a0_9 a0_10 t208 _ ?side1 ?side2 ?side3 ?side4 ?side5 ?side6 A35.out).mono ?_); (case side1 => repeat (first | exact (Kd.C_below HR0_3.out HB.out) | (with_reducible refine Kd.C_alloc ?_ _) | (with_reducible refine Kd.C_drewN ?_ _) | (with_reducible refine Kd.C_drew ?_))); (case side2 => exact HC0_3.out); (case side3 => repeat (first | exact (Kd.C_below HR0_4.out HB.out) | (with_reducible refine Kd.C_alloc ?_ _) | (with_reducible refine Kd.C_drewN ?_ _) | (with_reducible refine Kd.C_drew ?_))); (case side4 => exact HC0_4.out); (case side5 => repeat (first | exact (Kd.C_below HR0_7.out HB.out) | (with_reducible refine Kd.C_alloc ?_ _) | (with_reducible refine Kd.C_drewN ?_ _) | (with_reducible refine Kd.C_drew ?_))); (case side6 => exact HC0_7.out); rintro e w40 ⟨rfl, hb⟩; refine ⟨_, rfl, ?_⟩; have n0_ := Aside0.mk (blk_below (g := gb167) (o := .cells #[.string a0_0, .int .i64 a0_1, .int .i64 a0_2, .slice A0_3 l0_3.length c0_3, .slice A0_4 l0_4.length c0_4, .bool a0_5, .bool a0_6, .slice A0_7 l0_7.length c0_7, .int .i64 a0_8, .int .i64 a0_9, .int .i64 a0_10] 26 (0, 0)) (by (with_reducible repeat (first | refine blk_drewN ?_ _ | refine blk_drew ?_ | refine blk_alloc ?_ _)); exact BK167.out) hb); have n1_ := Aside0.mk (below_step (by repeat (first | (with_reducible first | exact HB.out | apply below_alloc | apply pw_below_drewN | apply below_drew1 | refine below_set ?_ GE167.out) | exact HB.out)) hb); clear BK167; clear HB; have BK167 := n0_; have HB := n1_; clear n0_ n1_; (try clear hb); (try clear hb2); (try clear hk); (try clear hi)) | (go_at_call 15; (with_reducible refine (rules_Name.calls kj20 a1 t209 _ A37.out).mono ?_); rintro e w' ⟨rfl, ⟨nd, rfl⟩⟩) | (go_at_call 17; (with_reducible refine (gamehallref1_Named.calls kj20 a1 t210 _ A38.out).mono ?_); rintro e w' ⟨rfl, ⟨nd, rfl⟩⟩))
         go_meet
         case rel => exact ⟨_, ((t209 != t210)), (by first | rfl | (simp; done) | (simp [*]; done)), H', ⟨by have := HJ4.out; have := HJ20.out; first | omega | exact Nat.le_refl _⟩, ⟨by (with_reducible repeat (first | refine blk_drewN ?_ _ | refine blk_drew ?_ | refine blk_alloc ?_ _)); exact BK167.out⟩, ⟨by repeat (first | (with_reducible first | exact HB.out | apply below_alloc | apply pw_below_drewN | apply below_drew1 | refine below_set ?_ GE167.out) | exact HB.out)⟩⟩
        ·rw [if_neg c36] at H
         have c36b0 : (t208 == t207) = false := beq_eq_false_iff_ne.mpr c36
         have c36b1 : (t208 != t207) = true := bne_iff_ne.mpr c36
         (first | rw [c36b0] | (simp only [i64_w, i32_w]; rw [c36b0]) | skip)
         have H' := Aside0.mk H
         clear H
         have hcz41_0 := blkc11 BK167.out
         go_wp2_with (first | ((with_reducible refine gate_callee (f := 12) rfl ?_); refine goesL_ (some 41) rfl rfl Try.func12 (by kernel_rfl) rfl #[.agg #[.string a0_0, .int .i64 a0_1, .int .i64 a0_2, .slice A0_3 l0_3.length c0_3, .slice A0_4 l0_4.length c0_4, .bool a0_5, .bool a0_6, .slice A0_7 l0_7.length c0_7, .int .i64 a0_8, .int .i64 a0_9, .int .i64 a0_10]] rfl (by (try simp only [List.map_toArray, List.map_cons, List.map_nil]); first | done | rfl | (simp only [List.length_drop, List.length_take]; rfl)) ?_; (with_reducible refine (rules_Check.calls kj20 a0_0 a0_1 a0_2 _ _ l0_3 _ _ l0_4 a0_5 a0_6 _ _ l0_7 a0_8 a0_9 a0_10 t208 _ ?side1 ?side2 ?side3 ?side4 ?side5 ?side6 A35.out).mono ?_); (case side1 => repeat (first | exact (Kd.C_below HR0_3.out HB.out) | (with_reducible refine Kd.C_alloc ?_ _) | (with_reducible refine Kd.C_drewN ?_ _) | (with_reducible refine Kd.C_drew ?_))); (case side2 => exact HC0_3.out); (case side3 => repeat (first | exact (Kd.C_below HR0_4.out HB.out) | (with_reducible refine Kd.C_alloc ?_ _) | (with_reducible refine Kd.C_drewN ?_ _) | (with_reducible refine Kd.C_drew ?_))); (case side4 => exact HC0_4.out); (case side5 => repeat (first | exact (Kd.C_below HR0_7.out HB.out) | (with_reducible refine Kd.C_alloc ?_ _) | (with_reducible refine Kd.C_drewN ?_ _) | (with_reducible refine Kd.C_drew ?_))); (case side6 => exact HC0_7.out); rintro e w42 ⟨rfl, hb⟩; refine ⟨_, rfl, ?_⟩; have n0_ := Aside0.mk (blk_below (g := gb167) (o := .cells #[.string a0_0, .int .i64 a0_1, .int .i64 a0_2, .slice A0_3 l0_3.length c0_3, .slice A0_4 l0_4.length c0_4, .bool a0_5, .bool a0_6, .slice A0_7 l0_7.length c0_7, .int .i64 a0_8, .int .i64 a0_9, .int .i64 a0_10] 26 (0, 0)) (by (with_reducible repeat (first | refine blk_drewN ?_ _ | refine blk_drew ?_ | refine blk_alloc ?_ _)); exact BK167.out) hb); have n1_ := Aside0.mk (below_step (by repeat (first | (with_reducible first | exact HB.out | apply below_alloc | apply pw_below_drewN | apply below_drew1 | refine below_set ?_ GE167.out) | exact HB.out)) hb); clear BK167; clear HB; have BK167 := n0_; have HB := n1_; clear n0_ n1_; (try clear hb); (try clear hb2); (try clear hk); (try clear hi)))
         go_meet
         case rel => exact ⟨_, (true), (by first | rfl | (simp; done) | (simp [*]; done)), H', ⟨by have := HJ4.out; have := HJ20.out; first | omega | exact Nat.le_refl _⟩, ⟨by (with_reducible repeat (first | refine blk_drewN ?_ _ | refine blk_drew ?_ | refine blk_alloc ?_ _)); exact BK167.out⟩, ⟨by repeat (first | (with_reducible first | exact HB.out | apply below_alloc | apply pw_below_drewN | apply below_drew1 | refine below_set ?_ GE167.out) | exact HB.out)⟩⟩
       case rest =>
        clear HC32
        try clear c1
        try clear c2
        try clear p2
        try clear c3
        try clear c8
        try clear c8b0
        try clear c8b1
        try clear c11
        try clear c12
        try clear c13
        try clear c14
        try clear c16
        try clear c18
        try clear c27
        try clear c27b0
        try clear c27b1
        try clear c28
        try clear c30
        try clear c36
        try clear c36b0
        try clear c36b1
        try clear hcz33_0
        try clear hcz39_0
        try clear hcz41_0
        try clear p2
        obtain ⟨kq, x50_31, rfl, HA, HJ31, BK167, HB⟩ := hcut
        cases kq with
        | zero => exact absurd HA.out (by simp [gamehalllaw1_RulesChecks.j2])
        | succ kj31 =>
         have H := HA.out
         clear HA
         simp only [gamehalllaw1_RulesChecks.j2] at H
         by_cases c43 : x50_31 = true
         ·subst c43
          have H1 : (some false) = some r := by rw [if_pos rfl] at H; exact H
          clear H
          have H := H1
          clear H1
          obtain rfl := Option.some.inj H
          go_wp2
          go_ret
          exact ⟨by first | rfl | (simp [errW_none, errW_some] <;> rfl) | (simp [*, errW_none, errW_some] <;> rfl), by repeat (first | (with_reducible first | exact HB.out | apply below_alloc | apply pw_below_drewN | apply below_drew1 | refine below_set ?_ GE167.out) | exact HB.out)⟩
         ·replace c43 := Bool.eq_false_iff.mpr c43
          subst c43
          have H1 : ((rules_Last.f kj31 a0_0 a0_1 a0_2 l0_3 l0_4 a0_5 a0_6 l0_7 a0_8 a0_9 a0_10 a2 a3).bind fun bt211 => (if t207 = 0 then ((gamehallref1_In.f a2 0 1).bind fun t213 => (gamehalllaw1_RulesChecks.j3 kj31 a2 a3 t207 bt211.1 bt211.2 (!t213) a0_0 a0_1 a0_2 l0_3 l0_4 a0_5 a0_6 l0_7 a0_8 a0_9 a0_10)) else (gamehalllaw1_RulesChecks.j3 kj31 a2 a3 t207 bt211.1 bt211.2 false a0_0 a0_1 a0_2 l0_3 l0_4 a0_5 a0_6 l0_7 a0_8 a0_9 a0_10))) = some r := by rw [if_neg (show ¬ (false = true) by decide)] at H; exact H
          clear H
          have H := H1
          clear H1
          replace H := Option.bind_eq_some_iff.mp H
          obtain ⟨⟨t211, t212⟩, A440, H⟩ := H
          replace H : (if t207 = 0 then ((gamehallref1_In.f a2 0 1).bind fun t213 => (gamehalllaw1_RulesChecks.j3 kj31 a2 a3 t207 t211 t212 (!t213) a0_0 a0_1 a0_2 l0_3 l0_4 a0_5 a0_6 l0_7 a0_8 a0_9 a0_10)) else (gamehalllaw1_RulesChecks.j3 kj31 a2 a3 t207 t211 t212 false a0_0 a0_1 a0_2 l0_3 l0_4 a0_5 a0_6 l0_7 a0_8 a0_9 a0_10)) = some r := H
          have A44 := Aside0.mk A440
          clear A440
          have HC45 := Aside0.mk H
          clear H
          have hcz46_0 := blkc11 BK167.out
          go_upto_region 10 with (first | ((with_reducible refine gate_callee (f := 14) rfl ?_); refine goesL_ (some 55) rfl rfl Try.func14 (by kernel_rfl) rfl #[.agg #[.string a0_0, .int .i64 a0_1, .int .i64 a0_2, .slice A0_3 l0_3.length c0_3, .slice A0_4 l0_4.length c0_4, .bool a0_5, .bool a0_6, .slice A0_7 l0_7.length c0_7, .int .i64 a0_8, .int .i64 a0_9, .int .i64 a0_10], .int .i64 a2, .int .i64 a3] rfl (by (try simp only [List.map_toArray, List.map_cons, List.map_nil]); first | done | rfl | (simp only [List.length_drop, List.length_take]; rfl)) ?_; (with_reducible refine (rules_Last.calls kj31 a0_0 a0_1 a0_2 _ _ l0_3 _ _ l0_4 a0_5 a0_6 _ _ l0_7 a0_8 a0_9 a0_10 a2 a3 t211 t212 _ ?side1 ?side2 ?side3 ?side4 ?side5 ?side6 A44.out).mono ?_); (case side1 => repeat (first | exact (Kd.C_below HR0_3.out HB.out) | (with_reducible refine Kd.C_alloc ?_ _) | (with_reducible refine Kd.C_drewN ?_ _) | (with_reducible refine Kd.C_drew ?_))); (case side2 => exact HC0_3.out); (case side3 => repeat (first | exact (Kd.C_below HR0_4.out HB.out) | (with_reducible refine Kd.C_alloc ?_ _) | (with_reducible refine Kd.C_drewN ?_ _) | (with_reducible refine Kd.C_drew ?_))); (case side4 => exact HC0_4.out); (case side5 => repeat (first | exact (Kd.C_below HR0_7.out HB.out) | (with_reducible refine Kd.C_alloc ?_ _) | (with_reducible refine Kd.C_drewN ?_ _) | (with_reducible refine Kd.C_drew ?_))); (case side6 => exact HC0_7.out); rintro e w47 ⟨rfl, hb⟩; refine ⟨_, rfl, ?_⟩; have n0_ := Aside0.mk (blk_below (g := gb167) (o := .cells #[.string a0_0, .int .i64 a0_1, .int .i64 a0_2, .slice A0_3 l0_3.length c0_3, .slice A0_4 l0_4.length c0_4, .bool a0_5, .bool a0_6, .slice A0_7 l0_7.length c0_7, .int .i64 a0_8, .int .i64 a0_9, .int .i64 a0_10] 26 (0, 0)) (by (with_reducible repeat (first | refine blk_drewN ?_ _ | refine blk_drew ?_ | refine blk_alloc ?_ _)); exact BK167.out) hb); have n1_ := Aside0.mk (below_step (by repeat (first | (with_reducible first | exact HB.out | apply below_alloc | apply pw_below_drewN | apply below_drew1 | refine below_set ?_ GE167.out) | exact HB.out)) hb); clear BK167; clear HB; have BK167 := n0_; have HB := n1_; clear n0_ n1_; (try clear hb); (try clear hb2); (try clear hk); (try clear hi)))
          (try simp only [Act.put, List.setIfInBounds_toArray, List.set_cons_zero, List.set_cons_succ])
          go_cut [64] (fun v64 wc => ∃ (kq : Nat) (x64_44 : Bool), v64 = .bool x64_44 ∧ Aside0 (gamehalllaw1_RulesChecks.j3 kq a2 a3 t207 t211 t212 x64_44 a0_0 a0_1 a0_2 l0_3 l0_4 a0_5 a0_6 l0_7 a0_8 a0_9 a0_10 = some r) ∧ Aside0 (kq ≤ kj31) ∧ Aside0 (wc.heap[gb167]? = some (.cells #[.string a0_0, .int .i64 a0_1, .int .i64 a0_2, (.slice A0_3 l0_3.length c0_3), (.slice A0_4 l0_4.length c0_4), .bool a0_5, .bool a0_6, (.slice A0_7 l0_7.length c0_7), .int .i64 a0_8, .int .i64 a0_9, .int .i64 a0_10] 26 (0, 0))) ∧ Aside0 (Below w.heap.size w wc))
          case first =>
           have H := HC45.out
           clear HC45
           by_cases c48 : t207 = 0
           ·rw [if_pos c48] at H
            have c48b0 : (t207 == 0) = true := beq_iff_eq.mpr c48
            have c48b1 : (t207 != 0) = false := bne_eq_false_iff_eq.mpr c48
            clear c48
            (first | rw [c48b0] | (simp only [i64_w, i32_w]; rw [c48b0]) | skip)
            replace H := Option.bind_eq_some_iff.mp H
            obtain ⟨t213, A490, H⟩ := H
            replace H : (gamehalllaw1_RulesChecks.j3 kj31 a2 a3 t207 t211 t212 (!t213) a0_0 a0_1 a0_2 l0_3 l0_4 a0_5 a0_6 l0_7 a0_8 a0_9 a0_10) = some r := H
            have A49 := Aside0.mk A490
            clear A490
            have H' := Aside0.mk H
            clear H
            go_wp2_with (first | (go_at_call 18; (with_reducible refine (gamehallref1_In.calls a2 0 1 t213 _ A49.out).mono ?_); rintro e w' ⟨rfl, ⟨nd, rfl⟩⟩))
            go_meet
            case rel => exact ⟨_, (!t213), (by first | rfl | (simp; done) | (simp [*]; done)), H', ⟨by have := HJ4.out; have := HJ20.out; have := HJ31.out; first | omega | exact Nat.le_refl _⟩, ⟨by (with_reducible repeat (first | refine blk_drewN ?_ _ | refine blk_drew ?_ | refine blk_alloc ?_ _)); exact BK167.out⟩, ⟨by repeat (first | (with_reducible first | exact HB.out | apply below_alloc | apply pw_below_drewN | apply below_drew1 | refine below_set ?_ GE167.out) | exact HB.out)⟩⟩
           ·rw [if_neg c48] at H
            have c48b0 : (t207 == 0) = false := beq_eq_false_iff_ne.mpr c48
            have c48b1 : (t207 != 0) = true := bne_iff_ne.mpr c48
            (first | rw [c48b0] | (simp only [i64_w, i32_w]; rw [c48b0]) | skip)
            have H' := Aside0.mk H
            clear H
            go_wp2
            go_meet
            case rel => exact ⟨_, (false), (by first | rfl | (simp; done) | (simp [*]; done)), H', ⟨by have := HJ4.out; have := HJ20.out; have := HJ31.out; first | omega | exact Nat.le_refl _⟩, ⟨by (with_reducible repeat (first | refine blk_drewN ?_ _ | refine blk_drew ?_ | refine blk_alloc ?_ _)); exact BK167.out⟩, ⟨by repeat (first | (with_reducible first | exact HB.out | apply below_alloc | apply pw_below_drewN | apply below_drew1 | refine below_set ?_ GE167.out) | exact HB.out)⟩⟩
          case rest =>
           clear HC45
           try clear c1
           try clear c2
           try clear p2
           try clear c3
           try clear c4
           try clear c8
           try clear c8b0
           try clear c8b1
           try clear c11
           try clear c12
           try clear c13
           try clear c14
           try clear c16
           try clear c18
           try clear c27
           try clear c27b0
           try clear c27b1
           try clear c28
           try clear c30
           try clear c36
           try clear c36b0
           try clear c36b1
           try clear c43
           try clear c48
           try clear c48b0
           try clear c48b1
           try clear hcz33_0
           try clear hcz39_0
           try clear hcz41_0
           try clear hcz46_0
           try clear p2
           obtain ⟨kq, x64_44, rfl, HA, HJ44, BK167, HB⟩ := hcut
           cases kq with
           | zero => exact absurd HA.out (by simp [gamehalllaw1_RulesChecks.j3])
           | succ kj44 =>
            have H := HA.out
            clear HA
            simp only [gamehalllaw1_RulesChecks.j3] at H
            have HC50 := Aside0.mk H
            clear H
            go_upto_if 64 with (fail)
            go_cut [11] (fun v11 wc => ∃ (kq : Nat) (x11_49 : Int), v11 = .int .i64 x11_49 ∧ Aside0 (gamehalllaw1_RulesChecks.j4 kq a2 a3 x11_49 t211 t212 a0_0 a0_1 a0_2 l0_3 l0_4 a0_5 a0_6 l0_7 a0_8 a0_9 a0_10 = some r) ∧ Aside0 (kq ≤ kj44) ∧ Aside0 (wc.heap[gb167]? = some (.cells #[.string a0_0, .int .i64 a0_1, .int .i64 a0_2, (.slice A0_3 l0_3.length c0_3), (.slice A0_4 l0_4.length c0_4), .bool a0_5, .bool a0_6, (.slice A0_7 l0_7.length c0_7), .int .i64 a0_8, .int .i64 a0_9, .int .i64 a0_10] 26 (0, 0))) ∧ Aside0 (Below w.heap.size w wc))
            case first =>
             have H := HC50.out
             clear HC50
             by_cases c51 : x64_44 = true
             ·subst c51
              have H1 : (gamehalllaw1_RulesChecks.j4 kj44 a2 a3 1 t211 t212 a0_0 a0_1 a0_2 l0_3 l0_4 a0_5 a0_6 l0_7 a0_8 a0_9 a0_10) = some r := by rw [if_pos rfl] at H; exact H
              clear H
              have H := H1
              clear H1
              have H' := Aside0.mk H
              clear H
              go_wp2
              go_meet
              case rel => exact ⟨_, (1), (by first | rfl | (simp; done) | (simp [*]; done)), H', ⟨by have := HJ4.out; have := HJ20.out; have := HJ31.out; have := HJ44.out; first | omega | exact Nat.le_refl _⟩, ⟨by (with_reducible repeat (first | refine blk_drewN ?_ _ | refine blk_drew ?_ | refine blk_alloc ?_ _)); exact BK167.out⟩, ⟨by repeat (first | (with_reducible first | exact HB.out | apply below_alloc | apply pw_below_drewN | apply below_drew1 | refine below_set ?_ GE167.out) | exact HB.out)⟩⟩
             ·replace c51 := Bool.eq_false_iff.mpr c51
              subst c51
              have H1 : (gamehalllaw1_RulesChecks.j4 kj44 a2 a3 t207 t211 t212 a0_0 a0_1 a0_2 l0_3 l0_4 a0_5 a0_6 l0_7 a0_8 a0_9 a0_10) = some r := by rw [if_neg (show ¬ (false = true) by decide)] at H; exact H
              clear H
              have H := H1
              clear H1
              have H' := Aside0.mk H
              clear H
              go_wp2
              go_meet
              case rel => exact ⟨_, (t207), (by first | rfl | (simp; done) | (simp [*]; done)), H', ⟨by have := HJ4.out; have := HJ20.out; have := HJ31.out; have := HJ44.out; first | omega | exact Nat.le_refl _⟩, ⟨by (with_reducible repeat (first | refine blk_drewN ?_ _ | refine blk_drew ?_ | refine blk_alloc ?_ _)); exact BK167.out⟩, ⟨by repeat (first | (with_reducible first | exact HB.out | apply below_alloc | apply pw_below_drewN | apply below_drew1 | refine below_set ?_ GE167.out) | exact HB.out)⟩⟩
            case rest =>
             clear HC50
             try clear c1
             try clear c2
             try clear p2
             try clear c3
             try clear c4
             try clear c5
             try clear c8
             try clear c8b0
             try clear c8b1
             try clear c11
             try clear c12
             try clear c13
             try clear c14
             try clear c16
             try clear c18
             try clear c27
             try clear c27b0
             try clear c27b1
             try clear c28
             try clear c30
             try clear c36
             try clear c36b0
             try clear c36b1
             try clear c43
             try clear c48
             try clear c48b0
             try clear c48b1
             try clear c51
             try clear hcz33_0
             try clear hcz39_0
             try clear hcz41_0
             try clear hcz46_0
             try clear p2
             obtain ⟨kq, x11_49, rfl, HA, HJ49, BK167, HB⟩ := hcut
             cases kq with
             | zero => exact absurd HA.out (by simp [gamehalllaw1_RulesChecks.j4])
             | succ kj49 =>
              have H := HA.out
              clear HA
              simp only [gamehalllaw1_RulesChecks.j4] at H
              have HC52 := Aside0.mk H
              clear H
              go_upto_region 12 with (fail)
              go_cut [75] (fun v75 wc => ∃ (kq : Nat) (x75_51 : Bool), v75 = .bool x75_51 ∧ Aside0 (gamehalllaw1_RulesChecks.j5 kq a2 a3 x11_49 t211 t212 x75_51 a0_0 a0_1 a0_2 l0_3 l0_4 a0_5 a0_6 l0_7 a0_8 a0_9 a0_10 = some r) ∧ Aside0 (kq ≤ kj49) ∧ Aside0 (wc.heap[gb167]? = some (.cells #[.string a0_0, .int .i64 a0_1, .int .i64 a0_2, (.slice A0_3 l0_3.length c0_3), (.slice A0_4 l0_4.length c0_4), .bool a0_5, .bool a0_6, (.slice A0_7 l0_7.length c0_7), .int .i64 a0_8, .int .i64 a0_9, .int .i64 a0_10] 26 (0, 0))) ∧ Aside0 (Below w.heap.size w wc))
              case first =>
               have H := HC52.out
               clear HC52
               by_cases c53 : x11_49 = 0
               ·rw [if_pos c53] at H
                have c53b0 : (x11_49 == 0) = true := beq_iff_eq.mpr c53
                have c53b1 : (x11_49 != 0) = false := bne_eq_false_iff_eq.mpr c53
                clear c53
                (first | rw [c53b0] | (simp only [i64_w, i32_w]; rw [c53b0]) | skip)
                replace H := Option.bind_eq_some_iff.mp H
                obtain ⟨t214, A540, H⟩ := H
                replace H : (gamehalllaw1_RulesChecks.j5 kj49 a2 a3 x11_49 t211 t212 (!t214) a0_0 a0_1 a0_2 l0_3 l0_4 a0_5 a0_6 l0_7 a0_8 a0_9 a0_10) = some r := H
                have A54 := Aside0.mk A540
                clear A540
                have H' := Aside0.mk H
                clear H
                have hcz55_0 := blkc11 BK167.out
                go_wp2_with (first | (go_at_call 18; (with_reducible refine (gamehallref1_In.calls a3 0 (wrap64 ((l0_4.length : Int) - 1)) t214 _ A54.out).mono ?_); rintro e w' ⟨rfl, ⟨nd, rfl⟩⟩))
                go_meet
                case rel => exact ⟨_, (!t214), (by first | rfl | (simp; done) | (simp [*]; done)), H', ⟨by have := HJ4.out; have := HJ20.out; have := HJ31.out; have := HJ44.out; have := HJ49.out; first | omega | exact Nat.le_refl _⟩, ⟨by (with_reducible repeat (first | refine blk_drewN ?_ _ | refine blk_drew ?_ | refine blk_alloc ?_ _)); exact BK167.out⟩, ⟨by repeat (first | (with_reducible first | exact HB.out | apply below_alloc | apply pw_below_drewN | apply below_drew1 | refine below_set ?_ GE167.out) | exact HB.out)⟩⟩
               ·rw [if_neg c53] at H
                have c53b0 : (x11_49 == 0) = false := beq_eq_false_iff_ne.mpr c53
                have c53b1 : (x11_49 != 0) = true := bne_iff_ne.mpr c53
                (first | rw [c53b0] | (simp only [i64_w, i32_w]; rw [c53b0]) | skip)
                have H' := Aside0.mk H
                clear H
                go_wp2
                go_meet
                case rel => exact ⟨_, (false), (by first | rfl | (simp; done) | (simp [*]; done)), H', ⟨by have := HJ4.out; have := HJ20.out; have := HJ31.out; have := HJ44.out; have := HJ49.out; first | omega | exact Nat.le_refl _⟩, ⟨by (with_reducible repeat (first | refine blk_drewN ?_ _ | refine blk_drew ?_ | refine blk_alloc ?_ _)); exact BK167.out⟩, ⟨by repeat (first | (with_reducible first | exact HB.out | apply below_alloc | apply pw_below_drewN | apply below_drew1 | refine below_set ?_ GE167.out) | exact HB.out)⟩⟩
              case rest =>
               clear HC52
               try clear c1
               try clear c2
               try clear p2
               try clear c3
               try clear c4
               try clear c5
               try clear p6
               try clear c8
               try clear c8b0
               try clear c8b1
               try clear c11
               try clear c12
               try clear c13
               try clear c14
               try clear c16
               try clear c18
               try clear c27
               try clear c27b0
               try clear c27b1
               try clear c28
               try clear c30
               try clear c36
               try clear c36b0
               try clear c36b1
               try clear c43
               try clear c48
               try clear c48b0
               try clear c48b1
               try clear c51
               try clear c53
               try clear c53b0
               try clear c53b1
               try clear hcz33_0
               try clear hcz39_0
               try clear hcz41_0
               try clear hcz46_0
               try clear hcz55_0
               try clear p2
               obtain ⟨kq, x75_51, rfl, HA, HJ51, BK167, HB⟩ := hcut
               cases kq with
               | zero => exact absurd HA.out (by simp [gamehalllaw1_RulesChecks.j5])
               | succ kj51 =>
                have H := HA.out
                clear HA
                simp only [gamehalllaw1_RulesChecks.j5] at H
                by_cases c56 : x75_51 = true
                ·subst c56
                 have H1 : (if 4 = 0 then (if a0_1 = 0 then (none) else (if t212 = 0 then (if a2 = 0 then (if (wrap64 (Int.tdiv a3 a0_1)) = (wrap64 (a0_2 - 1)) then (some (t211 == true)) else (if a2 = 1 then (some (t211 == ((wrap64 (Int.tdiv a3 a0_1)) == 0))) else (some (t211 == false)))) else (if a2 = 1 then (some (t211 == ((wrap64 (Int.tdiv a3 a0_1)) == 0))) else (some (t211 == false)))) else (some false))) else (if t212 = 4 then (some (!t211)) else (some false))) = some r := by rw [if_pos rfl] at H; exact H
                 clear H
                 have H := H1
                 clear H1
                 by_cases c57 : 4 = 0
                 ·exact absurd c57 (by decide)
                 ·rw [if_neg c57] at H
                  have c57b0 : (4 == 0) = false := beq_eq_false_iff_ne.mpr c57
                  have c57b1 : (4 != 0) = true := bne_iff_ne.mpr c57
                  by_cases c70 : t212 = 4
                  ·rw [if_pos c70] at H
                   have c70b0 : (t212 == 4) = true := beq_iff_eq.mpr c70
                   have c70b1 : (t212 != 4) = false := bne_eq_false_iff_eq.mpr c70
                   clear c70
                   obtain rfl := Option.some.inj H
                   go_wp2
                   go_ret
                   exact ⟨by first | rfl | (simp [errW_none, errW_some] <;> rfl) | (simp [*, errW_none, errW_some] <;> rfl), by repeat (first | (with_reducible first | exact HB.out | apply below_alloc | apply pw_below_drewN | apply below_drew1 | refine below_set ?_ GE167.out) | exact HB.out)⟩
                  ·rw [if_neg c70] at H
                   have c70b0 : (t212 == 4) = false := beq_eq_false_iff_ne.mpr c70
                   have c70b1 : (t212 != 4) = true := bne_iff_ne.mpr c70
                   obtain rfl := Option.some.inj H
                   go_wp2
                   go_ret
                   exact ⟨by first | rfl | (simp [errW_none, errW_some] <;> rfl) | (simp [*, errW_none, errW_some] <;> rfl), by repeat (first | (with_reducible first | exact HB.out | apply below_alloc | apply pw_below_drewN | apply below_drew1 | refine below_set ?_ GE167.out) | exact HB.out)⟩
                ·replace c56 := Bool.eq_false_iff.mpr c56
                 subst c56
                 have H1 : (if x11_49 = 0 then (if a0_1 = 0 then (none) else (if t212 = 0 then (if a2 = 0 then (if (wrap64 (Int.tdiv a3 a0_1)) = (wrap64 (a0_2 - 1)) then (some (t211 == true)) else (if a2 = 1 then (some (t211 == ((wrap64 (Int.tdiv a3 a0_1)) == 0))) else (some (t211 == false)))) else (if a2 = 1 then (some (t211 == ((wrap64 (Int.tdiv a3 a0_1)) == 0))) else (some (t211 == false)))) else (some false))) else (if t212 = x11_49 then (some (!t211)) else (some false))) = some r := by rw [if_neg (show ¬ (false = true) by decide)] at H; exact H
                 clear H
                 have H := H1
                 clear H1
                 by_cases c71 : x11_49 = 0
                 ·rw [if_pos c71] at H
                  have c71b0 : (x11_49 == 0) = true := beq_iff_eq.mpr c71
                  have c71b1 : (x11_49 != 0) = false := bne_eq_false_iff_eq.mpr c71
                  clear c71
                  by_cases c72 : a0_1 = 0
                  ·rw [if_pos c72] at H
                   exact absurd H (by simp)
                  ·rw [if_neg c72] at H
                   have c72b0 : (a0_1 == 0) = false := beq_eq_false_iff_ne.mpr c72
                   have c72b1 : (a0_1 != 0) = true := bne_iff_ne.mpr c72
                   by_cases c73 : t212 = 0
                   ·rw [if_pos c73] at H
                    have c73b0 : (t212 == 0) = true := beq_iff_eq.mpr c73
                    have c73b1 : (t212 != 0) = false := bne_eq_false_iff_eq.mpr c73
                    clear c73
                    by_cases c74 : a2 = 0
                    ·rw [if_pos c74] at H
                     have c74b0 : (a2 == 0) = true := beq_iff_eq.mpr c74
                     have c74b1 : (a2 != 0) = false := bne_eq_false_iff_eq.mpr c74
                     clear c74
                     by_cases c75 : (wrap64 (Int.tdiv a3 a0_1)) = (wrap64 (a0_2 - 1))
                     ·rw [if_pos c75] at H
                      have c75b0 : ((wrap64 (Int.tdiv a3 a0_1)) == (wrap64 (a0_2 - 1))) = true := beq_iff_eq.mpr c75
                      have c75b1 : ((wrap64 (Int.tdiv a3 a0_1)) != (wrap64 (a0_2 - 1))) = false := bne_eq_false_iff_eq.mpr c75
                      clear c75
                      obtain rfl := Option.some.inj H
                      have hcz76_0 := blkc11 BK167.out
                      go_wp2
                      go_ret
                      exact ⟨by first | rfl | (simp [errW_none, errW_some] <;> rfl) | (simp [*, errW_none, errW_some] <;> rfl), by repeat (first | (with_reducible first | exact HB.out | apply below_alloc | apply pw_below_drewN | apply below_drew1 | refine below_set ?_ GE167.out) | exact HB.out)⟩
                     ·rw [if_neg c75] at H
                      have c75b0 : ((wrap64 (Int.tdiv a3 a0_1)) == (wrap64 (a0_2 - 1))) = false := beq_eq_false_iff_ne.mpr c75
                      have c75b1 : ((wrap64 (Int.tdiv a3 a0_1)) != (wrap64 (a0_2 - 1))) = true := bne_iff_ne.mpr c75
                      by_cases c77 : a2 = 1
                      ·rw [if_pos c77] at H
                       have c77b0 : (a2 == 1) = true := beq_iff_eq.mpr c77
                       have c77b1 : (a2 != 1) = false := bne_eq_false_iff_eq.mpr c77
                       clear c77
                       obtain rfl := Option.some.inj H
                       have hcz78_0 := blkc11 BK167.out
                       go_wp2
                       go_ret
                       exact ⟨by first | rfl | (simp [errW_none, errW_some] <;> rfl) | (simp [*, errW_none, errW_some] <;> rfl), by repeat (first | (with_reducible first | exact HB.out | apply below_alloc | apply pw_below_drewN | apply below_drew1 | refine below_set ?_ GE167.out) | exact HB.out)⟩
                      ·rw [if_neg c77] at H
                       have c77b0 : (a2 == 1) = false := beq_eq_false_iff_ne.mpr c77
                       have c77b1 : (a2 != 1) = true := bne_iff_ne.mpr c77
                       obtain rfl := Option.some.inj H
                       have hcz79_0 := blkc11 BK167.out
                       go_wp2
                       go_ret
                       exact ⟨by first | rfl | (simp [errW_none, errW_some] <;> rfl) | (simp [*, errW_none, errW_some] <;> rfl), by repeat (first | (with_reducible first | exact HB.out | apply below_alloc | apply pw_below_drewN | apply below_drew1 | refine below_set ?_ GE167.out) | exact HB.out)⟩
                    ·rw [if_neg c74] at H
                     have c74b0 : (a2 == 0) = false := beq_eq_false_iff_ne.mpr c74
                     have c74b1 : (a2 != 0) = true := bne_iff_ne.mpr c74
                     by_cases c80 : a2 = 1
                     ·rw [if_pos c80] at H
                      have c80b0 : (a2 == 1) = true := beq_iff_eq.mpr c80
                      have c80b1 : (a2 != 1) = false := bne_eq_false_iff_eq.mpr c80
                      clear c80
                      obtain rfl := Option.some.inj H
                      have hcz81_0 := blkc11 BK167.out
                      go_wp2
                      go_ret
                      exact ⟨by first | rfl | (simp [errW_none, errW_some] <;> rfl) | (simp [*, errW_none, errW_some] <;> rfl), by repeat (first | (with_reducible first | exact HB.out | apply below_alloc | apply pw_below_drewN | apply below_drew1 | refine below_set ?_ GE167.out) | exact HB.out)⟩
                     ·rw [if_neg c80] at H
                      have c80b0 : (a2 == 1) = false := beq_eq_false_iff_ne.mpr c80
                      have c80b1 : (a2 != 1) = true := bne_iff_ne.mpr c80
                      obtain rfl := Option.some.inj H
                      have hcz82_0 := blkc11 BK167.out
                      go_wp2
                      go_ret
                      exact ⟨by first | rfl | (simp [errW_none, errW_some] <;> rfl) | (simp [*, errW_none, errW_some] <;> rfl), by repeat (first | (with_reducible first | exact HB.out | apply below_alloc | apply pw_below_drewN | apply below_drew1 | refine below_set ?_ GE167.out) | exact HB.out)⟩
                   ·rw [if_neg c73] at H
                    have c73b0 : (t212 == 0) = false := beq_eq_false_iff_ne.mpr c73
                    have c73b1 : (t212 != 0) = true := bne_iff_ne.mpr c73
                    obtain rfl := Option.some.inj H
                    have hcz83_0 := blkc11 BK167.out
                    go_wp2
                    go_ret
                    exact ⟨by first | rfl | (simp [errW_none, errW_some] <;> rfl) | (simp [*, errW_none, errW_some] <;> rfl), by repeat (first | (with_reducible first | exact HB.out | apply below_alloc | apply pw_below_drewN | apply below_drew1 | refine below_set ?_ GE167.out) | exact HB.out)⟩
                 ·rw [if_neg c71] at H
                  have c71b0 : (x11_49 == 0) = false := beq_eq_false_iff_ne.mpr c71
                  have c71b1 : (x11_49 != 0) = true := bne_iff_ne.mpr c71
                  by_cases c84 : t212 = x11_49
                  ·rw [if_pos c84] at H
                   have c84b0 : (t212 == x11_49) = true := beq_iff_eq.mpr c84
                   have c84b1 : (t212 != x11_49) = false := bne_eq_false_iff_eq.mpr c84
                   clear c84
                   obtain rfl := Option.some.inj H
                   go_wp2
                   go_ret
                   exact ⟨by first | rfl | (simp [errW_none, errW_some] <;> rfl) | (simp [*, errW_none, errW_some] <;> rfl), by repeat (first | (with_reducible first | exact HB.out | apply below_alloc | apply pw_below_drewN | apply below_drew1 | refine below_set ?_ GE167.out) | exact HB.out)⟩
                  ·rw [if_neg c84] at H
                   have c84b0 : (t212 == x11_49) = false := beq_eq_false_iff_ne.mpr c84
                   have c84b1 : (t212 != x11_49) = true := bne_iff_ne.mpr c84
                   obtain rfl := Option.some.inj H
                   go_wp2
                   go_ret
                   exact ⟨by first | rfl | (simp [errW_none, errW_some] <;> rfl) | (simp [*, errW_none, errW_some] <;> rfl), by repeat (first | (with_reducible first | exact HB.out | apply below_alloc | apply pw_below_drewN | apply below_drew1 | refine below_set ?_ GE167.out) | exact HB.out)⟩
def wf179 (x : S179) : Prop := ((Lit.int .i64 x.f0).wf = true) ∧ (((Lit.int .i64 x.f1).wf = true) ∧ (((Lit.int .i64 x.f2).wf = true) ∧ (((Lit.int .i64 x.f3).wf = true))))
theorem tells179 {W : World} : Tells Try.prog W 179 k179 wf179 := tells_iso (fun a => ⟨a.1, a.2.1, a.2.2.1, a.2.2.2⟩) (fun _ => rfl) (fun _ h => h) (tells_struct (l := [(3, 0), (3, 1), (3, 2), (3, 3)]) Try.underlying179 (by kernel_rfl) (tellsFs_cons (tells_int Try.underlying3) (by kernel_rfl) (tellsFs_cons (tells_int Try.underlying3) (by kernel_rfl) (tellsFs_cons (tells_int Try.underlying3) (by kernel_rfl) (tellsFs_one (tells_int Try.underlying3) (by kernel_rfl))))) (by kernel_rfl))
def wf136 (x : S136) : Prop := ((Lit.int .u8 x.f0).wf = true) ∧ (((Lit.int .i64 x.f1).wf = true) ∧ (((Lit.int .i64 x.f2).wf = true) ∧ ((x.f3.length * 32 ≤ 140737488351232 ∧ ∀ y_ ∈ x.f3, wf179 y_))))
theorem tells136 {W : World} : Tells Try.prog W 136 k136 wf136 := tells_iso (fun a => ⟨a.1, a.2.1, a.2.2.1, a.2.2.2⟩) (fun _ => rfl) (fun _ h => h) (tells_struct (l := [(5, 0), (3, 1), (3, 2), (134, 3)]) Try.underlying136 (by kernel_rfl) (tellsFs_cons (tells_int Try.underlying5) (by kernel_rfl) (tellsFs_cons (tells_int Try.underlying3) (by kernel_rfl) (tellsFs_cons (tells_int Try.underlying3) (by kernel_rfl) (tellsFs_one (tells_slice Try.underlying134 tells179 (by kernel_rfl) (by kernel_rfl)) (by kernel_rfl))))) (by kernel_rfl))
def wf132 (x : S132) : Prop := ((Lit.int .i64 x.f0).wf = true) ∧ (((Lit.int .i64 x.f1).wf = true) ∧ (((Lit.int .i64 x.f2).wf = true) ∧ ((True))))
theorem tells132 {W : World} : Tells Try.prog W 132 k132 wf132 := tells_iso (fun a => ⟨a.1, a.2.1, a.2.2.1, a.2.2.2⟩) (fun _ => rfl) (fun _ h => h) (tells_struct (l := [(3, 0), (3, 1), (3, 2), (4, 3)]) Try.underlying132 (by kernel_rfl) (tellsFs_cons (tells_int Try.underlying3) (by kernel_rfl) (tellsFs_cons (tells_int Try.underlying3) (by kernel_rfl) (tellsFs_cons (tells_int Try.underlying3) (by kernel_rfl) (tellsFs_one (tells_bool Try.underlying4) (by kernel_rfl))))) (by kernel_rfl))
def wf26 (x : S26) : Prop := (x.f0.size ≤ 140737488351232) ∧ (((Lit.int .i64 x.f1).wf = true) ∧ (((Lit.int .i64 x.f2).wf = true) ∧ ((x.f3.length * 48 ≤ 140737488351232 ∧ ∀ y_ ∈ x.f3, wf136 y_) ∧ ((x.f4.length * 8 ≤ 140737488351232 ∧ ∀ y_ ∈ x.f4, (Lit.int .i64 y_).wf = true) ∧ ((True) ∧ ((True) ∧ ((x.f7.length * 32 ≤ 140737488351232 ∧ ∀ y_ ∈ x.f7, wf132 y_) ∧ (((Lit.int .i64 x.f8).wf = true) ∧ (((Lit.int .i64 x.f9).wf = true) ∧ (((Lit.int .i64 x.f10).wf = true)))))))))))
theorem tells26 {W : World} : Tells Try.prog W 26 k26 wf26 := tells_iso (fun a => ⟨a.1, a.2.1, a.2.2.1, a.2.2.2.1, a.2.2.2.2.1, a.2.2.2.2.2.1, a.2.2.2.2.2.2.1, a.2.2.2.2.2.2.2.1, a.2.2.2.2.2.2.2.2.1, a.2.2.2.2.2.2.2.2.2.1, a.2.2.2.2.2.2.2.2.2.2⟩) (fun _ => rfl) (fun _ h => h) (tells_struct (l := [(9, 0), (3, 1), (3, 2), (22, 3), (23, 4), (4, 5), (4, 6), (24, 7), (3, 8), (3, 9), (3, 10)]) Try.underlying26 (by kernel_rfl) (tellsFs_cons (tells_string Try.underlying9) (by kernel_rfl) (tellsFs_cons (tells_int Try.underlying3) (by kernel_rfl) (tellsFs_cons (tells_int Try.underlying3) (by kernel_rfl) (tellsFs_cons (tells_slice Try.underlying22 tells136 (by kernel_rfl) (by kernel_rfl)) (by kernel_rfl) (tellsFs_cons (tells_slice Try.underlying23 (tells_int Try.underlying3) (by kernel_rfl) (by kernel_rfl)) (by kernel_rfl) (tellsFs_cons (tells_bool Try.underlying4) (by kernel_rfl) (tellsFs_cons (tells_bool Try.underlying4) (by kernel_rfl) (tellsFs_cons (tells_slice Try.underlying24 tells132 (by kernel_rfl) (by kernel_rfl)) (by kernel_rfl) (tellsFs_cons (tells_int Try.underlying3) (by kernel_rfl) (tellsFs_cons (tells_int Try.underlying3) (by kernel_rfl) (tellsFs_one (tells_int Try.underlying3) (by kernel_rfl)))))))))))) (by kernel_rfl))

/-- THE ONE PURE STATEMENT of gamehalllaw1_RulesChecks: yours. -/
def gamehalllaw1_RulesChecks.Pure : Prop := ∀ (x0 : S26) (a1 : ByteArray) (a2 : Int) (a3 : Int), (wf26 x0) → (a1.size ≤ 140737488351232) → ((Lit.int .i64 a2).wf = true) → ((Lit.int .i64 a3).wf = true) → ∃ k, gamehalllaw1_RulesChecks.f k x0.f0 x0.f1 x0.f2 x0.f3 x0.f4 x0.f5 x0.f6 x0.f7 x0.f8 x0.f9 x0.f10 a1 a2 a3 = some true
theorem gamehalllaw1_RulesChecks.walk (P : gamehalllaw1_RulesChecks.Pure) (x0 : S26) (v0 : Array Value) (a1 : ByteArray) (a2 : Int) (a3 : Int) (w : World) (hK0 : k26.K w x0 v0.toList) (w0 : wf26 x0) (w1 : a1.size ≤ 140737488351232) (w2 : (Lit.int .i64 a2).wf = true) (w3 : (Lit.int .i64 a3).wf = true) :
  Calls Try.prog 3 #[.agg v0, .string a1, .int .i64 a2, .int .i64 a3] w fun e w' => e = .returned (.bool true) ∧ Below w.heap.size w w' := by
 obtain ⟨A0_3, c0_3, A0_4, c0_4, A0_7, c0_7, hcs0, hl0_3, hg0_3, hl0_4, hg0_4, hl0_7, hg0_7⟩ := k26_open hK0
 obtain rfl : v0 = #[.string x0.f0, .int .i64 x0.f1, .int .i64 x0.f2, .slice A0_3 x0.f3.length c0_3, .slice A0_4 x0.f4.length c0_4, .bool x0.f5, .bool x0.f6, .slice A0_7 x0.f7.length c0_7, .int .i64 x0.f8, .int .i64 x0.f9, .int .i64 x0.f10] := Array.ext' hcs0
 obtain ⟨k, h⟩ := P x0 a1 a2 a3 w0 w1 w2 w3
 refine (gamehalllaw1_RulesChecks.calls k x0.f0 x0.f1 x0.f2 A0_3 c0_3 x0.f3 A0_4 c0_4 x0.f4 x0.f5 x0.f6 A0_7 c0_7 x0.f7 x0.f8 x0.f9 x0.f10 a1 a2 a3 true w hg0_3 hl0_3 hg0_4 hl0_4 hg0_7 hl0_7 h).mono ?_
 rintro e w' ⟨rfl, hd⟩
 exact ⟨rfl, hd⟩

end Go.Proofs.Yteooljkamebenaa.PRulesChecks
