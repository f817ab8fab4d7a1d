-- Printed by a program of this claim's writer (wip/ext): an extension of the kit's print.
import Derived.Test.YtcncilipmekfhaaPRobinMeetsx0
namespace Go.Proofs.Ytcncilipmekfhaa.PRobinMeets
open Go.RowKit Go.Proofs.YtcncilipmekfhaaW.PrintWords Go.Proofs.YtcncilipmekfhaaW.PrintLast Go.Proofs.YtcncilipmekfhaaW.PrintMore
attribute [local go_sem] max2_int min2_int max_two min_two max_three min_three max_four min_four   -- for this text's walks alone
set_option linter.unusedVariables false
set_option linter.unusedSimpArgs false

/-! ### robin_Rounds: function 30 -/
def robin_Rounds.j0 : Nat → Int → Bool → Bool → Option (Int × Int)
  | 0, _, _, _ => none
  | k + 1, x0, x1, x12 => if x12 = true then (some (0, 4)) else (if x1 = true then (some (wrap64 ((wrap64 ((wrap64 (x0 - 1)) + (Int.tmod x0 2))) * 2), 0)) else (some (wrap64 ((wrap64 (x0 - 1)) + (Int.tmod x0 2)), 0)))
def robin_Rounds.f (k : Nat) (a0 : Int) (a1 : Bool) : Option (Int × Int) := if a0 < 2 then (robin_Rounds.j0 k a0 a1 true) else (robin_Rounds.j0 k a0 a1 (decide (a0 > 32)))
theorem robin_Rounds.mono_l : ∀ k, (∀ y0 y1 y2, LeO (robin_Rounds.j0 k y0 y1 y2) (robin_Rounds.j0 (k + 1) y0 y1 y2))
  | 0 => fun _ _ _ r h => by simp [robin_Rounds.j0] at h
  | k + 1 => by
    have ih0 := robin_Rounds.mono_l k
    · intro y0 y1 y2
      unfold robin_Rounds.j0
      repeat' first
      | (with_reducible exact ih0 _ _ _)
      | (with_reducible exact LeO.refl _)
      | (with_reducible exact LeO.none _)
      | (with_reducible refine LeO.ite ?_ ?_)
      | (with_reducible refine LeO.bind ?_ (fun _ => ?_))
      | exact ih0 _ _ _
      | exact LeO.none _
      | refine LeO.ite ?_ ?_
      | refine LeO.bind ?_ (fun _ => ?_)
theorem robin_Rounds.mono : ∀ a0 a1 k, LeO (robin_Rounds.f k a0 a1) (robin_Rounds.f (k + 1) a0 a1) := by
  intro a0 a1 k
  have ih0 := robin_Rounds.mono_l k
  unfold robin_Rounds.f
  repeat' first
      | (with_reducible exact ih0 _ _ _)
      | (with_reducible exact LeO.refl _)
      | (with_reducible exact LeO.none _)
      | (with_reducible refine LeO.ite ?_ ?_)
      | (with_reducible refine LeO.bind ?_ (fun _ => ?_))
      | exact ih0 _ _ _
      | exact LeO.none _
      | refine LeO.ite ?_ ?_
      | refine LeO.bind ?_ (fun _ => ?_)
set_option maxHeartbeats 8000000 in
set_option maxRecDepth 100000 in
theorem robin_Rounds.calls (k : Nat) (a0 : Int) (a1 : Bool) (r1 : Int) (r2 : Int) (w : World) (h : robin_Rounds.f k a0 a1 = some (r1, r2)) :
    Calls Try.prog 30 #[.int .i64 a0, .bool a1] w fun e w' => e = .returned (.tuple #[.int .i64 r1, .int .i64 r2]) ∧ Drawn0 w w' := by
 have H : (if a0 < 2 then (robin_Rounds.j0 k a0 a1 true) else (robin_Rounds.j0 k a0 a1 (decide (a0 > 32)))) = some (r1, r2) := h
 clear h
 have HC3 := Aside0.mk H
 clear H
 go_enter Try.func30, Try.ntmps30
 go_upto_region 1 with (fail)
 go_cut [12] (fun vs12 wc => ∃ (kq : Nat) (x12_2 : Bool), vs12 = .bool x12_2 ∧ Aside0 (robin_Rounds.j0 kq a0 a1 x12_2 = some (r1, r2)) ∧ Aside0 (kq ≤ k) ∧ Drawn0 w wc)
 case first =>
  have H := HC3.out
  clear HC3
  by_cases c4 : a0 < 2
  ·rw [if_pos c4] at H
   have c4b0 : decide (a0 < 2) = true := decide_eq_true c4
   clear c4
   (first | rw [c4b0] | (simp only [i64_w, i32_w]; rw [c4b0]) | skip)
   have H' := Aside0.mk H
   clear H
   go_wp2
   go_meet
   case rel => exact ⟨_, (true), (xrf), H', ⟨by first | omega | exact Nat.le_refl _⟩, by repeat (first | exact Drawn0.refl _ | apply Drawn0.step)⟩
  ·rw [if_neg c4] at H
   have c4b0 : decide (a0 < 2) = false := decide_eq_false c4
   clear c4
   (first | rw [c4b0] | (simp only [i64_w, i32_w]; rw [c4b0]) | skip)
   have H' := Aside0.mk H
   clear H
   go_wp2
   go_meet
   case rel => exact ⟨_, (decide (a0 > 32)), (xrf), H', ⟨by first | omega | exact Nat.le_refl _⟩, by repeat (first | exact Drawn0.refl _ | apply Drawn0.step)⟩
 case rest =>
  clear HC3
  try clear p2
  try clear c3
  try clear c4
  try clear c4b0
  obtain ⟨kq, x12_2, rfl, HA, HJ2, ⟨mc2, rfl⟩⟩ := hcut
  cases kq with
  | zero => exact absurd HA.out (by simp [robin_Rounds.j0])
  | succ kj2 =>
   have H := HA.out
   clear HA
   simp only [robin_Rounds.j0] at H
   by_cases c5 : x12_2 = true
   ·subst c5
    have H1 : (some (0, 4)) = some (r1, r2) := by rw [if_pos rfl] at H; exact H
    clear H
    have H := H1
    clear H1
    simp only [Option.some.injEq, Prod.mk.injEq] at H
    obtain ⟨rfl, rfl⟩ := H
    go_wp2
    go_ret2
    exact ⟨xrf, by repeat (first | exact Drawn0.refl _ | apply Drawn0.step)⟩
   ·replace c5 := Bool.eq_false_iff.mpr c5
    subst c5
    have H1 : (if a1 = true then (some (wrap64 ((wrap64 ((wrap64 (a0 - 1)) + (Int.tmod a0 2))) * 2), 0)) else (some (wrap64 ((wrap64 (a0 - 1)) + (Int.tmod a0 2)), 0))) = some (r1, r2) := by rw [if_neg (show ¬ (false = true) by decide)] at H; exact H
    clear H
    have H := H1
    clear H1
    by_cases c6 : a1 = true
    ·subst c6
     have H1 : (some (wrap64 ((wrap64 ((wrap64 (a0 - 1)) + (Int.tmod a0 2))) * 2), 0)) = some (r1, r2) := by rw [if_pos rfl] at H; exact H
     clear H
     have H := H1
     clear H1
     simp only [Option.some.injEq, Prod.mk.injEq] at H
     obtain ⟨rfl, rfl⟩ := H
     go_wp2
     go_ret2
     exact ⟨xrf, by repeat (first | exact Drawn0.refl _ | apply Drawn0.step)⟩
    ·replace c6 := Bool.eq_false_iff.mpr c6
     subst c6
     have H1 : (some (wrap64 ((wrap64 (a0 - 1)) + (Int.tmod a0 2)), 0)) = some (r1, r2) := by rw [if_neg (show ¬ (false = true) by decide)] at H; exact H
     clear H
     have H := H1
     clear H1
     simp only [Option.some.injEq, Prod.mk.injEq] at H
     obtain ⟨rfl, rfl⟩ := H
     go_wp2
     go_ret2
     exact ⟨xrf, by repeat (first | exact Drawn0.refl _ | apply Drawn0.step)⟩

/-! ### gamehalllaw3_rounds: function 29 -/
def gamehalllaw3_rounds.f (k : Nat)  : Option (Bool) := (robin_Rounds.f k 2 false).bind fun bt101 => (if bt101.2 = 0 then (some (bt101.1 == 1)) else (some false))
theorem gamehalllaw3_rounds.mono : ∀ k, LeO (gamehalllaw3_rounds.f k ) (gamehalllaw3_rounds.f (k + 1) ) := by
  intro  k
  unfold gamehalllaw3_rounds.f
  repeat' first
      | (with_reducible exact robin_Rounds.mono _ _ _)
      | (with_reducible exact LeO.refl _)
      | (with_reducible exact LeO.none _)
      | (with_reducible refine LeO.ite ?_ ?_)
      | (with_reducible refine LeO.bind ?_ (fun _ => ?_))
      | exact robin_Rounds.mono _ _ _
      | exact LeO.none _
      | refine LeO.ite ?_ ?_
      | refine LeO.bind ?_ (fun _ => ?_)
set_option maxHeartbeats 8000000 in
set_option maxRecDepth 100000 in
theorem gamehalllaw3_rounds.calls (k : Nat)  (r : Bool) (w : World) (h : gamehalllaw3_rounds.f k  = some r) :
    Calls Try.prog 29 #[] w fun e w' => e = .returned (.bool r) ∧ Drawn0 w w' := by
 have H : ((robin_Rounds.f k 2 false).bind fun bt101 => (if bt101.2 = 0 then (some (bt101.1 == 1)) else (some false))) = some r := h
 clear h
 replace H := Option.bind_eq_some_iff.mp H
 obtain ⟨⟨t101, t102⟩, A10, H⟩ := H
 replace H : (if t102 = 0 then (some (t101 == 1)) else (some false)) = some r := H
 have A1 := Aside0.mk A10
 clear A10
 by_cases c2 : t102 = 0
 ·rw [if_pos c2] at H
  have c2b0 : (t102 == 0) = true := beq_iff_eq.mpr c2
  have c2b1 : (t102 != 0) = false := bne_eq_false_iff_eq.mpr c2
  clear c2
  obtain rfl := Option.some.inj H
  go_enter Try.func29, Try.ntmps29
  go_wp2_with (first | ((with_reducible refine gate_callee (f := 30) rfl ?_); refine goesL_ (some 4) rfl rfl Try.func30 (by kernel_rfl) rfl #[.int .i64 2, .bool false] rfl (by (try simp only [List.map_toArray, List.map_cons, List.map_nil]); first | done | rfl | (simp only [List.length_drop, List.length_take]; rfl)) ?_; (with_reducible refine (robin_Rounds.calls k 2 false t101 t102 _ A1.out).mono ?_); rintro e w' ⟨rfl, ⟨nd, rfl⟩⟩; refine ⟨_, rfl, ?_⟩))
  go_ret
  exact ⟨xrf, by repeat (first | exact Drawn0.refl _ | apply Drawn0.step)⟩
 ·rw [if_neg c2] at H
  have c2b0 : (t102 == 0) = false := beq_eq_false_iff_ne.mpr c2
  have c2b1 : (t102 != 0) = true := bne_iff_ne.mpr c2
  obtain rfl := Option.some.inj H
  go_enter Try.func29, Try.ntmps29
  go_wp2_with (first | ((with_reducible refine gate_callee (f := 30) rfl ?_); refine goesL_ (some 4) rfl rfl Try.func30 (by kernel_rfl) rfl #[.int .i64 2, .bool false] rfl (by (try simp only [List.map_toArray, List.map_cons, List.map_nil]); first | done | rfl | (simp only [List.length_drop, List.length_take]; rfl)) ?_; (with_reducible refine (robin_Rounds.calls k 2 false t101 t102 _ A1.out).mono ?_); rintro e w' ⟨rfl, ⟨nd, rfl⟩⟩; refine ⟨_, rfl, ?_⟩))
  go_ret
  exact ⟨xrf, by repeat (first | exact Drawn0.refl _ | apply Drawn0.step)⟩

/-! ### robin_seat: function 57 -/
def robin_seat.f (a0 : Int) (a1 : Int) (a2 : Int) : Option (Int) := if (wrap64 (a0 - 1)) = 0 then (none) else (some (Int.tmod (wrap64 (a1 + a2)) (wrap64 (a0 - 1))))
set_option maxHeartbeats 8000000 in
set_option maxRecDepth 100000 in
theorem robin_seat.calls (a0 : Int) (a1 : Int) (a2 : Int) (r : Int) (w : World) (h : robin_seat.f a0 a1 a2 = some r) :
    Calls Try.prog 57 #[.int .i64 a0, .int .i64 a1, .int .i64 a2] w fun e w' => e = .returned (.int .i64 r) ∧ Drawn0 w w' := by
 have H : (if (wrap64 (a0 - 1)) = 0 then (none) else (some (Int.tmod (wrap64 (a1 + a2)) (wrap64 (a0 - 1))))) = some r := h
 clear h
 by_cases c4 : (wrap64 (a0 - 1)) = 0
 ·rw [if_pos c4] at H
  exact absurd H (by simp)
 ·rw [if_neg c4] at H
  have c4b0 : ((wrap64 (a0 - 1)) == 0) = false := beq_eq_false_iff_ne.mpr c4
  have c4b1 : ((wrap64 (a0 - 1)) != 0) = true := bne_iff_ne.mpr c4
  obtain rfl := Option.some.inj H
  go_enter Try.func57, Try.ntmps57
  go_wp2
  go_ret
  exact ⟨xrf, by repeat (first | exact Drawn0.refl _ | apply Drawn0.step)⟩

/-! ### robin_Round: function 31 -/
mutual
def robin_Round.j0 : Nat → Int → Int → Bool → Option ((List (S61)) × Int)
  | 0, _, _, _ => none
  | k + 1, x0, x2, x34 => if x34 = true then (some (([] : List (S61)), 1)) else (if (wrap64 ((wrap64 (x0 + (Int.tmod x0 2))) - 1)) = 0 then (none) else (if x0 = (wrap64 (x0 + (Int.tmod x0 2))) then ((robin_seat.f (wrap64 (x0 + (Int.tmod x0 2))) (Int.tmod x2 (wrap64 ((wrap64 (x0 + (Int.tmod x0 2))) - 1))) 0).bind fun t105 => (if (Int.tmod (Int.tmod x2 (wrap64 ((wrap64 (x0 + (Int.tmod x0 2))) - 1))) 2) = 1 then (if ([] : List (S61)).length < 8796093022208 then (robin_Round.j1 k (wrap64 (x0 + (Int.tmod x0 2))) (decide (x2 ≥ (wrap64 ((wrap64 (x0 + (Int.tmod x0 2))) - 1)))) (Int.tmod x2 (wrap64 ((wrap64 (x0 + (Int.tmod x0 2))) - 1))) (([] : List (S61)) ++ [(⟨wrap64 ((wrap64 (x0 + (Int.tmod x0 2))) - 1), t105⟩ : S61)])) else (none)) else (if ([] : List (S61)).length < 8796093022208 then (robin_Round.j1 k (wrap64 (x0 + (Int.tmod x0 2))) (decide (x2 ≥ (wrap64 ((wrap64 (x0 + (Int.tmod x0 2))) - 1)))) (Int.tmod x2 (wrap64 ((wrap64 (x0 + (Int.tmod x0 2))) - 1))) (([] : List (S61)) ++ [(⟨t105, wrap64 ((wrap64 (x0 + (Int.tmod x0 2))) - 1)⟩ : S61)])) else (none)))) else (robin_Round.j1 k (wrap64 (x0 + (Int.tmod x0 2))) (decide (x2 ≥ (wrap64 ((wrap64 (x0 + (Int.tmod x0 2))) - 1)))) (Int.tmod x2 (wrap64 ((wrap64 (x0 + (Int.tmod x0 2))) - 1))) ([] : List (S61)))))
def robin_Round.j1 : Nat → Int → Bool → Int → List (S61) → Option ((List (S61)) × Int)
  | 0, _, _, _, _ => none
  | k + 1, x10, x11, x12, x13 => robin_Round.l0 k x10 x11 x12 x13 1
def robin_Round.l0 : Nat → Int → Bool → Int → List (S61) → Int → Option ((List (S61)) × Int)
  | 0, _, _, _, _, _ => none
  | k + 1, x10, x11, x12, x13, x15 => if x15 < (wrap64 (Int.tdiv x10 2)) then ((robin_seat.f x10 x12 x15).bind fun t113 => ((robin_seat.f x10 x12 (wrap64 ((wrap64 (x10 - 1)) - x15))).bind fun t114 => (if (Int.tmod x15 2) = 1 then (if x13.length < 8796093022208 then (robin_Round.l0 k x10 x11 x12 (x13 ++ [(⟨t114, t113⟩ : S61)]) (wrap64 (x15 + 1))) else (none)) else (if x13.length < 8796093022208 then (robin_Round.l0 k x10 x11 x12 (x13 ++ [(⟨t113, t114⟩ : S61)]) (wrap64 (x15 + 1))) else (none))))) else (if x11 = true then (robin_Round.l1 k x13 (x13.length : Int) 0) else (some (x13, 0)))
def robin_Round.l1 : Nat → List (S61) → Int → Int → Option ((List (S61)) × Int)
  | 0, _, _, _ => none
  | k + 1, x13, x100, x101 => if x101 < x100 then (if 0 ≤ x101 then (if x101 < (x13.length : Int) then (robin_Round.l1 k (x13.set (x101 : Int).toNat (⟨(rd_T61 x13 x101).f1, (rd_T61 x13 x101).f0⟩ : S61)) x100 (wrap64 (x101 + 1))) else (none)) else (none)) else (some (x13, 0))
end
def robin_Round.f (k : Nat) (a0 : Int) (a1 : Bool) (a2 : Int) : Option ((List (S61)) × Int) := (robin_Rounds.f k a0 a1).bind fun bt103 => (if bt103.2 = 0 then (if a2 < 0 then (robin_Round.j0 k a0 a2 true) else (robin_Round.j0 k a0 a2 (decide (a2 ≥ bt103.1)))) else (some (([] : List (S61)), bt103.2)))
theorem robin_Round.mono_l : ∀ k, (∀ y0 y1 y2, LeO (robin_Round.j0 k y0 y1 y2) (robin_Round.j0 (k + 1) y0 y1 y2)) ∧ (∀ y0 y1 y2 y3, LeO (robin_Round.j1 k y0 y1 y2 y3) (robin_Round.j1 (k + 1) y0 y1 y2 y3)) ∧ (∀ y0 y1 y2 y3 y4, LeO (robin_Round.l0 k y0 y1 y2 y3 y4) (robin_Round.l0 (k + 1) y0 y1 y2 y3 y4)) ∧ (∀ y0 y1 y2, LeO (robin_Round.l1 k y0 y1 y2) (robin_Round.l1 (k + 1) y0 y1 y2))
  | 0 => ⟨fun _ _ _ r h => by simp [robin_Round.j0] at h, fun _ _ _ _ r h => by simp [robin_Round.j1] at h, fun _ _ _ _ _ r h => by simp [robin_Round.l0] at h, fun _ _ _ r h => by simp [robin_Round.l1] at h⟩
  | k + 1 => by
    obtain ⟨ih0, ih1, ih2, ih3⟩ := robin_Round.mono_l k
    refine ⟨?_, ?_, ?_, ?_⟩
    · intro y0 y1 y2
      unfold robin_Round.j0
      repeat' first
      | (with_reducible exact ih0 _ _ _)
      | (with_reducible exact ih1 _ _ _ _)
      | (with_reducible exact ih2 _ _ _ _ _)
      | (with_reducible exact ih3 _ _ _)
      | (with_reducible exact robin_Rounds.mono _ _ _)
      | (with_reducible exact LeO.refl _)
      | (with_reducible exact LeO.none _)
      | (with_reducible refine LeO.ite ?_ ?_)
      | (with_reducible refine LeO.bind ?_ (fun _ => ?_))
      | exact ih0 _ _ _
      | exact ih1 _ _ _ _
      | exact ih2 _ _ _ _ _
      | exact ih3 _ _ _
      | exact robin_Rounds.mono _ _ _
      | exact LeO.none _
      | refine LeO.ite ?_ ?_
      | refine LeO.bind ?_ (fun _ => ?_)
    · intro y0 y1 y2 y3
      unfold robin_Round.j1
      repeat' first
      | (with_reducible exact ih0 _ _ _)
      | (with_reducible exact ih1 _ _ _ _)
      | (with_reducible exact ih2 _ _ _ _ _)
      | (with_reducible exact ih3 _ _ _)
      | (with_reducible exact robin_Rounds.mono _ _ _)
      | (with_reducible exact LeO.refl _)
      | (with_reducible exact LeO.none _)
      | (with_reducible refine LeO.ite ?_ ?_)
      | (with_reducible refine LeO.bind ?_ (fun _ => ?_))
      | exact ih0 _ _ _
      | exact ih1 _ _ _ _
      | exact ih2 _ _ _ _ _
      | exact ih3 _ _ _
      | exact robin_Rounds.mono _ _ _
      | exact LeO.none _
      | refine LeO.ite ?_ ?_
      | refine LeO.bind ?_ (fun _ => ?_)
    · intro y0 y1 y2 y3 y4
      unfold robin_Round.l0
      repeat' first
      | (with_reducible exact ih0 _ _ _)
      | (with_reducible exact ih1 _ _ _ _)
      | (with_reducible exact ih2 _ _ _ _ _)
      | (with_reducible exact ih3 _ _ _)
      | (with_reducible exact robin_Rounds.mono _ _ _)
      | (with_reducible exact LeO.refl _)
      | (with_reducible exact LeO.none _)
      | (with_reducible refine LeO.ite ?_ ?_)
      | (with_reducible refine LeO.bind ?_ (fun _ => ?_))
      | exact ih0 _ _ _
      | exact ih1 _ _ _ _
      | exact ih2 _ _ _ _ _
      | exact ih3 _ _ _
      | exact robin_Rounds.mono _ _ _
      | exact LeO.none _
      | refine LeO.ite ?_ ?_
      | refine LeO.bind ?_ (fun _ => ?_)
    · intro y0 y1 y2
      unfold robin_Round.l1
      repeat' first
      | (with_reducible exact ih0 _ _ _)
      | (with_reducible exact ih1 _ _ _ _)
      | (with_reducible exact ih2 _ _ _ _ _)
      | (with_reducible exact ih3 _ _ _)
      | (with_reducible exact robin_Rounds.mono _ _ _)
      | (with_reducible exact LeO.refl _)
      | (with_reducible exact LeO.none _)
      | (with_reducible refine LeO.ite ?_ ?_)
      | (with_reducible refine LeO.bind ?_ (fun _ => ?_))
      | exact ih0 _ _ _
      | exact ih1 _ _ _ _
      | exact ih2 _ _ _ _ _
      | exact ih3 _ _ _
      | exact robin_Rounds.mono _ _ _
      | exact LeO.none _
      | refine LeO.ite ?_ ?_
      | refine LeO.bind ?_ (fun _ => ?_)
theorem robin_Round.mono : ∀ a0 a1 a2 k, LeO (robin_Round.f k a0 a1 a2) (robin_Round.f (k + 1) a0 a1 a2) := by
  intro a0 a1 a2 k
  obtain ⟨ih0, ih1, ih2, ih3⟩ := robin_Round.mono_l k
  unfold robin_Round.f
  repeat' first
      | (with_reducible exact ih0 _ _ _)
      | (with_reducible exact ih1 _ _ _ _)
      | (with_reducible exact ih2 _ _ _ _ _)
      | (with_reducible exact ih3 _ _ _)
      | (with_reducible exact robin_Rounds.mono _ _ _)
      | (with_reducible exact LeO.refl _)
      | (with_reducible exact LeO.none _)
      | (with_reducible refine LeO.ite ?_ ?_)
      | (with_reducible refine LeO.bind ?_ (fun _ => ?_))
      | exact ih0 _ _ _
      | exact ih1 _ _ _ _
      | exact ih2 _ _ _ _ _
      | exact ih3 _ _ _
      | exact robin_Rounds.mono _ _ _
      | exact LeO.none _
      | refine LeO.ite ?_ ?_
      | refine LeO.bind ?_ (fun _ => ?_)
set_option maxHeartbeats 8000000 in
set_option maxRecDepth 100000 in
theorem robin_Round.calls (k : Nat) (a0 : Int) (a1 : Bool) (a2 : Int) (r1 : List (S61)) (r2 : Int) (w : World) (h : robin_Round.f k a0 a1 a2 = some (r1, r2)) :
    Calls Try.prog 31 #[.int .i64 a0, .bool a1, .int .i64 a2] w fun e w' => ∃ v0_ : Value, e = .returned (.tuple #[v0_, .int .i64 r2]) ∧ Kd.R k61 61 w' w.heap.size (fun _ => True) v0_ r1 ∧ Below w.heap.size w w' := by
 have hu61 := Try.underlying61
 have HB := Aside0.mk (Below.refl w.heap.size w)
 have hss_ := @isSome_setCell
 have H : ((robin_Rounds.f k a0 a1).bind fun bt103 => (if bt103.2 = 0 then (if a2 < 0 then (robin_Round.j0 k a0 a2 true) else (robin_Round.j0 k a0 a2 (decide (a2 ≥ bt103.1)))) else (some (([] : List (S61)), bt103.2)))) = some (r1, r2) := h
 clear h
 replace H := Option.bind_eq_some_iff.mp H
 obtain ⟨⟨t103, t104⟩, A40, H⟩ := H
 replace H : (if t104 = 0 then (if a2 < 0 then (robin_Round.j0 k a0 a2 true) else (robin_Round.j0 k a0 a2 (decide (a2 ≥ t103)))) else (some (([] : List (S61)), t104))) = some (r1, r2) := H
 have A4 := Aside0.mk A40
 clear A40
 by_cases c5 : t104 = 0
 ·rw [if_pos c5] at H
  have c5b0 : (t104 == 0) = true := beq_iff_eq.mpr c5
  have c5b1 : (t104 != 0) = false := bne_eq_false_iff_eq.mpr c5
  clear c5
  have HC6 := Aside0.mk H
  clear H
  go_enter Try.func31, Try.ntmps31
  go_upto_region 4 with (first | ((with_reducible refine gate_callee (f := 30) rfl ?_); refine goesL_ (some 22) rfl rfl Try.func30 (by kernel_rfl) rfl #[.int .i64 a0, .bool a1] rfl (by (try simp only [List.map_toArray, List.map_cons, List.map_nil]); first | done | rfl | (simp only [List.length_drop, List.length_take]; rfl)) ?_; (with_reducible refine (robin_Rounds.calls k a0 a1 t103 t104 _ A4.out).mono ?_); rintro e w' ⟨rfl, ⟨nd, rfl⟩⟩; refine ⟨_, rfl, ?_⟩))
  (try simp only [Act.put, List.setIfInBounds_toArray, List.set_cons_zero, List.set_cons_succ])
  go_cut [34] (fun vs34 wc => ∃ (kq : Nat) (x34_5 : Bool), vs34 = .bool x34_5 ∧ Aside0 (robin_Round.j0 kq a0 a2 x34_5 = some (r1, r2)) ∧ Aside0 (kq ≤ k) ∧ Aside0 (Below w.heap.size w wc))
  case first =>
   have H := HC6.out
   clear HC6
   by_cases c7 : a2 < 0
   ·rw [if_pos c7] at H
    have c7b0 : decide (a2 < 0) = true := decide_eq_true c7
    clear c7
    (first | rw [c7b0] | (simp only [i64_w, i32_w]; rw [c7b0]) | skip)
    have H' := Aside0.mk H
    clear H
    go_wp2
    go_meet
    case rel => exact ⟨_, (true), (xrf), H', ⟨by first | omega | exact Nat.le_refl _⟩, ⟨xW HB⟩⟩
   ·rw [if_neg c7] at H
    have c7b0 : decide (a2 < 0) = false := decide_eq_false c7
    clear c7
    (first | rw [c7b0] | (simp only [i64_w, i32_w]; rw [c7b0]) | skip)
    have H' := Aside0.mk H
    clear H
    go_wp2
    go_meet
    case rel => exact ⟨_, (decide (a2 ≥ t103)), (xrf), H', ⟨by first | omega | exact Nat.le_refl _⟩, ⟨xW HB⟩⟩
  case rest =>
   clear HC6
   try clear p2
   try clear c3
   try clear c5
   try clear c5b0
   try clear c5b1
   try clear c7
   try clear c7b0
   obtain ⟨kq, x34_5, rfl, HA, HJ5, HB⟩ := hcut
   cases kq with
   | zero => exact absurd HA.out (by simp [robin_Round.j0])
   | succ kj5 =>
    have H := HA.out
    clear HA
    simp only [robin_Round.j0] at H
    by_cases c8 : x34_5 = true
    ·subst c8
     have H1 : (some (([] : List (S61)), 1)) = some (r1, r2) := by rw [if_pos rfl] at H; exact H
     clear H
     have H := H1
     clear H1
     simp only [Option.some.injEq, Prod.mk.injEq] at H
     obtain ⟨rfl, rfl⟩ := H
     go_wp2
     go_ret2
     exact ⟨_, xer, by first | exact Kd.R_nil _ _ _ _ _ | exact Kd.N_nil _ _ _ _ _ | exact Kd.V_nil _ _ _ _ _ | exact Kd.Q_nil _ _ _ _ _ | exact Kd.S_nil _ _ _ _ _, xW HB⟩
    ·replace c8 := Bool.eq_false_iff.mpr c8
     subst c8
     have H1 : (if (wrap64 ((wrap64 (a0 + (Int.tmod a0 2))) - 1)) = 0 then (none) else (if a0 = (wrap64 (a0 + (Int.tmod a0 2))) then ((robin_seat.f (wrap64 (a0 + (Int.tmod a0 2))) (Int.tmod a2 (wrap64 ((wrap64 (a0 + (Int.tmod a0 2))) - 1))) 0).bind fun t105 => (if (Int.tmod (Int.tmod a2 (wrap64 ((wrap64 (a0 + (Int.tmod a0 2))) - 1))) 2) = 1 then (if ([] : List (S61)).length < 8796093022208 then (robin_Round.j1 kj5 (wrap64 (a0 + (Int.tmod a0 2))) (decide (a2 ≥ (wrap64 ((wrap64 (a0 + (Int.tmod a0 2))) - 1)))) (Int.tmod a2 (wrap64 ((wrap64 (a0 + (Int.tmod a0 2))) - 1))) (([] : List (S61)) ++ [(⟨wrap64 ((wrap64 (a0 + (Int.tmod a0 2))) - 1), t105⟩ : S61)])) else (none)) else (if ([] : List (S61)).length < 8796093022208 then (robin_Round.j1 kj5 (wrap64 (a0 + (Int.tmod a0 2))) (decide (a2 ≥ (wrap64 ((wrap64 (a0 + (Int.tmod a0 2))) - 1)))) (Int.tmod a2 (wrap64 ((wrap64 (a0 + (Int.tmod a0 2))) - 1))) (([] : List (S61)) ++ [(⟨t105, wrap64 ((wrap64 (a0 + (Int.tmod a0 2))) - 1)⟩ : S61)])) else (none)))) else (robin_Round.j1 kj5 (wrap64 (a0 + (Int.tmod a0 2))) (decide (a2 ≥ (wrap64 ((wrap64 (a0 + (Int.tmod a0 2))) - 1)))) (Int.tmod a2 (wrap64 ((wrap64 (a0 + (Int.tmod a0 2))) - 1))) ([] : List (S61))))) = some (r1, r2) := by rw [if_neg (show ¬ (false = true) by decide)] at H; exact H
     clear H
     have H := H1
     clear H1
     by_cases c9 : (wrap64 ((wrap64 (a0 + (Int.tmod a0 2))) - 1)) = 0
     ·rw [if_pos c9] at H
      exact absurd H (by simp)
     ·rw [if_neg c9] at H
      have c9b0 : ((wrap64 ((wrap64 (a0 + (Int.tmod a0 2))) - 1)) == 0) = false := beq_eq_false_iff_ne.mpr c9
      have c9b1 : ((wrap64 ((wrap64 (a0 + (Int.tmod a0 2))) - 1)) != 0) = true := bne_iff_ne.mpr c9
      have HC10 := Aside0.mk H
      clear H
      go_upto_if 49 with (fail)
      go_cut [13] (fun vs13 wc => ∃ (kq : Nat) (x13_9 : List (S61)), Aside0 (robin_Round.j1 kq (wrap64 (a0 + (Int.tmod a0 2))) (decide (a2 ≥ (wrap64 ((wrap64 (a0 + (Int.tmod a0 2))) - 1)))) (Int.tmod a2 (wrap64 ((wrap64 (a0 + (Int.tmod a0 2))) - 1))) x13_9 = some (r1, r2)) ∧ Aside0 (kq ≤ kj5) ∧ Aside0 (Kd.R k61 61 wc w.heap.size (fun _ => True) vs13 x13_9) ∧ Aside0 (Below w.heap.size w wc))
      case first =>
       have H := HC10.out
       clear HC10
       by_cases c11 : a0 = (wrap64 (a0 + (Int.tmod a0 2)))
       ·rw [if_pos c11] at H
        have c11b0 : (a0 == (wrap64 (a0 + (Int.tmod a0 2)))) = true := beq_iff_eq.mpr c11
        have c11b1 : (a0 != (wrap64 (a0 + (Int.tmod a0 2)))) = false := bne_eq_false_iff_eq.mpr c11
        clear c11
        (first | rw [c11b0] | (simp only [i64_w, i32_w]; rw [c11b0]) | skip)
        replace H := Option.bind_eq_some_iff.mp H
        obtain ⟨t105, A120, H⟩ := H
        replace H : (if (Int.tmod (Int.tmod a2 (wrap64 ((wrap64 (a0 + (Int.tmod a0 2))) - 1))) 2) = 1 then (if ([] : List (S61)).length < 8796093022208 then (robin_Round.j1 kj5 (wrap64 (a0 + (Int.tmod a0 2))) (decide (a2 ≥ (wrap64 ((wrap64 (a0 + (Int.tmod a0 2))) - 1)))) (Int.tmod a2 (wrap64 ((wrap64 (a0 + (Int.tmod a0 2))) - 1))) (([] : List (S61)) ++ [(⟨wrap64 ((wrap64 (a0 + (Int.tmod a0 2))) - 1), t105⟩ : S61)])) else (none)) else (if ([] : List (S61)).length < 8796093022208 then (robin_Round.j1 kj5 (wrap64 (a0 + (Int.tmod a0 2))) (decide (a2 ≥ (wrap64 ((wrap64 (a0 + (Int.tmod a0 2))) - 1)))) (Int.tmod a2 (wrap64 ((wrap64 (a0 + (Int.tmod a0 2))) - 1))) (([] : List (S61)) ++ [(⟨t105, wrap64 ((wrap64 (a0 + (Int.tmod a0 2))) - 1)⟩ : S61)])) else (none))) = some (r1, r2) := H
        have A12 := Aside0.mk A120
        clear A120
        by_cases c13 : (Int.tmod (Int.tmod a2 (wrap64 ((wrap64 (a0 + (Int.tmod a0 2))) - 1))) 2) = 1
        ·rw [if_pos c13] at H
         have c13b0 : ((Int.tmod (Int.tmod a2 (wrap64 ((wrap64 (a0 + (Int.tmod a0 2))) - 1))) 2) == 1) = true := beq_iff_eq.mpr c13
         have c13b1 : ((Int.tmod (Int.tmod a2 (wrap64 ((wrap64 (a0 + (Int.tmod a0 2))) - 1))) 2) != 1) = false := bne_eq_false_iff_eq.mpr c13
         clear c13
         by_cases c14 : ([] : List (S61)).length < 8796093022208
         ·rw [if_pos c14] at H
          have LMc14 := Aside0.mk c14
          clear c14
          obtain ⟨y107, hy107⟩ : ∃ y_ : List (S61), y_ = (([] : List (S61)) ++ [(⟨wrap64 ((wrap64 (a0 + (Int.tmod a0 2))) - 1), t105⟩ : S61)]) := ⟨_, rfl⟩
          replace H : (robin_Round.j1 kj5 (wrap64 (a0 + (Int.tmod a0 2))) (decide (a2 ≥ (wrap64 ((wrap64 (a0 + (Int.tmod a0 2))) - 1)))) (Int.tmod a2 (wrap64 ((wrap64 (a0 + (Int.tmod a0 2))) - 1))) y107) = some (r1, r2) := by first | (rw [hy107]; with_reducible exact H) | (have H2_ := (Option.bind_some _ _).symm.trans H; rw [hy107]; with_reducible exact H2_) | (have H2_ := (Option.bind_some _ _).symm.trans H; with_reducible exact H2_) | with_reducible exact H | (rw [hy107]; exact H) | exact H
          have Ny107 := Aside0.mk hy107
          clear hy107
          have H' := Aside0.mk H
          clear H
          go_wp2_with (first | ((with_reducible refine gate_callee (f := 57) rfl ?_); refine goesL_ (some 52) rfl rfl Try.func57 (by kernel_rfl) rfl #[.int .i64 (wrap64 (a0 + (Int.tmod a0 2))), .int .i64 (Int.tmod a2 (wrap64 ((wrap64 (a0 + (Int.tmod a0 2))) - 1))), .int .i64 0] rfl (by (try simp only [List.map_toArray, List.map_cons, List.map_nil]); first | done | rfl | (simp only [List.length_drop, List.length_take]; rfl)) ?_; (with_reducible refine (robin_seat.calls (wrap64 (a0 + (Int.tmod a0 2))) (Int.tmod a2 (wrap64 ((wrap64 (a0 + (Int.tmod a0 2))) - 1))) 0 t105 _ A12.out).mono ?_); rintro e w' ⟨rfl, ⟨nd, rfl⟩⟩; refine ⟨_, rfl, ?_⟩; (try (rw [drewN_self wc]; generalize hq_ : World.drewN wc _ = wc; have n0_ : Aside0 (Below w.heap.size w wc) := ⟨by rw [← hq_]; exact (xW HB)⟩; clear HB hq_; have HB := n0_; clear n0_))) | ((with_reducible refine gate_dst (N := 14) rfl ?_); refine box_event ?hg (N := 14) ?hd (cs := #[.int .i64 0, .int .i64 0]) (t := 61) ?hr ?_; (case hd => rfl); (case hg => rfl); (case hr => first | (go_simp; done) | (go_simp; rfl)); intro gb106 hg w15 hbox hb; have BK106 := Aside0.mk (hbox); have GW106 := Aside0.mk (xZ HB hg); have GE106 := Aside0.mk (xZ HB hg); replace HB := Aside0.mk (xS HB hb); clear hb hbox hg; have hcz16_0 := blkc2 BK106.out) | ((with_reducible refine gate_builtin (b := .append) (xs := #[.tmp 64, .tmp 66]) rfl ?_); at_builtin; refine Kd.R_append k61 (w0 := w) w.heap.size rfl (.tmp 64) (.tmp 66) 55 61 (.agg #[(.int .i64 0), (.int .i64 0)]) 16 rfl Try.underlying55 info61 rfl (by decide) (by omega) (.slice none 0 0) ([] : List (S61)) (⟨wrap64 ((wrap64 (a0 + (Int.tmod a0 2))) - 1), t105⟩ : S61) [.int .i64 (wrap64 ((wrap64 (a0 + (Int.tmod a0 2))) - 1)), .int .i64 t105] (fun k_ => k_ ≠ gb106) (fun _ => False) rfl (by first | (go_simp; done) | (go_simp; rfl)) ?aP (fun _ hk => hk.elim) ?aF ?aO ?aB ?aS ?aL ?_; (case aP => exact k61_mkM _ _ _ (⟨wrap64 ((wrap64 (a0 + (Int.tmod a0 2))) - 1), t105⟩ : S61)); (case aB => exact (xW HB)); (case aF => exact (fun k_ hk => Kd.freshB (g := gb106) (o := .cells #[.int .i64 (wrap64 ((wrap64 (a0 + (Int.tmod a0 2))) - 1)), .int .i64 t105] 61 (0, 0)) (xQ BK106) k_ hk)); (case aO => exact ((Kd.R_nil _ _ _ _ (fun k_ => k_ ≠ gb106)))); (case aS => exact (below_size (xW HB))); (case aL => have := LMc14.out; omega); intro v108 w17 ho hb hg hat; rw [← Ny107.out] at ho; have HO109 := Aside0.mk (ho); replace BK106 := Aside0.mk (blk_grown (g := gb106) (o := .cells #[.int .i64 (wrap64 ((wrap64 (a0 + (Int.tmod a0 2))) - 1)), .int .i64 t105] 61 (0, 0)) (xQ BK106) hg (by simp [Value.ownBlock])); replace HB := Aside0.mk (hb); clear ho hb hg hat))
          go_meet
          case rel => exact ⟨_, (y107), H', ⟨by have := HJ5.out; first | omega | exact Nat.le_refl _⟩, ⟨by (with_reducible repeat (first | apply Kd.R_alloc | apply Kd.R_drewN | apply Kd.R_drew)); exact Kd.R_mono HO109.out (fun _ hk => trivial)⟩, ⟨xW HB⟩⟩
         ·rw [if_neg c14] at H
          exact absurd H (by simp)
        ·rw [if_neg c13] at H
         have c13b0 : ((Int.tmod (Int.tmod a2 (wrap64 ((wrap64 (a0 + (Int.tmod a0 2))) - 1))) 2) == 1) = false := beq_eq_false_iff_ne.mpr c13
         have c13b1 : ((Int.tmod (Int.tmod a2 (wrap64 ((wrap64 (a0 + (Int.tmod a0 2))) - 1))) 2) != 1) = true := bne_iff_ne.mpr c13
         by_cases c18 : ([] : List (S61)).length < 8796093022208
         ·rw [if_pos c18] at H
          have LMc18 := Aside0.mk c18
          clear c18
          obtain ⟨y110, hy110⟩ : ∃ y_ : List (S61), y_ = (([] : List (S61)) ++ [(⟨t105, wrap64 ((wrap64 (a0 + (Int.tmod a0 2))) - 1)⟩ : S61)]) := ⟨_, rfl⟩
          replace H : (robin_Round.j1 kj5 (wrap64 (a0 + (Int.tmod a0 2))) (decide (a2 ≥ (wrap64 ((wrap64 (a0 + (Int.tmod a0 2))) - 1)))) (Int.tmod a2 (wrap64 ((wrap64 (a0 + (Int.tmod a0 2))) - 1))) y110) = some (r1, r2) := by first | (rw [hy110]; with_reducible exact H) | (have H2_ := (Option.bind_some _ _).symm.trans H; rw [hy110]; with_reducible exact H2_) | (have H2_ := (Option.bind_some _ _).symm.trans H; with_reducible exact H2_) | with_reducible exact H | (rw [hy110]; exact H) | exact H
          have Ny110 := Aside0.mk hy110
          clear hy110
          have H' := Aside0.mk H
          clear H
          go_wp2_with (first | ((with_reducible refine gate_callee (f := 57) rfl ?_); refine goesL_ (some 52) rfl rfl Try.func57 (by kernel_rfl) rfl #[.int .i64 (wrap64 (a0 + (Int.tmod a0 2))), .int .i64 (Int.tmod a2 (wrap64 ((wrap64 (a0 + (Int.tmod a0 2))) - 1))), .int .i64 0] rfl (by (try simp only [List.map_toArray, List.map_cons, List.map_nil]); first | done | rfl | (simp only [List.length_drop, List.length_take]; rfl)) ?_; (with_reducible refine (robin_seat.calls (wrap64 (a0 + (Int.tmod a0 2))) (Int.tmod a2 (wrap64 ((wrap64 (a0 + (Int.tmod a0 2))) - 1))) 0 t105 _ A12.out).mono ?_); rintro e w' ⟨rfl, ⟨nd, rfl⟩⟩; refine ⟨_, rfl, ?_⟩; (try (rw [drewN_self wc]; generalize hq_ : World.drewN wc _ = wc; have n0_ : Aside0 (Below w.heap.size w wc) := ⟨by rw [← hq_]; exact (xW HB)⟩; clear HB hq_; have HB := n0_; clear n0_))) | ((with_reducible refine gate_dst (N := 14) rfl ?_); refine box_event ?hg (N := 14) ?hd (cs := #[.int .i64 0, .int .i64 0]) (t := 61) ?hr ?_; (case hd => rfl); (case hg => rfl); (case hr => first | (go_simp; done) | (go_simp; rfl)); intro gb106 hg w19 hbox hb; have BK106 := Aside0.mk (hbox); have GW106 := Aside0.mk (xZ HB hg); have GE106 := Aside0.mk (xZ HB hg); replace HB := Aside0.mk (xS HB hb); clear hb hbox hg; have hcz20_0 := blkc2 BK106.out) | ((with_reducible refine gate_builtin (b := .append) (xs := #[.tmp 64, .tmp 66]) rfl ?_); at_builtin; refine Kd.R_append k61 (w0 := w) w.heap.size rfl (.tmp 64) (.tmp 66) 55 61 (.agg #[(.int .i64 0), (.int .i64 0)]) 16 rfl Try.underlying55 info61 rfl (by decide) (by omega) (.slice none 0 0) ([] : List (S61)) (⟨t105, wrap64 ((wrap64 (a0 + (Int.tmod a0 2))) - 1)⟩ : S61) [.int .i64 t105, .int .i64 (wrap64 ((wrap64 (a0 + (Int.tmod a0 2))) - 1))] (fun k_ => k_ ≠ gb106) (fun _ => False) rfl (by first | (go_simp; done) | (go_simp; rfl)) ?aP (fun _ hk => hk.elim) ?aF ?aO ?aB ?aS ?aL ?_; (case aP => exact k61_mkM _ _ _ (⟨t105, wrap64 ((wrap64 (a0 + (Int.tmod a0 2))) - 1)⟩ : S61)); (case aB => exact (xW HB)); (case aF => exact (fun k_ hk => Kd.freshB (g := gb106) (o := .cells #[.int .i64 t105, .int .i64 (wrap64 ((wrap64 (a0 + (Int.tmod a0 2))) - 1))] 61 (0, 0)) (xQ BK106) k_ hk)); (case aO => exact ((Kd.R_nil _ _ _ _ (fun k_ => k_ ≠ gb106)))); (case aS => exact (below_size (xW HB))); (case aL => have := LMc18.out; omega); intro v111 w21 ho hb hg hat; rw [← Ny110.out] at ho; have HO112 := Aside0.mk (ho); replace BK106 := Aside0.mk (blk_grown (g := gb106) (o := .cells #[.int .i64 t105, .int .i64 (wrap64 ((wrap64 (a0 + (Int.tmod a0 2))) - 1))] 61 (0, 0)) (xQ BK106) hg (by simp [Value.ownBlock])); replace HB := Aside0.mk (hb); clear ho hb hg hat))
          go_meet
          case rel => exact ⟨_, (y110), H', ⟨by have := HJ5.out; first | omega | exact Nat.le_refl _⟩, ⟨by (with_reducible repeat (first | apply Kd.R_alloc | apply Kd.R_drewN | apply Kd.R_drew)); exact Kd.R_mono HO112.out (fun _ hk => trivial)⟩, ⟨xW HB⟩⟩
         ·rw [if_neg c18] at H
          exact absurd H (by simp)
       ·rw [if_neg c11] at H
        have c11b0 : (a0 == (wrap64 (a0 + (Int.tmod a0 2)))) = false := beq_eq_false_iff_ne.mpr c11
        have c11b1 : (a0 != (wrap64 (a0 + (Int.tmod a0 2)))) = true := bne_iff_ne.mpr c11
        (first | rw [c11b0] | (simp only [i64_w, i32_w]; rw [c11b0]) | skip)
        have H' := Aside0.mk H
        clear H
        go_wp2
        go_meet
        case rel => exact ⟨_, (([] : List (S61))), H', ⟨by have := HJ5.out; first | omega | exact Nat.le_refl _⟩, ⟨by first | exact Kd.R_nil _ _ _ _ _ | exact Kd.N_nil _ _ _ _ _ | exact Kd.V_nil _ _ _ _ _ | exact Kd.Q_nil _ _ _ _ _ | exact Kd.S_nil _ _ _ _ _⟩, ⟨xW HB⟩⟩
      case rest =>
       clear HC10
       try clear c1
       try clear c2
       try clear p2
       try clear c3
       try clear c5
       try clear c5b0
       try clear c5b1
       try clear p6
       try clear c7
       try clear c7b0
       try clear c8
       try clear c9
       try clear c9b0
       try clear c9b1
       try clear c11
       try clear c11b0
       try clear c11b1
       try clear c13
       try clear c13b0
       try clear c13b1
       try clear c14
       try clear c18
       try clear hcz16_0
       try clear hcz20_0
       try clear p2
       obtain ⟨kq, x13_9, HA, HJ9, HO_13, HB⟩ := hcut
       cases kq with
       | zero => exact absurd HA.out (by simp [robin_Round.j1])
       | succ kj9 =>
        have H := HA.out
        clear HA
        simp only [robin_Round.j1] at H
        have H' := Aside0.mk H
        clear H
        go_wp2
        go_loopg [13, 15] kj9 (fun kq vs13 vs15 w' => ∃ (x13_3 : List (S61)) (x15_3 : Int), vs15 = .int .i64 x15_3 ∧ Aside0 (robin_Round.l0 kq (wrap64 (a0 + (Int.tmod a0 2))) (decide (a2 ≥ (wrap64 ((wrap64 (a0 + (Int.tmod a0 2))) - 1)))) (Int.tmod a2 (wrap64 ((wrap64 (a0 + (Int.tmod a0 2))) - 1))) x13_3 x15_3 = some (r1, r2)) ∧ Aside0 (kq ≤ kj9) ∧ Aside0 (Kd.R k61 61 w' w.heap.size (fun _ => True) vs13 x13_3) ∧ Aside0 (Below w.heap.size w w'))
        case atStart => exact ⟨(x13_9), (1), (xrf), H', ⟨Nat.le_refl _⟩, ⟨by (with_reducible repeat (first | apply Kd.R_alloc | apply Kd.R_drewN | apply Kd.R_drew)); exact HO_13.out⟩, ⟨xW HB⟩⟩
        case round =>
         clear H'
         try clear c1
         try clear c2
         try clear p2
         try clear c3
         try clear c5
         try clear c5b0
         try clear c5b1
         try clear p6
         try clear c7
         try clear c7b0
         try clear c8
         try clear c9
         try clear c9b0
         try clear c9b1
         try clear c11
         try clear c11b0
         try clear c11b1
         try clear c13
         try clear c13b0
         try clear c13b1
         try clear c14
         try clear c18
         try clear hcz16_0
         try clear hcz20_0
         try clear p2
         try clear p6
         obtain ⟨x13_3, x15_3, rfl, HA, HK3, HO_13, HB⟩ := hrel
         cases gk with
         | zero => exact absurd HA.out (by simp [robin_Round.l0])
         | succ k3 =>
          have H := HA.out
          clear HA
          simp only [robin_Round.l0] at H
          by_cases c22 : x15_3 < (wrap64 (Int.tdiv (wrap64 (a0 + (Int.tmod a0 2))) 2))
          ·rw [if_pos c22] at H
           have c22b0 : decide (x15_3 < (wrap64 (Int.tdiv (wrap64 (a0 + (Int.tmod a0 2))) 2))) = true := decide_eq_true c22
           clear c22
           replace H := Option.bind_eq_some_iff.mp H
           obtain ⟨t113, A230, H⟩ := H
           replace H : ((robin_seat.f (wrap64 (a0 + (Int.tmod a0 2))) (Int.tmod a2 (wrap64 ((wrap64 (a0 + (Int.tmod a0 2))) - 1))) (wrap64 ((wrap64 ((wrap64 (a0 + (Int.tmod a0 2))) - 1)) - x15_3))).bind fun t114 => (if (Int.tmod x15_3 2) = 1 then (if x13_3.length < 8796093022208 then (robin_Round.l0 k3 (wrap64 (a0 + (Int.tmod a0 2))) (decide (a2 ≥ (wrap64 ((wrap64 (a0 + (Int.tmod a0 2))) - 1)))) (Int.tmod a2 (wrap64 ((wrap64 (a0 + (Int.tmod a0 2))) - 1))) (x13_3 ++ [(⟨t114, t113⟩ : S61)]) (wrap64 (x15_3 + 1))) else (none)) else (if x13_3.length < 8796093022208 then (robin_Round.l0 k3 (wrap64 (a0 + (Int.tmod a0 2))) (decide (a2 ≥ (wrap64 ((wrap64 (a0 + (Int.tmod a0 2))) - 1)))) (Int.tmod a2 (wrap64 ((wrap64 (a0 + (Int.tmod a0 2))) - 1))) (x13_3 ++ [(⟨t113, t114⟩ : S61)]) (wrap64 (x15_3 + 1))) else (none)))) = some (r1, r2) := H
           have A23 := Aside0.mk A230
           clear A230
           replace H := Option.bind_eq_some_iff.mp H
           obtain ⟨t114, A240, H⟩ := H
           replace H : (if (Int.tmod x15_3 2) = 1 then (if x13_3.length < 8796093022208 then (robin_Round.l0 k3 (wrap64 (a0 + (Int.tmod a0 2))) (decide (a2 ≥ (wrap64 ((wrap64 (a0 + (Int.tmod a0 2))) - 1)))) (Int.tmod a2 (wrap64 ((wrap64 (a0 + (Int.tmod a0 2))) - 1))) (x13_3 ++ [(⟨t114, t113⟩ : S61)]) (wrap64 (x15_3 + 1))) else (none)) else (if x13_3.length < 8796093022208 then (robin_Round.l0 k3 (wrap64 (a0 + (Int.tmod a0 2))) (decide (a2 ≥ (wrap64 ((wrap64 (a0 + (Int.tmod a0 2))) - 1)))) (Int.tmod a2 (wrap64 ((wrap64 (a0 + (Int.tmod a0 2))) - 1))) (x13_3 ++ [(⟨t113, t114⟩ : S61)]) (wrap64 (x15_3 + 1))) else (none))) = some (r1, r2) := H
           have A24 := Aside0.mk A240
           clear A240
           by_cases c25 : (Int.tmod x15_3 2) = 1
           ·rw [if_pos c25] at H
            have c25b0 : ((Int.tmod x15_3 2) == 1) = true := beq_iff_eq.mpr c25
            have c25b1 : ((Int.tmod x15_3 2) != 1) = false := bne_eq_false_iff_eq.mpr c25
            clear c25
            by_cases c26 : x13_3.length < 8796093022208
            ·rw [if_pos c26] at H
             have LMc26 := Aside0.mk c26
             clear c26
             obtain ⟨y116, hy116⟩ : ∃ y_ : List (S61), y_ = (x13_3 ++ [(⟨t114, t113⟩ : S61)]) := ⟨_, rfl⟩
             replace H : (robin_Round.l0 k3 (wrap64 (a0 + (Int.tmod a0 2))) (decide (a2 ≥ (wrap64 ((wrap64 (a0 + (Int.tmod a0 2))) - 1)))) (Int.tmod a2 (wrap64 ((wrap64 (a0 + (Int.tmod a0 2))) - 1))) y116 (wrap64 (x15_3 + 1))) = some (r1, r2) := by first | (rw [hy116]; with_reducible exact H) | (have H2_ := (Option.bind_some _ _).symm.trans H; rw [hy116]; with_reducible exact H2_) | (have H2_ := (Option.bind_some _ _).symm.trans H; with_reducible exact H2_) | with_reducible exact H | (rw [hy116]; exact H) | exact H
             have Ny116 := Aside0.mk hy116
             clear hy116
             have H' := Aside0.mk H
             clear H
             go_wp2_with (first | ((with_reducible refine gate_callee (f := 57) rfl ?_); refine goesL_ (some 77) rfl rfl Try.func57 (by kernel_rfl) rfl #[.int .i64 (wrap64 (a0 + (Int.tmod a0 2))), .int .i64 (Int.tmod a2 (wrap64 ((wrap64 (a0 + (Int.tmod a0 2))) - 1))), .int .i64 x15_3] rfl (by (try simp only [List.map_toArray, List.map_cons, List.map_nil]); first | done | rfl | (simp only [List.length_drop, List.length_take]; rfl)) ?_; (with_reducible refine (robin_seat.calls (wrap64 (a0 + (Int.tmod a0 2))) (Int.tmod a2 (wrap64 ((wrap64 (a0 + (Int.tmod a0 2))) - 1))) x15_3 t113 _ A23.out).mono ?_); rintro e w' ⟨rfl, ⟨nd, rfl⟩⟩; refine ⟨_, rfl, ?_⟩; (try (rw [drewN_self wr]; generalize hq_ : World.drewN wr _ = wr; have n0_ : Aside0 (Kd.R k61 61 wr w.heap.size (fun _ => True) u13 x13_3) := ⟨by rw [← hq_]; exact (by (with_reducible repeat (first | apply Kd.R_alloc | apply Kd.R_drewN | apply Kd.R_drew)); exact HO_13.out)⟩; have n1_ : Aside0 (Below w.heap.size w wr) := ⟨by rw [← hq_]; exact (xW HB)⟩; clear HO_13 HB hq_; have HO_13 := n0_; have HB := n1_; clear n0_ n1_))) | ((with_reducible refine gate_callee (f := 57) rfl ?_); refine goesL_ (some 84) rfl rfl Try.func57 (by kernel_rfl) rfl #[.int .i64 (wrap64 (a0 + (Int.tmod a0 2))), .int .i64 (Int.tmod a2 (wrap64 ((wrap64 (a0 + (Int.tmod a0 2))) - 1))), .int .i64 (wrap64 ((wrap64 ((wrap64 (a0 + (Int.tmod a0 2))) - 1)) - x15_3))] rfl (by (try simp only [List.map_toArray, List.map_cons, List.map_nil]); first | done | rfl | (simp only [List.length_drop, List.length_take]; rfl)) ?_; (with_reducible refine (robin_seat.calls (wrap64 (a0 + (Int.tmod a0 2))) (Int.tmod a2 (wrap64 ((wrap64 (a0 + (Int.tmod a0 2))) - 1))) (wrap64 ((wrap64 ((wrap64 (a0 + (Int.tmod a0 2))) - 1)) - x15_3)) t114 _ A24.out).mono ?_); rintro e w' ⟨rfl, ⟨nd, rfl⟩⟩; refine ⟨_, rfl, ?_⟩; (try (rw [drewN_self wr]; generalize hq_ : World.drewN wr _ = wr; have n0_ : Aside0 (Kd.R k61 61 wr w.heap.size (fun _ => True) u13 x13_3) := ⟨by rw [← hq_]; exact (by (with_reducible repeat (first | apply Kd.R_alloc | apply Kd.R_drewN | apply Kd.R_drew)); exact HO_13.out)⟩; have n1_ : Aside0 (Below w.heap.size w wr) := ⟨by rw [← hq_]; exact (xW HB)⟩; clear HO_13 HB hq_; have HO_13 := n0_; have HB := n1_; clear n0_ n1_))) | ((with_reducible refine gate_dst (N := 16) rfl ?_); refine box_event ?hg (N := 16) ?hd (cs := #[.int .i64 0, .int .i64 0]) (t := 61) ?hr ?_; (case hd => rfl); (case hg => rfl); (case hr => first | (go_simp; done) | (go_simp; rfl)); intro gb115 hg w27 hbox hb; have BK115 := Aside0.mk (hbox); have GW115 := Aside0.mk (xZ HB hg); have GE115 := Aside0.mk (xZ HB hg); replace HO_13 := Aside0.mk (Kd.R_below (Kd.R_elderB (by (with_reducible repeat (first | apply Kd.R_alloc | apply Kd.R_drewN | apply Kd.R_drew)); exact HO_13.out) gb115 (Nat.le_of_eq hg.symm)) hb); replace HB := Aside0.mk (xS HB hb); clear hb hbox hg; have hcz28_0 := blkc2 BK115.out) | ((with_reducible refine gate_builtin (b := .append) (xs := #[.tmp 94, .tmp 96]) rfl ?_); at_builtin; refine Kd.R_append k61 (w0 := w) w.heap.size rfl (.tmp 94) (.tmp 96) 55 61 (.agg #[(.int .i64 0), (.int .i64 0)]) 16 rfl Try.underlying55 info61 rfl (by decide) (by omega) u13 x13_3 (⟨t114, t113⟩ : S61) [.int .i64 t114, .int .i64 t113] (fun k_ => k_ ≠ gb115) (fun _ => False) rfl (by first | (go_simp; done) | (go_simp; rfl)) ?aP (fun _ hk => hk.elim) ?aF ?aO ?aB ?aS ?aL ?_; (case aP => exact k61_mkM _ _ _ (⟨t114, t113⟩ : S61)); (case aB => exact (xW HB)); (case aF => exact (fun k_ hk => Kd.freshB (g := gb115) (o := .cells #[.int .i64 t114, .int .i64 t113] 61 (0, 0)) (xQ BK115) k_ hk)); (case aO => exact (by (with_reducible repeat (first | apply Kd.R_alloc | apply Kd.R_drewN | apply Kd.R_drew)); exact Kd.R_mono (Kd.R_far (p := ⟨gb115, 1, none⟩) (Kd.R_far (p := ⟨gb115, 0, none⟩) (Kd.R_far (p := ⟨gb115, 1, none⟩) (Kd.R_far (p := ⟨gb115, 0, none⟩) (Kd.R_mono HO_13.out (fun k_ hk => (⟨hk, hk.2⟩ : _ ∧ k_ ≠ gb115))) (fun _ hk => hk.2) (.int .i64 t113)) (fun _ hk => hk.2) (.int .i64 t114)) (fun _ hk => hk.2) (.int .i64 t114)) (fun _ hk => hk.2) (.int .i64 t113)) (fun _ hk => hk.1.2))); (case aS => exact (below_size (xW HB))); (case aL => have := LMc26.out; omega); intro v117 w29 ho hb hg hat; rw [← Ny116.out] at ho; have HO118 := Aside0.mk (ho); replace BK115 := Aside0.mk (blk_grown (g := gb115) (o := .cells #[.int .i64 t114, .int .i64 t113] 61 (0, 0)) (xQ BK115) hg (Kd.R_away HO_13.out (fun _ hk => hk.2))); replace HB := Aside0.mk (hb); clear HO_13; clear ho hb hg hat))
             go_roundg k3
             case measure => have := HJ5.out; have := HJ9.out; have := HK3.out; omega
             case rel => exact ⟨(y116), (wrap64 (x15_3 + 1)), (xrf), H', ⟨by have := HJ5.out; have := HJ9.out; have := HK3.out; omega⟩, ⟨by (with_reducible repeat (first | apply Kd.R_alloc | apply Kd.R_drewN | apply Kd.R_drew)); exact Kd.R_mono HO118.out (fun _ hk => trivial)⟩, ⟨xW HB⟩⟩
            ·rw [if_neg c26] at H
             exact absurd H (by simp)
           ·rw [if_neg c25] at H
            have c25b0 : ((Int.tmod x15_3 2) == 1) = false := beq_eq_false_iff_ne.mpr c25
            have c25b1 : ((Int.tmod x15_3 2) != 1) = true := bne_iff_ne.mpr c25
            by_cases c30 : x13_3.length < 8796093022208
            ·rw [if_pos c30] at H
             have LMc30 := Aside0.mk c30
             clear c30
             obtain ⟨y119, hy119⟩ : ∃ y_ : List (S61), y_ = (x13_3 ++ [(⟨t113, t114⟩ : S61)]) := ⟨_, rfl⟩
             replace H : (robin_Round.l0 k3 (wrap64 (a0 + (Int.tmod a0 2))) (decide (a2 ≥ (wrap64 ((wrap64 (a0 + (Int.tmod a0 2))) - 1)))) (Int.tmod a2 (wrap64 ((wrap64 (a0 + (Int.tmod a0 2))) - 1))) y119 (wrap64 (x15_3 + 1))) = some (r1, r2) := by first | (rw [hy119]; with_reducible exact H) | (have H2_ := (Option.bind_some _ _).symm.trans H; rw [hy119]; with_reducible exact H2_) | (have H2_ := (Option.bind_some _ _).symm.trans H; with_reducible exact H2_) | with_reducible exact H | (rw [hy119]; exact H) | exact H
             have Ny119 := Aside0.mk hy119
             clear hy119
             have H' := Aside0.mk H
             clear H
             go_wp2_with (first | ((with_reducible refine gate_callee (f := 57) rfl ?_); refine goesL_ (some 77) rfl rfl Try.func57 (by kernel_rfl) rfl #[.int .i64 (wrap64 (a0 + (Int.tmod a0 2))), .int .i64 (Int.tmod a2 (wrap64 ((wrap64 (a0 + (Int.tmod a0 2))) - 1))), .int .i64 x15_3] rfl (by (try simp only [List.map_toArray, List.map_cons, List.map_nil]); first | done | rfl | (simp only [List.length_drop, List.length_take]; rfl)) ?_; (with_reducible refine (robin_seat.calls (wrap64 (a0 + (Int.tmod a0 2))) (Int.tmod a2 (wrap64 ((wrap64 (a0 + (Int.tmod a0 2))) - 1))) x15_3 t113 _ A23.out).mono ?_); rintro e w' ⟨rfl, ⟨nd, rfl⟩⟩; refine ⟨_, rfl, ?_⟩; (try (rw [drewN_self wr]; generalize hq_ : World.drewN wr _ = wr; have n0_ : Aside0 (Kd.R k61 61 wr w.heap.size (fun _ => True) u13 x13_3) := ⟨by rw [← hq_]; exact (by (with_reducible repeat (first | apply Kd.R_alloc | apply Kd.R_drewN | apply Kd.R_drew)); exact HO_13.out)⟩; have n1_ : Aside0 (Below w.heap.size w wr) := ⟨by rw [← hq_]; exact (xW HB)⟩; clear HO_13 HB hq_; have HO_13 := n0_; have HB := n1_; clear n0_ n1_))) | ((with_reducible refine gate_callee (f := 57) rfl ?_); refine goesL_ (some 84) rfl rfl Try.func57 (by kernel_rfl) rfl #[.int .i64 (wrap64 (a0 + (Int.tmod a0 2))), .int .i64 (Int.tmod a2 (wrap64 ((wrap64 (a0 + (Int.tmod a0 2))) - 1))), .int .i64 (wrap64 ((wrap64 ((wrap64 (a0 + (Int.tmod a0 2))) - 1)) - x15_3))] rfl (by (try simp only [List.map_toArray, List.map_cons, List.map_nil]); first | done | rfl | (simp only [List.length_drop, List.length_take]; rfl)) ?_; (with_reducible refine (robin_seat.calls (wrap64 (a0 + (Int.tmod a0 2))) (Int.tmod a2 (wrap64 ((wrap64 (a0 + (Int.tmod a0 2))) - 1))) (wrap64 ((wrap64 ((wrap64 (a0 + (Int.tmod a0 2))) - 1)) - x15_3)) t114 _ A24.out).mono ?_); rintro e w' ⟨rfl, ⟨nd, rfl⟩⟩; refine ⟨_, rfl, ?_⟩; (try (rw [drewN_self wr]; generalize hq_ : World.drewN wr _ = wr; have n0_ : Aside0 (Kd.R k61 61 wr w.heap.size (fun _ => True) u13 x13_3) := ⟨by rw [← hq_]; exact (by (with_reducible repeat (first | apply Kd.R_alloc | apply Kd.R_drewN | apply Kd.R_drew)); exact HO_13.out)⟩; have n1_ : Aside0 (Below w.heap.size w wr) := ⟨by rw [← hq_]; exact (xW HB)⟩; clear HO_13 HB hq_; have HO_13 := n0_; have HB := n1_; clear n0_ n1_))) | ((with_reducible refine gate_dst (N := 16) rfl ?_); refine box_event ?hg (N := 16) ?hd (cs := #[.int .i64 0, .int .i64 0]) (t := 61) ?hr ?_; (case hd => rfl); (case hg => rfl); (case hr => first | (go_simp; done) | (go_simp; rfl)); intro gb115 hg w31 hbox hb; have BK115 := Aside0.mk (hbox); have GW115 := Aside0.mk (xZ HB hg); have GE115 := Aside0.mk (xZ HB hg); replace HO_13 := Aside0.mk (Kd.R_below (Kd.R_elderB (by (with_reducible repeat (first | apply Kd.R_alloc | apply Kd.R_drewN | apply Kd.R_drew)); exact HO_13.out) gb115 (Nat.le_of_eq hg.symm)) hb); replace HB := Aside0.mk (xS HB hb); clear hb hbox hg; have hcz32_0 := blkc2 BK115.out) | ((with_reducible refine gate_builtin (b := .append) (xs := #[.tmp 94, .tmp 96]) rfl ?_); at_builtin; refine Kd.R_append k61 (w0 := w) w.heap.size rfl (.tmp 94) (.tmp 96) 55 61 (.agg #[(.int .i64 0), (.int .i64 0)]) 16 rfl Try.underlying55 info61 rfl (by decide) (by omega) u13 x13_3 (⟨t113, t114⟩ : S61) [.int .i64 t113, .int .i64 t114] (fun k_ => k_ ≠ gb115) (fun _ => False) rfl (by first | (go_simp; done) | (go_simp; rfl)) ?aP (fun _ hk => hk.elim) ?aF ?aO ?aB ?aS ?aL ?_; (case aP => exact k61_mkM _ _ _ (⟨t113, t114⟩ : S61)); (case aB => exact (xW HB)); (case aF => exact (fun k_ hk => Kd.freshB (g := gb115) (o := .cells #[.int .i64 t113, .int .i64 t114] 61 (0, 0)) (xQ BK115) k_ hk)); (case aO => exact (by (with_reducible repeat (first | apply Kd.R_alloc | apply Kd.R_drewN | apply Kd.R_drew)); exact Kd.R_mono (Kd.R_far (p := ⟨gb115, 1, none⟩) (Kd.R_far (p := ⟨gb115, 0, none⟩) (Kd.R_mono HO_13.out (fun k_ hk => (⟨hk, hk.2⟩ : _ ∧ k_ ≠ gb115))) (fun _ hk => hk.2) (.int .i64 t113)) (fun _ hk => hk.2) (.int .i64 t114)) (fun _ hk => hk.1.2))); (case aS => exact (below_size (xW HB))); (case aL => have := LMc30.out; omega); intro v120 w33 ho hb hg hat; rw [← Ny119.out] at ho; have HO121 := Aside0.mk (ho); replace BK115 := Aside0.mk (blk_grown (g := gb115) (o := .cells #[.int .i64 t113, .int .i64 t114] 61 (0, 0)) (xQ BK115) hg (Kd.R_away HO_13.out (fun _ hk => hk.2))); replace HB := Aside0.mk (hb); clear HO_13; clear ho hb hg hat))
             go_roundg k3
             case measure => have := HJ5.out; have := HJ9.out; have := HK3.out; omega
             case rel => exact ⟨(y119), (wrap64 (x15_3 + 1)), (xrf), H', ⟨by have := HJ5.out; have := HJ9.out; have := HK3.out; omega⟩, ⟨by (with_reducible repeat (first | apply Kd.R_alloc | apply Kd.R_drewN | apply Kd.R_drew)); exact Kd.R_mono HO121.out (fun _ hk => trivial)⟩, ⟨xW HB⟩⟩
            ·rw [if_neg c30] at H
             exact absurd H (by simp)
          ·rw [if_neg c22] at H
           have c22b0 : decide (x15_3 < (wrap64 (Int.tdiv (wrap64 (a0 + (Int.tmod a0 2))) 2))) = false := decide_eq_false c22
           clear c22
           by_cases c34 : (decide (a2 ≥ (wrap64 ((wrap64 (a0 + (Int.tmod a0 2))) - 1)))) = true
           ·rw [if_pos c34] at H
            have c34b0 : (decide (a2 ≥ (wrap64 ((wrap64 (a0 + (Int.tmod a0 2))) - 1)))) = true := c34
            have c34b0q : ((wrap64 ((wrap64 (a0 + (Int.tmod a0 2))) - 1)) ≤ a2) = True := eq_true (of_decide_eq_true c34b0)
            have c34b0p : ¬ (a2 < (wrap64 ((wrap64 (a0 + (Int.tmod a0 2))) - 1))) := Int.not_lt.mpr (of_decide_eq_true c34b0)
            have c34b0r : decide ((wrap64 ((wrap64 (a0 + (Int.tmod a0 2))) - 1)) ≤ a2) = true := decide_eq_true (of_decide_eq_true c34b0)
            clear c34
            have H' := Aside0.mk H
            clear H
            obtain ⟨Ao35, co35, eo35⟩ := Kd.R_slice HO_13.out
            subst eo35
            go_wp2
            go_loopg [101] k3 (fun kq vs101 w' => ∃ (x13_4 : List (S61)) (x101_4 : Int), vs101 = .int .i64 x101_4 ∧ Aside0 (robin_Round.l1 kq x13_4 (x13_3.length : Int) x101_4 = some (r1, r2)) ∧ Aside0 (kq ≤ k3) ∧ Aside0 (Kd.R k61 61 w' w.heap.size (fun _ => True) (.slice Ao35 x13_3.length co35) x13_4) ∧ Aside0 (Below w.heap.size w w'))
            case atStart => exact ⟨(x13_3), (0), (xrf), H', ⟨Nat.le_refl _⟩, ⟨by (with_reducible repeat (first | apply Kd.R_alloc | apply Kd.R_drewN | apply Kd.R_drew)); exact HO_13.out⟩, ⟨xW HB⟩⟩
            case round =>
             clear H'
             try clear c1
             try clear c2
             try clear p2
             try clear c3
             try clear c5
             try clear c5b0
             try clear c5b1
             try clear p6
             try clear c7
             try clear c7b0
             try clear c8
             try clear c9
             try clear c9b0
             try clear c9b1
             try clear c11
             try clear c11b0
             try clear c11b1
             try clear c13
             try clear c13b0
             try clear c13b1
             try clear c14
             try clear c18
             try clear c22
             try clear c22b0
             try clear c25
             try clear c25b0
             try clear c25b1
             try clear c26
             try clear c30
             try clear c31
             try clear c34
             try clear c34b0
             try clear hcz16_0
             try clear hcz20_0
             try clear hcz28_0
             try clear hcz32_0
             try clear p2
             try clear p6
             obtain ⟨x13_4, x101_4, rfl, HA, HK4, HO_13, HB⟩ := hrel
             have hl13_4 := (Kd.R_reads' HO_13.out).1
             rw [hl13_4] at HO_13
             (try simp only [hl13_4])
             cases gk with
             | zero => exact absurd HA.out (by simp [robin_Round.l1])
             | succ k4 =>
              have H := HA.out
              clear HA
              simp only [robin_Round.l1] at H
              by_cases c36 : x101_4 < (x13_3.length : Int)
              ·rw [if_pos c36] at H
               have c36b0 : decide (x101_4 < (x13_3.length : Int)) = true := decide_eq_true c36
               (try (have c36b0l := c36b0; simp only [hl13_4] at c36b0l))
               clear c36
               by_cases c37 : 0 ≤ x101_4
               ·rw [if_pos c37] at H
                have c37b0 : decide (0 ≤ x101_4) = true := decide_eq_true c37
                clear c37
                by_cases c38 : x101_4 < (x13_4.length : Int)
                ·rw [if_pos c38] at H
                 have c38b0 : decide (x101_4 < (x13_4.length : Int)) = true := decide_eq_true c38
                 clear c38
                 obtain ⟨y124, hy124⟩ : ∃ y_ : List (S61), y_ = (x13_4.set (x101_4 : Int).toNat (⟨(rd_T61 x13_4 x101_4).f1, (rd_T61 x13_4 x101_4).f0⟩ : S61)) := ⟨_, rfl⟩
                 replace H : (robin_Round.l1 k4 y124 (x13_3.length : Int) (wrap64 (x101_4 + 1))) = some (r1, r2) := by first | (rw [hy124]; with_reducible exact H) | (have H2_ := (Option.bind_some _ _).symm.trans H; rw [hy124]; with_reducible exact H2_) | (have H2_ := (Option.bind_some _ _).symm.trans H; with_reducible exact H2_) | with_reducible exact H | (rw [hy124]; exact H) | exact H
                 have Ny124 := Aside0.mk hy124
                 clear hy124
                 have H' := Aside0.mk H
                 clear H
                 have p122 : 0 ≤ (x101_4 : Int) := of_decide_eq_true (by first | (with_reducible assumption) | assumption)
                 have q122 : x101_4 < (x13_4.length : Int) := of_decide_eq_true (by first | (with_reducible assumption) | assumption)
                 obtain ⟨ad122, e122, hx122_0, hx122_1⟩ := at_T61 (Kd.R_reads' HO_13.out).2.2 x101_4 p122 q122
                 cases e122
                 replace p122 := eq_true p122
                 replace q122 := eq_true q122
                 go_wp2_with (first | ((with_reducible refine gate_dst (N := 18) rfl ?_); refine box_event ?hg (N := 18) ?hd (cs := #[.int .i64 0, .int .i64 0]) (t := 61) ?hr ?_; (case hd => rfl); (case hg => rfl); (case hr => first | (go_simp; done) | (go_simp; rfl)); intro gb123 hg w40 hbox hb; have BK123 := Aside0.mk (hbox); have GW123 := Aside0.mk (xZ HB hg); have GE123 := Aside0.mk (xZ HB hg); replace HO_13 := Aside0.mk (Kd.R_below (Kd.R_elderB (by (with_reducible repeat (first | apply Kd.R_alloc | apply Kd.R_drewN | apply Kd.R_drew)); exact HO_13.out) gb123 (Nat.le_of_eq hg.symm)) hb); replace HB := Aside0.mk (xS HB hb); clear hb hbox hg; have hcz41_0 := blkc2 BK123.out) | ((with_reducible refine gate_store (t := 61) (p := 18) rfl ?_); refine store_event (t := 61) (p := 18) (v := ?vo_w42) (w1 := ((w40.setCell ⟨gb123, 0, none⟩ (.int .i64 ((rd_T61 x13_4 x101_4).f0))).setCell ⟨gb123, 1, none⟩ (.int .i64 ((rd_T61 x13_4 x101_4).f1)))) ?hg ?ho ?hn ?hr ?_; (case ho => rfl); (case hg => rfl); (case hn => rfl); (case hr => first | (go_simp; done) | (go_simp; rfl)); intro w42 hw; have n0_ : Aside0 (Kd.R k61 61 w42 w.heap.size (fun k_ => k_ ≠ gb123) (.slice (some ad122) x13_4.length co35) x13_4) := ⟨(by rw [hw]; exact (by (with_reducible repeat (first | apply Kd.R_alloc | apply Kd.R_drewN | apply Kd.R_drew)); exact Kd.R_mono (Kd.R_far (p := ⟨gb123, 1, none⟩) (Kd.R_far (p := ⟨gb123, 0, none⟩) (Kd.R_mono HO_13.out (fun k_ hk => (⟨hk, hk.2⟩ : _ ∧ k_ ≠ gb123))) (fun _ hk => hk.2) (.int .i64 ((rd_T61 x13_4 x101_4).f0))) (fun _ hk => hk.2) (.int .i64 ((rd_T61 x13_4 x101_4).f1))) (fun _ hk => hk.1.2)))⟩; have n1_ : Aside0 (w42.heap[gb123]? = some (.cells #[.int .i64 ((rd_T61 x13_4 x101_4).f0), .int .i64 ((rd_T61 x13_4 x101_4).f1)] 61 (0, 0))) := ⟨(by rw [hw]; exact (xQ BK123))⟩; have n2_ : Aside0 (Below w.heap.size w w42) := ⟨(by rw [hw]; exact (xW HB))⟩; clear hw; clear HO_13; clear BK123; clear HB; have HO_13 := n0_; have BK123 := n1_; have HB := n2_; clear n0_ n1_ n2_; have hcz43_0 := blkc2 BK123.out; have p39 : 0 ≤ (x101_4 : Int) := of_decide_eq_true (by first | (with_reducible assumption) | assumption); have q39 : (x101_4 : Int) < ((x13_4.length : Int) : Int) := of_decide_eq_true (by first | (with_reducible assumption) | assumption); obtain ⟨go39, co39, eo39, gb39, gl39, cl39, HG39⟩ := Kd.R_form HO_13.out (by omega); (first | cases eo39 | (injection eo39 with ea_ en_ ec_; (first | subst ea_ | (injection ea_ with ea_; subst ea_)); subst ec_; clear en_)); have GB39 := Aside0.mk gb39; have GG39 := Aside0.mk HG39; clear gb39 gl39 HG39; (first | simp only [add_plain] at hx122_0 | skip); (first | simp only [add_plain] at hx122_1 | skip); obtain ⟨ce39, hcl39, hM39, hcc39, hfr39⟩ := Kd.R_elem HO_13.out z61 (x101_4 : Int) p39 q39; obtain rfl := k61_openM hM39; have hx39_0 : w42.cell? ⟨go39, (x101_4 : Int).toNat * 2, none⟩ = some (.int .i64 ((rd_T61 x13_4 x101_4).f0)) := hcc39 0 _ rfl; have hx39_1 : w42.cell? ⟨go39, (x101_4 : Int).toNat * 2 + 1, none⟩ = some (.int .i64 ((rd_T61 x13_4 x101_4).f1)) := hcc39 1 _ rfl; have hf39_0 : w42.frozen? ⟨go39, (x101_4 : Int).toNat * 2, none⟩ = false := hfr39 0; have hf39_1 : w42.frozen? ⟨go39, (x101_4 : Int).toNat * 2 + 1, none⟩ = false := hfr39 1; clear hcl39 hcc39 hfr39 hM39; replace p39 := eq_true p39; replace q39 := eq_true q39; have HX44 := Aside0.mk (show Kd.R k61 61 w42 w.heap.size (fun k_ => k_ ≠ gb123) (.slice (some ⟨go39, 0, none⟩) x13_4.length co35) x13_4 from (by (with_reducible repeat (first | apply Kd.R_alloc | apply Kd.R_drewN | apply Kd.R_drew)); exact HO_13.out)); obtain ⟨ce44, hcl44, hM44, hcc44, hfr44⟩ := Kd.R_elem HX44.out z61 (x101_4 : Int) (of_decide_eq_true (by first | (with_reducible assumption) | assumption)) (by have h_ : (x101_4 : Int) < ((x13_4.length : Int) : Int) := of_decide_eq_true (by first | (with_reducible assumption) | assumption); first | exact h_ | (have e_ := (Kd.R_reads' HO_13.out).1; omega) | simpa using h_); obtain rfl := k61_openM hM44; have HP44 := Kd.R_seg HX44.out (x101_4 : Int) (of_decide_eq_true (by first | (with_reducible assumption) | assumption)) (by have h_ : (x101_4 : Int) < ((x13_4.length : Int) : Int) := of_decide_eq_true (by first | (with_reducible assumption) | assumption); first | exact h_ | (have e_ := (Kd.R_reads' HO_13.out).1; omega) | simpa using h_) (seg := [.int .i64 ((rd_T61 x13_4 x101_4).f1), .int .i64 ((rd_T61 x13_4 x101_4).f0)]) (j := 0) hcl44 hcc44 (show 2 ≤ 2 from by decide) (x' := (⟨(rd_T61 x13_4 x101_4).f1, (rd_T61 x13_4 x101_4).f0⟩ : S61)) (k61_mkM _ _ _ (⟨(rd_T61 x13_4 x101_4).f1, (rd_T61 x13_4 x101_4).f0⟩ : S61) ) (fun _ hk => hk); have hx44_0 := hcc44 0 _ rfl; (try simp only [show (k61).sz = 2 from rfl, Nat.mul_one, Nat.add_zero] at hx44_0); have hf44_0 := hfr44 0; (try simp only [show (k61).sz = 2 from rfl, Nat.mul_one, Nat.add_zero] at hf44_0); have hx44_1 := hcc44 1 _ rfl; (try simp only [show (k61).sz = 2 from rfl, Nat.mul_one, Nat.add_zero] at hx44_1); have hf44_1 := hfr44 1; (try simp only [show (k61).sz = 2 from rfl, Nat.mul_one, Nat.add_zero] at hf44_1); clear hcl44 hcc44 hfr44 hM44) | ((with_reducible refine gate_store (t := 61) (p := 113) rfl ?_); refine store_event (t := 61) (p := 113) (v := ?vo_w45) (w1 := ((w42.setCell ⟨go39, (x101_4 : Int).toNat * 2, none⟩ (.int .i64 ((rd_T61 x13_4 x101_4).f1))).setCell ⟨go39, (x101_4 : Int).toNat * 2 + 1, none⟩ (.int .i64 ((rd_T61 x13_4 x101_4).f0)))) ?hg ?ho ?hn ?hr ?_; (case ho => rfl); (case hg => rfl); (case hn => rfl); (case hr => first | (go_simp; done) | (go_simp; rfl)); intro w45 hw; have hg : w42.grownBy w45 (some go39) := (by rw [hw]; exact HP44.2); have hp_ : Kd.R k61 61 w45 w.heap.size (fun k_ => k_ ≠ gb123) (.slice (some ⟨go39, 0, none⟩) x13_4.length co35) y124 := (by rw [hw, Ny124.out]; exact HP44.1); clear HP44; replace HO_13 := Aside0.mk (hp_); replace BK123 := Aside0.mk (blk_grown (g := gb123) (o := .cells #[.int .i64 ((rd_T61 x13_4 x101_4).f0), .int .i64 ((rd_T61 x13_4 x101_4).f1)] 61 (0, 0)) (xK BK123) hg (Kd.R_away HO_13.out (fun _ hk => hk))); replace HB := Aside0.mk ((by rw [hw]; exact below_set (below_set (HB.out) GB39.out) GB39.out : Below w.heap.size w w45)); clear hg hw hp_))
                 (try simp only [← hl13_4])
                 go_roundg k4
                 case measure => have := HJ5.out; have := HJ9.out; have := HK3.out; have := HK4.out; omega
                 case rel => exact ⟨(y124), (wrap64 (x101_4 + 1)), (xrf), H', ⟨by have := HJ5.out; have := HJ9.out; have := HK3.out; have := HK4.out; omega⟩, ⟨by (try simp only [hl13_4]); (with_reducible repeat (first | apply Kd.R_alloc | apply Kd.R_drewN | apply Kd.R_drew)); exact Kd.R_mono HO_13.out (fun _ hk => trivial)⟩, ⟨xW HB⟩⟩
                ·rw [if_neg c38] at H
                 exact absurd H (by simp)
               ·rw [if_neg c37] at H
                exact absurd H (by simp)
              ·rw [if_neg c36] at H
               have c36b0 : decide (x101_4 < (x13_3.length : Int)) = false := decide_eq_false c36
               (try (have c36b0l := c36b0; simp only [hl13_4] at c36b0l))
               clear c36
               simp only [Option.some.injEq, Prod.mk.injEq] at H
               obtain ⟨rfl, rfl⟩ := H
               go_wp2
               go_ret2
               exact ⟨_, xer, by (with_reducible repeat (first | apply Kd.R_alloc | apply Kd.R_drewN | apply Kd.R_drew)); exact HO_13.out, xW HB⟩
           ·rw [if_neg c34] at H
            have c34b0 : (decide (a2 ≥ (wrap64 ((wrap64 (a0 + (Int.tmod a0 2))) - 1)))) = false := by simpa using c34
            have c34b0q : ((wrap64 ((wrap64 (a0 + (Int.tmod a0 2))) - 1)) ≤ a2) = False := eq_false (of_decide_eq_false c34b0)
            have c34b0p : ¬ ((wrap64 ((wrap64 (a0 + (Int.tmod a0 2))) - 1)) ≤ a2) := of_decide_eq_false c34b0
            have c34b0r : decide ((wrap64 ((wrap64 (a0 + (Int.tmod a0 2))) - 1)) ≤ a2) = false := decide_eq_false (of_decide_eq_false c34b0)
            clear c34
            simp only [Option.some.injEq, Prod.mk.injEq] at H
            obtain ⟨rfl, rfl⟩ := H
            go_wp2
            go_ret2
            exact ⟨_, xer, by (with_reducible repeat (first | apply Kd.R_alloc | apply Kd.R_drewN | apply Kd.R_drew)); exact HO_13.out, xW HB⟩
 ·rw [if_neg c5] at H
  have c5b0 : (t104 == 0) = false := beq_eq_false_iff_ne.mpr c5
  have c5b1 : (t104 != 0) = true := bne_iff_ne.mpr c5
  simp only [Option.some.injEq, Prod.mk.injEq] at H
  obtain ⟨rfl, rfl⟩ := H
  go_enter Try.func31, Try.ntmps31
  go_wp2_with (first | ((with_reducible refine gate_callee (f := 30) rfl ?_); refine goesL_ (some 22) rfl rfl Try.func30 (by kernel_rfl) rfl #[.int .i64 a0, .bool a1] rfl (by (try simp only [List.map_toArray, List.map_cons, List.map_nil]); first | done | rfl | (simp only [List.length_drop, List.length_take]; rfl)) ?_; (with_reducible refine (robin_Rounds.calls k a0 a1 t103 t104 _ A4.out).mono ?_); rintro e w' ⟨rfl, ⟨nd, rfl⟩⟩; refine ⟨_, rfl, ?_⟩))
  go_ret2
  exact ⟨_, xer, by first | exact Kd.R_nil _ _ _ _ _ | exact Kd.N_nil _ _ _ _ _ | exact Kd.V_nil _ _ _ _ _ | exact Kd.Q_nil _ _ _ _ _ | exact Kd.S_nil _ _ _ _ _, xW HB⟩

/-! ### robin_Bye: function 32 -/
def robin_Bye.j0 : Nat → Int → Int → Bool → Option (Int × Int)
  | 0, _, _, _ => none
  | k + 1, x0, x2, x25 => if x25 = true then (some (0, 1)) else (if (Int.tmod x0 2) = 0 then (some ((-1), 0)) else (if x0 = 0 then (none) else ((robin_seat.f (wrap64 (x0 + 1)) (Int.tmod x2 x0) 0).bind fun t127 => (some (t127, 0)))))
def robin_Bye.f (k : Nat) (a0 : Int) (a1 : Bool) (a2 : Int) : Option (Int × Int) := (robin_Rounds.f k a0 a1).bind fun bt125 => (if bt125.2 = 0 then (if a2 < 0 then (robin_Bye.j0 k a0 a2 true) else (robin_Bye.j0 k a0 a2 (decide (a2 ≥ bt125.1)))) else (some (0, bt125.2)))
theorem robin_Bye.mono_l : ∀ k, (∀ y0 y1 y2, LeO (robin_Bye.j0 k y0 y1 y2) (robin_Bye.j0 (k + 1) y0 y1 y2))
  | 0 => fun _ _ _ r h => by simp [robin_Bye.j0] at h
  | k + 1 => by
    have ih0 := robin_Bye.mono_l k
    · intro y0 y1 y2
      unfold robin_Bye.j0
      repeat' first
      | (with_reducible exact ih0 _ _ _)
      | (with_reducible exact robin_Rounds.mono _ _ _)
      | (with_reducible exact LeO.refl _)
      | (with_reducible exact LeO.none _)
      | (with_reducible refine LeO.ite ?_ ?_)
      | (with_reducible refine LeO.bind ?_ (fun _ => ?_))
      | exact ih0 _ _ _
      | exact robin_Rounds.mono _ _ _
      | exact LeO.none _
      | refine LeO.ite ?_ ?_
      | refine LeO.bind ?_ (fun _ => ?_)
theorem robin_Bye.mono : ∀ a0 a1 a2 k, LeO (robin_Bye.f k a0 a1 a2) (robin_Bye.f (k + 1) a0 a1 a2) := by
  intro a0 a1 a2 k
  have ih0 := robin_Bye.mono_l k
  unfold robin_Bye.f
  repeat' first
      | (with_reducible exact ih0 _ _ _)
      | (with_reducible exact robin_Rounds.mono _ _ _)
      | (with_reducible exact LeO.refl _)
      | (with_reducible exact LeO.none _)
      | (with_reducible refine LeO.ite ?_ ?_)
      | (with_reducible refine LeO.bind ?_ (fun _ => ?_))
      | exact ih0 _ _ _
      | exact robin_Rounds.mono _ _ _
      | exact LeO.none _
      | refine LeO.ite ?_ ?_
      | refine LeO.bind ?_ (fun _ => ?_)
set_option maxHeartbeats 8000000 in
set_option maxRecDepth 100000 in
theorem robin_Bye.calls (k : Nat) (a0 : Int) (a1 : Bool) (a2 : Int) (r1 : Int) (r2 : Int) (w : World) (h : robin_Bye.f k a0 a1 a2 = some (r1, r2)) :
    Calls Try.prog 32 #[.int .i64 a0, .bool a1, .int .i64 a2] w fun e w' => e = .returned (.tuple #[.int .i64 r1, .int .i64 r2]) ∧ Drawn0 w w' := by
 have H : ((robin_Rounds.f k a0 a1).bind fun bt125 => (if bt125.2 = 0 then (if a2 < 0 then (robin_Bye.j0 k a0 a2 true) else (robin_Bye.j0 k a0 a2 (decide (a2 ≥ bt125.1)))) else (some (0, bt125.2)))) = some (r1, r2) := h
 clear h
 replace H := Option.bind_eq_some_iff.mp H
 obtain ⟨⟨t125, t126⟩, A40, H⟩ := H
 replace H : (if t126 = 0 then (if a2 < 0 then (robin_Bye.j0 k a0 a2 true) else (robin_Bye.j0 k a0 a2 (decide (a2 ≥ t125)))) else (some (0, t126))) = some (r1, r2) := H
 have A4 := Aside0.mk A40
 clear A40
 by_cases c5 : t126 = 0
 ·rw [if_pos c5] at H
  have c5b0 : (t126 == 0) = true := beq_iff_eq.mpr c5
  have c5b1 : (t126 != 0) = false := bne_eq_false_iff_eq.mpr c5
  clear c5
  have HC6 := Aside0.mk H
  clear H
  go_enter Try.func32, Try.ntmps32
  go_upto_region 4 with (first | ((with_reducible refine gate_callee (f := 30) rfl ?_); refine goesL_ (some 13) rfl rfl Try.func30 (by kernel_rfl) rfl #[.int .i64 a0, .bool a1] rfl (by (try simp only [List.map_toArray, List.map_cons, List.map_nil]); first | done | rfl | (simp only [List.length_drop, List.length_take]; rfl)) ?_; (with_reducible refine (robin_Rounds.calls k a0 a1 t125 t126 _ A4.out).mono ?_); rintro e w' ⟨rfl, ⟨nd, rfl⟩⟩; refine ⟨_, rfl, ?_⟩))
  (try simp only [Act.put, List.setIfInBounds_toArray, List.set_cons_zero, List.set_cons_succ])
  go_cut [25] (fun vs25 wc => ∃ (kq : Nat) (x25_5 : Bool), vs25 = .bool x25_5 ∧ Aside0 (robin_Bye.j0 kq a0 a2 x25_5 = some (r1, r2)) ∧ Aside0 (kq ≤ k) ∧ Drawn0 w wc)
  case first =>
   have H := HC6.out
   clear HC6
   by_cases c7 : a2 < 0
   ·rw [if_pos c7] at H
    have c7b0 : decide (a2 < 0) = true := decide_eq_true c7
    clear c7
    (first | rw [c7b0] | (simp only [i64_w, i32_w]; rw [c7b0]) | skip)
    have H' := Aside0.mk H
    clear H
    go_wp2
    go_meet
    case rel => exact ⟨_, (true), (xrf), H', ⟨by first | omega | exact Nat.le_refl _⟩, by repeat (first | exact Drawn0.refl _ | apply Drawn0.step)⟩
   ·rw [if_neg c7] at H
    have c7b0 : decide (a2 < 0) = false := decide_eq_false c7
    clear c7
    (first | rw [c7b0] | (simp only [i64_w, i32_w]; rw [c7b0]) | skip)
    have H' := Aside0.mk H
    clear H
    go_wp2
    go_meet
    case rel => exact ⟨_, (decide (a2 ≥ t125)), (xrf), H', ⟨by first | omega | exact Nat.le_refl _⟩, by repeat (first | exact Drawn0.refl _ | apply Drawn0.step)⟩
  case rest =>
   clear HC6
   try clear p2
   try clear c3
   try clear c5
   try clear c5b0
   try clear c5b1
   try clear c7
   try clear c7b0
   obtain ⟨kq, x25_5, rfl, HA, HJ5, ⟨mc5, rfl⟩⟩ := hcut
   cases kq with
   | zero => exact absurd HA.out (by simp [robin_Bye.j0])
   | succ kj5 =>
    have H := HA.out
    clear HA
    simp only [robin_Bye.j0] at H
    by_cases c8 : x25_5 = true
    ·subst c8
     have H1 : (some (0, 1)) = some (r1, r2) := by rw [if_pos rfl] at H; exact H
     clear H
     have H := H1
     clear H1
     simp only [Option.some.injEq, Prod.mk.injEq] at H
     obtain ⟨rfl, rfl⟩ := H
     go_wp2
     go_ret2
     exact ⟨xrf, by repeat (first | exact Drawn0.refl _ | apply Drawn0.step)⟩
    ·replace c8 := Bool.eq_false_iff.mpr c8
     subst c8
     have H1 : (if (Int.tmod a0 2) = 0 then (some ((-1), 0)) else (if a0 = 0 then (none) else ((robin_seat.f (wrap64 (a0 + 1)) (Int.tmod a2 a0) 0).bind fun t127 => (some (t127, 0))))) = some (r1, r2) := by rw [if_neg (show ¬ (false = true) by decide)] at H; exact H
     clear H
     have H := H1
     clear H1
     by_cases c9 : (Int.tmod a0 2) = 0
     ·rw [if_pos c9] at H
      have c9b0 : ((Int.tmod a0 2) == 0) = true := beq_iff_eq.mpr c9
      have c9b1 : ((Int.tmod a0 2) != 0) = false := bne_eq_false_iff_eq.mpr c9
      clear c9
      simp only [Option.some.injEq, Prod.mk.injEq] at H
      obtain ⟨rfl, rfl⟩ := H
      go_wp2
      go_ret2
      exact ⟨xrf, by repeat (first | exact Drawn0.refl _ | apply Drawn0.step)⟩
     ·rw [if_neg c9] at H
      have c9b0 : ((Int.tmod a0 2) == 0) = false := beq_eq_false_iff_ne.mpr c9
      have c9b1 : ((Int.tmod a0 2) != 0) = true := bne_iff_ne.mpr c9
      by_cases c10 : a0 = 0
      ·rw [if_pos c10] at H
       exact absurd H (by simp)
      ·rw [if_neg c10] at H
       have c10b0 : (a0 == 0) = false := beq_eq_false_iff_ne.mpr c10
       have c10b1 : (a0 != 0) = true := bne_iff_ne.mpr c10
       replace H := Option.bind_eq_some_iff.mp H
       obtain ⟨t127, A110, H⟩ := H
       replace H : (some (t127, 0)) = some (r1, r2) := H
       have A11 := Aside0.mk A110
       clear A110
       simp only [Option.some.injEq, Prod.mk.injEq] at H
       obtain ⟨rfl, rfl⟩ := H
       go_wp2_with (first | ((with_reducible refine gate_callee (f := 57) rfl ?_); refine goesL_ (some 34) rfl rfl Try.func57 (by kernel_rfl) rfl #[.int .i64 (wrap64 (a0 + 1)), .int .i64 (Int.tmod a2 a0), .int .i64 0] rfl (by (try simp only [List.map_toArray, List.map_cons, List.map_nil]); first | done | rfl | (simp only [List.length_drop, List.length_take]; rfl)) ?_; (with_reducible refine (robin_seat.calls (wrap64 (a0 + 1)) (Int.tmod a2 a0) 0 t127 _ A11.out).mono ?_); rintro e w' ⟨rfl, ⟨nd, rfl⟩⟩; refine ⟨_, rfl, ?_⟩))
       go_ret2
       exact ⟨xrf, by repeat (first | exact Drawn0.refl _ | apply Drawn0.step)⟩
 ·rw [if_neg c5] at H
  have c5b0 : (t126 == 0) = false := beq_eq_false_iff_ne.mpr c5
  have c5b1 : (t126 != 0) = true := bne_iff_ne.mpr c5
  simp only [Option.some.injEq, Prod.mk.injEq] at H
  obtain ⟨rfl, rfl⟩ := H
  go_enter Try.func32, Try.ntmps32
  go_wp2_with (first | ((with_reducible refine gate_callee (f := 30) rfl ?_); refine goesL_ (some 13) rfl rfl Try.func30 (by kernel_rfl) rfl #[.int .i64 a0, .bool a1] rfl (by (try simp only [List.map_toArray, List.map_cons, List.map_nil]); first | done | rfl | (simp only [List.length_drop, List.length_take]; rfl)) ?_; (with_reducible refine (robin_Rounds.calls k a0 a1 t125 t126 _ A4.out).mono ?_); rintro e w' ⟨rfl, ⟨nd, rfl⟩⟩; refine ⟨_, rfl, ?_⟩))
  go_ret2
  exact ⟨xrf, by repeat (first | exact Drawn0.refl _ | apply Drawn0.step)⟩

end Go.Proofs.Ytcncilipmekfhaa.PRobinMeets
