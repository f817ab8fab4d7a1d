-- Printed by a program of this claim's writer (wip/ext): an extension of the kit's print.
import Derived.Test.YtikijopbgjncbaaPSymmMapsx0
namespace Go.Proofs.Ytikijopbgjncbaa.PSymmMaps
open Go.RowKit Go.Proofs.YtikijopbgjncbaaW.PrintWords Go.Proofs.YtikijopbgjncbaaW.PrintLast Go.Proofs.YtikijopbgjncbaaW.PrintMore
attribute [local go_sem] max2_int min2_int max_two min_two max_three min_three max_four min_four   -- for this text's walks alone
set_option linter.unusedVariables false
set_option linter.unusedSimpArgs false

/-! ### gamehallref1_In: function 21 -/
def gamehallref1_In.f (a0 : Int) (a1 : Int) (a2 : Int) : Option (Bool) := if a0 ≥ a1 then (some (decide (a0 ≤ a2))) else (some false)
set_option maxHeartbeats 8000000 in
set_option maxRecDepth 100000 in
theorem gamehallref1_In.calls (a0 : Int) (a1 : Int) (a2 : Int) (r : Bool) (w : World) (h : gamehallref1_In.f a0 a1 a2 = some r) :
    Calls Try.prog 21 #[.int .i64 a0, .int .i64 a1, .int .i64 a2] w fun e w' => e = .returned (.bool r) ∧ Drawn0 w w' := by
 have H : (if a0 ≥ a1 then (some (decide (a0 ≤ a2))) else (some false)) = some r := h
 clear h
 by_cases c4 : a0 ≥ a1
 ·rw [if_pos c4] at H
  have c4b0 : decide (a1 ≤ a0) = true := decide_eq_true c4
  clear c4
  obtain rfl := Option.some.inj H
  go_enter Try.func21, Try.ntmps21
  go_wp2
  go_ret
  exact ⟨xrf, by repeat (first | exact Drawn0.refl _ | apply Drawn0.step)⟩
 ·rw [if_neg c4] at H
  have c4b0 : decide (a1 ≤ a0) = false := decide_eq_false c4
  clear c4
  obtain rfl := Option.some.inj H
  go_enter Try.func21, Try.ntmps21
  go_wp2
  go_ret
  exact ⟨xrf, by repeat (first | exact Drawn0.refl _ | apply Drawn0.step)⟩

/-! ### gamehallref1_Symmetries: function 20 -/
def gamehallref1_Symmetries.j0 : Nat → Int → Int → Bool → Option (Int)
  | 0, _, _, _ => none
  | k + 1, x0, x1, x12 => if x12 = true then (some 0) else (if x0 = x1 then (some 8) else (some 4))
def gamehallref1_Symmetries.f (k : Nat) (a0 : Int) (a1 : Int) : Option (Int) := (gamehallref1_In.f a0 1 8).bind fun t127 => (if t127 = true then ((gamehallref1_In.f a1 1 8).bind fun t128 => (gamehallref1_Symmetries.j0 k a0 a1 (!t128))) else (gamehallref1_Symmetries.j0 k a0 a1 true))
theorem gamehallref1_Symmetries.mono_l : ∀ k, (∀ y0 y1 y2, LeO (gamehallref1_Symmetries.j0 k y0 y1 y2) (gamehallref1_Symmetries.j0 (k + 1) y0 y1 y2))
  | 0 => fun _ _ _ r h => by simp [gamehallref1_Symmetries.j0] at h
  | k + 1 => by
    have ih0 := gamehallref1_Symmetries.mono_l k
    · intros
      unfold gamehallref1_Symmetries.j0
      repeat' first
      | (with_reducible apply ih0)
      | (with_reducible exact LeO.refl _)
      | (with_reducible exact LeO.none _)
      | (with_reducible refine LeO.ite ?_ ?_)
      | (with_reducible refine LeO.bind ?_ (fun _ => ?_))
      | apply ih0
      | exact LeO.none _
      | refine LeO.ite ?_ ?_
      | refine LeO.bind ?_ (fun _ => ?_)
theorem gamehallref1_Symmetries.mono : ∀ a0 a1 k, LeO (gamehallref1_Symmetries.f k a0 a1) (gamehallref1_Symmetries.f (k + 1) a0 a1) := by
  intro a0 a1 k
  have ih0 := gamehallref1_Symmetries.mono_l k
  unfold gamehallref1_Symmetries.f
  repeat' first
      | (with_reducible apply ih0)
      | (with_reducible exact LeO.refl _)
      | (with_reducible exact LeO.none _)
      | (with_reducible refine LeO.ite ?_ ?_)
      | (with_reducible refine LeO.bind ?_ (fun _ => ?_))
      | apply ih0
      | exact LeO.none _
      | refine LeO.ite ?_ ?_
      | refine LeO.bind ?_ (fun _ => ?_)
set_option maxHeartbeats 8000000 in
set_option maxRecDepth 100000 in
theorem gamehallref1_Symmetries.calls (k : Nat) (a0 : Int) (a1 : Int) (r : Int) (w : World) (h : gamehallref1_Symmetries.f k a0 a1 = some r) :
    Calls Try.prog 20 #[.int .i64 a0, .int .i64 a1] w fun e w' => e = .returned (.int .i64 r) ∧ Drawn0 w w' := by
 have H : ((gamehallref1_In.f a0 1 8).bind fun t127 => (if t127 = true then ((gamehallref1_In.f a1 1 8).bind fun t128 => (gamehallref1_Symmetries.j0 k a0 a1 (!t128))) else (gamehallref1_Symmetries.j0 k a0 a1 true))) = some r := h
 clear h; have HC3 := Aside0.mk H; clear H
 go_enter Try.func20, Try.ntmps20
 go_upto_region 1 with (fail)
 go_cut [12] (fun vs12 wc => ∃ (kq : Nat) (x12_2 : Bool), vs12 = .bool x12_2 ∧ Aside0 (gamehallref1_Symmetries.j0 kq a0 a1 x12_2 = some r) ∧ Aside0 (kq ≤ k) ∧ Drawn0 w wc)
 case first =>
  have H := HC3.out; clear HC3; replace H := Option.bind_eq_some_iff.mp H
  obtain ⟨t127, A40, H⟩ := H
  try dsimp only at H
  have A4 := Aside0.mk A40; clear A40
  by_cases c5 : t127 = true
  ·subst c5
   rw [if_pos rfl] at H
   replace H := Option.bind_eq_some_iff.mp H
   obtain ⟨t128, A60, H⟩ := H
   replace H : (gamehallref1_Symmetries.j0 k a0 a1 (!t128)) = some r := H
   have A6 := Aside0.mk A60; clear A60
   have H' := Aside0.mk H
   clear H
   go_wp2_with (first | ((with_reducible refine gate_callee (f := 21) rfl ?_); refine goesL_ (some 6) rfl rfl Try.func21 (by kernel_rfl) rfl #[.int .i64 a0, .int .i64 1, .int .i64 8] rfl (by (try simp only [List.map_toArray, List.map_cons, List.map_nil]); first | done | rfl | (simp only [List.length_drop, List.length_take]; rfl)) ?_; (with_reducible refine (gamehallref1_In.calls a0 1 8 true _ A4.out).mono ?_); rintro e w' ⟨rfl, ⟨nd, rfl⟩⟩; refine ⟨_, rfl, ?_⟩) | (go_at_call 21; (with_reducible refine (gamehallref1_In.calls a1 1 8 t128 _ A6.out).mono ?_); rintro e w' ⟨rfl, ⟨nd, rfl⟩⟩))
   go_meet
   case rel => exact ⟨_, (!t128), (xrf), H', ⟨by first | omega | exact Nat.le_refl _⟩, by repeat (first | exact Drawn0.refl _ | apply Drawn0.step)⟩
  ·replace c5 := Bool.eq_false_iff.mpr c5
   subst c5
   rw [if_neg (show ¬ (false = true) by decide)] at H
   have H' := Aside0.mk H
   clear H
   go_wp2_with (first | ((with_reducible refine gate_callee (f := 21) rfl ?_); refine goesL_ (some 6) rfl rfl Try.func21 (by kernel_rfl) rfl #[.int .i64 a0, .int .i64 1, .int .i64 8] rfl (by (try simp only [List.map_toArray, List.map_cons, List.map_nil]); first | done | rfl | (simp only [List.length_drop, List.length_take]; rfl)) ?_; (with_reducible refine (gamehallref1_In.calls a0 1 8 false _ A4.out).mono ?_); rintro e w' ⟨rfl, ⟨nd, rfl⟩⟩; refine ⟨_, rfl, ?_⟩))
   go_meet
   case rel => exact ⟨_, (true), (xrf), H', ⟨by first | omega | exact Nat.le_refl _⟩, by repeat (first | exact Drawn0.refl _ | apply Drawn0.step)⟩
 case rest =>
  clear HC3; (try clear p2)
  obtain ⟨kq, x12_2, rfl, HA, HJ2, ⟨mc2, rfl⟩⟩ := hcut
  cases kq with
  | zero => exact absurd HA.out (by simp [gamehallref1_Symmetries.j0])
  | succ kj2 =>
   have H := HA.out; clear HA
   simp only [gamehallref1_Symmetries.j0] at H
   by_cases c7 : x12_2 = true
   ·subst c7
    rw [if_pos rfl] at H
    obtain rfl := Option.some.inj H
    go_wp2
    go_ret
    exact ⟨xrf, by repeat (first | exact Drawn0.refl _ | apply Drawn0.step)⟩
   ·replace c7 := Bool.eq_false_iff.mpr c7
    subst c7
    rw [if_neg (show ¬ (false = true) by decide)] at H
    by_cases c8 : a0 = a1
    ·rw [if_pos c8] at H
     have c8b0 : (a0 == a1) = true := beq_iff_eq.mpr c8
     have c8b1 : (a0 != a1) = false := bne_eq_false_iff_eq.mpr c8
     clear c8
     obtain rfl := Option.some.inj H
     go_wp2
     go_ret
     exact ⟨xrf, by repeat (first | exact Drawn0.refl _ | apply Drawn0.step)⟩
    ·rw [if_neg c8] at H
     have c8b0 : (a0 == a1) = false := beq_eq_false_iff_ne.mpr c8
     have c8b1 : (a0 != a1) = true := bne_iff_ne.mpr c8
     obtain rfl := Option.some.inj H
     go_wp2
     go_ret
     exact ⟨xrf, by repeat (first | exact Drawn0.refl _ | apply Drawn0.step)⟩

/-! ### gamehallref1_Moved: function 22 -/
def gamehallref1_Moved.j0 : Nat → Int → Int → Int → Int → Int → Option (Int)
  | 0, _, _, _, _, _ => none
  | k + 1, x0, x1, x2, x9, x10 => if (Int.tmod x2 2) = 1 then (if (Int.tmod (wrap64 (Int.tdiv x2 2)) 2) = 1 then (some (wrap64 ((wrap64 ((wrap64 (x0 - x9)) - 1)) + (wrap64 ((wrap64 ((wrap64 (x1 - x10)) - 1)) * x0))))) else (some (wrap64 ((wrap64 ((wrap64 (x0 - x9)) - 1)) + (wrap64 (x10 * x0)))))) else (if (Int.tmod (wrap64 (Int.tdiv x2 2)) 2) = 1 then (some (wrap64 (x9 + (wrap64 ((wrap64 ((wrap64 (x1 - x10)) - 1)) * x0))))) else (some (wrap64 (x9 + (wrap64 (x10 * x0))))))
def gamehallref1_Moved.f (k : Nat) (a0 : Int) (a1 : Int) (a2 : Int) (a3 : Int) : Option (Int) := if a0 = 0 then (none) else (if a2 ≥ 4 then (gamehallref1_Moved.j0 k a0 a1 a2 (wrap64 (Int.tdiv a3 a0)) (Int.tmod a3 a0)) else (gamehallref1_Moved.j0 k a0 a1 a2 (Int.tmod a3 a0) (wrap64 (Int.tdiv a3 a0))))
theorem gamehallref1_Moved.mono_l : ∀ k, (∀ y0 y1 y2 y3 y4, LeO (gamehallref1_Moved.j0 k y0 y1 y2 y3 y4) (gamehallref1_Moved.j0 (k + 1) y0 y1 y2 y3 y4))
  | 0 => fun _ _ _ _ _ r h => by simp [gamehallref1_Moved.j0] at h
  | k + 1 => by
    have ih0 := gamehallref1_Moved.mono_l k
    · intros
      unfold gamehallref1_Moved.j0
      repeat' first
      | (with_reducible apply ih0)
      | (with_reducible exact LeO.refl _)
      | (with_reducible exact LeO.none _)
      | (with_reducible refine LeO.ite ?_ ?_)
      | (with_reducible refine LeO.bind ?_ (fun _ => ?_))
      | apply ih0
      | exact LeO.none _
      | refine LeO.ite ?_ ?_
      | refine LeO.bind ?_ (fun _ => ?_)
theorem gamehallref1_Moved.mono : ∀ a0 a1 a2 a3 k, LeO (gamehallref1_Moved.f k a0 a1 a2 a3) (gamehallref1_Moved.f (k + 1) a0 a1 a2 a3) := by
  intro a0 a1 a2 a3 k
  have ih0 := gamehallref1_Moved.mono_l k
  unfold gamehallref1_Moved.f
  repeat' first
      | (with_reducible apply ih0)
      | (with_reducible exact LeO.refl _)
      | (with_reducible exact LeO.none _)
      | (with_reducible refine LeO.ite ?_ ?_)
      | (with_reducible refine LeO.bind ?_ (fun _ => ?_))
      | apply ih0
      | exact LeO.none _
      | refine LeO.ite ?_ ?_
      | refine LeO.bind ?_ (fun _ => ?_)
set_option maxHeartbeats 8000000 in
set_option maxRecDepth 100000 in
theorem gamehallref1_Moved.calls (k : Nat) (a0 : Int) (a1 : Int) (a2 : Int) (a3 : Int) (r : Int) (w : World) (h : gamehallref1_Moved.f k a0 a1 a2 a3 = some r) :
    Calls Try.prog 22 #[.int .i64 a0, .int .i64 a1, .int .i64 a2, .int .i64 a3] w fun e w' => e = .returned (.int .i64 r) ∧ Drawn0 w w' := by
 have H : (if a0 = 0 then (none) else (if a2 ≥ 4 then (gamehallref1_Moved.j0 k a0 a1 a2 (wrap64 (Int.tdiv a3 a0)) (Int.tmod a3 a0)) else (gamehallref1_Moved.j0 k a0 a1 a2 (Int.tmod a3 a0) (wrap64 (Int.tdiv a3 a0))))) = some r := h
 clear h
 by_cases c5 : a0 = 0
 ·rw [if_pos c5] at H
  exact absurd H (by simp)
 ·rw [if_neg c5] at H
  have c5b0 : (a0 == 0) = false := beq_eq_false_iff_ne.mpr c5
  have c5b1 : (a0 != 0) = true := bne_iff_ne.mpr c5
  have HC6 := Aside0.mk H; clear H
  go_enter Try.func22, Try.ntmps22
  go_upto_if 18 with (fail)
  repeat (go_quiet (fail); go_upto_if 18 with (fail))
  go_cut [9, 10] (fun vs9 vs10 wc => ∃ (kq : Nat) (x9_5 : Int) (x10_5 : Int), vs9 = .int .i64 x9_5 ∧ vs10 = .int .i64 x10_5 ∧ Aside0 (gamehallref1_Moved.j0 kq a0 a1 a2 x9_5 x10_5 = some r) ∧ Aside0 (kq ≤ k) ∧ Drawn0 w wc)
  case first =>
   have H := HC6.out; clear HC6
   by_cases c7 : a2 ≥ 4
   ·rw [if_pos c7] at H
    have c7b0 : decide (4 ≤ a2) = true := decide_eq_true c7
    clear c7
    (first | rw [c7b0] | (simp only [i64_w, i32_w]; rw [c7b0]) | skip)
    have H' := Aside0.mk H
    clear H
    go_wp2
    repeat (go_quiet (fail); try go_wp2)
    go_meet
    case rel => exact ⟨_, (wrap64 (Int.tdiv a3 a0)), (Int.tmod a3 a0), (xrf), (xrf), H', ⟨by first | omega | exact Nat.le_refl _⟩, by repeat (first | exact Drawn0.refl _ | apply Drawn0.step)⟩
   ·rw [if_neg c7] at H
    have c7b0 : decide (4 ≤ a2) = false := decide_eq_false c7
    clear c7
    (first | rw [c7b0] | (simp only [i64_w, i32_w]; rw [c7b0]) | skip)
    have H' := Aside0.mk H
    clear H
    go_wp2
    repeat (go_quiet (fail); try go_wp2)
    go_meet
    case rel => exact ⟨_, (Int.tmod a3 a0), (wrap64 (Int.tdiv a3 a0)), (xrf), (xrf), H', ⟨by first | omega | exact Nat.le_refl _⟩, by repeat (first | exact Drawn0.refl _ | apply Drawn0.step)⟩
  case rest =>
   clear HC6; (try clear p2); (try clear p6)
   obtain ⟨kq, x9_5, x10_5, rfl, rfl, HA, HJ5, ⟨mc5, rfl⟩⟩ := hcut
   cases kq with
   | zero => exact absurd HA.out (by simp [gamehallref1_Moved.j0])
   | succ kj5 =>
    have H := HA.out; clear HA
    simp only [gamehallref1_Moved.j0] at H
    by_cases c8 : (Int.tmod a2 2) = 1
    ·rw [if_pos c8] at H
     have c8b0 : ((Int.tmod a2 2) == 1) = true := beq_iff_eq.mpr c8
     have c8b1 : ((Int.tmod a2 2) != 1) = false := bne_eq_false_iff_eq.mpr c8
     clear c8
     by_cases c9 : (Int.tmod (wrap64 (Int.tdiv a2 2)) 2) = 1
     ·rw [if_pos c9] at H
      have c9b0 : ((Int.tmod (wrap64 (Int.tdiv a2 2)) 2) == 1) = true := beq_iff_eq.mpr c9
      have c9b1 : ((Int.tmod (wrap64 (Int.tdiv a2 2)) 2) != 1) = false := bne_eq_false_iff_eq.mpr c9
      clear c9
      obtain rfl := Option.some.inj H
      go_wp2
      repeat (go_quiet (fail); try go_wp2)
      go_ret
      exact ⟨xrf, by repeat (first | exact Drawn0.refl _ | apply Drawn0.step)⟩
     ·rw [if_neg c9] at H
      have c9b0 : ((Int.tmod (wrap64 (Int.tdiv a2 2)) 2) == 1) = false := beq_eq_false_iff_ne.mpr c9
      have c9b1 : ((Int.tmod (wrap64 (Int.tdiv a2 2)) 2) != 1) = true := bne_iff_ne.mpr c9
      obtain rfl := Option.some.inj H
      go_wp2
      repeat (go_quiet (fail); try go_wp2)
      go_ret
      exact ⟨xrf, by repeat (first | exact Drawn0.refl _ | apply Drawn0.step)⟩
    ·rw [if_neg c8] at H
     have c8b0 : ((Int.tmod a2 2) == 1) = false := beq_eq_false_iff_ne.mpr c8
     have c8b1 : ((Int.tmod a2 2) != 1) = true := bne_iff_ne.mpr c8
     by_cases c10 : (Int.tmod (wrap64 (Int.tdiv a2 2)) 2) = 1
     ·rw [if_pos c10] at H
      have c10b0 : ((Int.tmod (wrap64 (Int.tdiv a2 2)) 2) == 1) = true := beq_iff_eq.mpr c10
      have c10b1 : ((Int.tmod (wrap64 (Int.tdiv a2 2)) 2) != 1) = false := bne_eq_false_iff_eq.mpr c10
      clear c10
      obtain rfl := Option.some.inj H
      go_wp2
      repeat (go_quiet (fail); try go_wp2)
      go_ret
      exact ⟨xrf, by repeat (first | exact Drawn0.refl _ | apply Drawn0.step)⟩
     ·rw [if_neg c10] at H
      have c10b0 : ((Int.tmod (wrap64 (Int.tdiv a2 2)) 2) == 1) = false := beq_eq_false_iff_ne.mpr c10
      have c10b1 : ((Int.tmod (wrap64 (Int.tdiv a2 2)) 2) != 1) = true := bne_iff_ne.mpr c10
      obtain rfl := Option.some.inj H
      go_wp2
      repeat (go_quiet (fail); try go_wp2)
      go_ret
      exact ⟨xrf, by repeat (first | exact Drawn0.refl _ | apply Drawn0.step)⟩

end Go.Proofs.Ytikijopbgjncbaa.PSymmMaps
