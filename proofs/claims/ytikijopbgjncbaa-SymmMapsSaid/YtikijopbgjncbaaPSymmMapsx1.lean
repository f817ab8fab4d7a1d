-- Printed by a program of this claim's writer (wip/ext): an extension of the kit's print.
import Derived.Test.YtikijopbgjncbaaPSymmMapsx0
import Derived.Test.YtikijopbgjncbaaOrbitTail
import Derived.Test.YtikijopbgjncbaaShelf
namespace Go.Proofs.Ytikijopbgjncbaa.PSymmMaps
open Go.RowKit Go.Proofs.YtikijopbgjncbaaW.PrintWords Go.Proofs.YtikijopbgjncbaaW.PrintLast Go.Proofs.YtikijopbgjncbaaW.PrintMore
attribute [local go_sem] max2_int min2_int max_two min_two max_three min_three max_four min_four   -- for this text's walks alone
set_option linter.unusedVariables false
set_option linter.unusedSimpArgs false

/-! ### symm_many: function 29 -/
def symm_many.f (a0 : Int) (a1 : Int) : Option (Int) := if a0 = a1 then (some 8) else (some 4)
set_option maxHeartbeats 8000000 in
set_option maxRecDepth 100000 in
theorem symm_many.calls (a0 : Int) (a1 : Int) (r : Int) (w : World) (h : symm_many.f a0 a1 = some r) :
    Calls Try.prog 29 #[.int .i64 a0, .int .i64 a1] w fun e w' => e = .returned (.int .i64 r) ∧ Drawn0 w w' := by
 have H : (if a0 = a1 then (some 8) else (some 4)) = some r := h
 clear h
 by_cases c3 : a0 = a1
 ·rw [if_pos c3] at H
  have c3b0 : (a0 == a1) = true := beq_iff_eq.mpr c3
  have c3b1 : (a0 != a1) = false := bne_eq_false_iff_eq.mpr c3
  clear c3
  obtain rfl := Option.some.inj H
  go_enter Try.func29, Try.ntmps29
  go_wp2
  go_ret
  exact ⟨xrf, by repeat (first | exact Drawn0.refl _ | apply Drawn0.step)⟩
 ·rw [if_neg c3] at H
  have c3b0 : (a0 == a1) = false := beq_eq_false_iff_ne.mpr c3
  have c3b1 : (a0 != a1) = true := bne_iff_ne.mpr c3
  obtain rfl := Option.some.inj H
  go_enter Try.func29, Try.ntmps29
  go_wp2
  go_ret
  exact ⟨xrf, by repeat (first | exact Drawn0.refl _ | apply Drawn0.step)⟩

/-! ### symm_Check: function 32 -/
def symm_Check.f (a0 : Int) (a1 : Int) : Option (Int) := if a0 < 1 then (some 4) else (if a0 > 8 then (some 4) else (if a1 < 1 then (some 4) else (if a1 > 8 then (some 4) else (some 0))))
set_option maxHeartbeats 8000000 in
set_option maxRecDepth 100000 in
theorem symm_Check.calls (a0 : Int) (a1 : Int) (r : Int) (w : World) (h : symm_Check.f a0 a1 = some r) :
    Calls Try.prog 32 #[.int .i64 a0, .int .i64 a1] w fun e w' => e = .returned (.int .i64 r) ∧ Drawn0 w w' := by
 have H : (if a0 < 1 then (some 4) else (if a0 > 8 then (some 4) else (if a1 < 1 then (some 4) else (if a1 > 8 then (some 4) else (some 0))))) = some r := h
 clear h
 by_cases c3 : a0 < 1
 ·rw [if_pos c3] at H
  have c3b0 : decide (a0 < 1) = true := decide_eq_true c3
  clear c3
  obtain rfl := Option.some.inj H
  go_enter Try.func32, Try.ntmps32
  go_wp2
  go_ret
  exact ⟨xrf, by repeat (first | exact Drawn0.refl _ | apply Drawn0.step)⟩
 ·rw [if_neg c3] at H
  have c3b0 : decide (a0 < 1) = false := decide_eq_false c3
  clear c3
  by_cases c4 : a0 > 8
  ·rw [if_pos c4] at H
   have c4b0 : decide (8 < a0) = true := decide_eq_true c4
   clear c4
   obtain rfl := Option.some.inj H
   go_enter Try.func32, Try.ntmps32
   go_wp2
   go_ret
   exact ⟨xrf, by repeat (first | exact Drawn0.refl _ | apply Drawn0.step)⟩
  ·rw [if_neg c4] at H
   have c4b0 : decide (8 < a0) = false := decide_eq_false c4
   clear c4
   by_cases c5 : a1 < 1
   ·rw [if_pos c5] at H
    have c5b0 : decide (a1 < 1) = true := decide_eq_true c5
    clear c5
    obtain rfl := Option.some.inj H
    go_enter Try.func32, Try.ntmps32
    go_wp2
    go_ret
    exact ⟨xrf, by repeat (first | exact Drawn0.refl _ | apply Drawn0.step)⟩
   ·rw [if_neg c5] at H
    have c5b0 : decide (a1 < 1) = false := decide_eq_false c5
    clear c5
    by_cases c6 : a1 > 8
    ·rw [if_pos c6] at H
     have c6b0 : decide (8 < a1) = true := decide_eq_true c6
     clear c6
     obtain rfl := Option.some.inj H
     go_enter Try.func32, Try.ntmps32
     go_wp2
     go_ret
     exact ⟨xrf, by repeat (first | exact Drawn0.refl _ | apply Drawn0.step)⟩
    ·rw [if_neg c6] at H
     have c6b0 : decide (8 < a1) = false := decide_eq_false c6
     clear c6
     obtain rfl := Option.some.inj H
     go_enter Try.func32, Try.ntmps32
     go_wp2
     go_ret
     exact ⟨xrf, by repeat (first | exact Drawn0.refl _ | apply Drawn0.step)⟩

/-! ### symm_check: function 27 -/
def symm_check.f (a0 : Int) (a1 : Int) (a2 : Int) : Option (Int) := (symm_Check.f a0 a1).bind fun t101 => (if t101 = 0 then (if a2 < 0 then (some 8) else ((symm_many.f a0 a1).bind fun t102 => (if a2 ≥ t102 then (some 8) else (some 0)))) else (some t101))
set_option maxHeartbeats 8000000 in
set_option maxRecDepth 100000 in
theorem symm_check.calls (a0 : Int) (a1 : Int) (a2 : Int) (r : Int) (w : World) (h : symm_check.f a0 a1 a2 = some r) :
    Calls Try.prog 27 #[.int .i64 a0, .int .i64 a1, .int .i64 a2] w fun e w' => e = .returned (.int .i64 r) ∧ Drawn0 w w' := by
 have H : ((symm_Check.f a0 a1).bind fun t101 => (if t101 = 0 then (if a2 < 0 then (some 8) else ((symm_many.f a0 a1).bind fun t102 => (if a2 ≥ t102 then (some 8) else (some 0)))) else (some t101))) = some r := h
 clear h; replace H := Option.bind_eq_some_iff.mp H
 obtain ⟨t101, A40, H⟩ := H
 try dsimp only at H
 have A4 := Aside0.mk A40; clear A40
 by_cases c5 : t101 = 0
 ·rw [if_pos c5] at H
  have c5b0 : (t101 == 0) = true := beq_iff_eq.mpr c5
  have c5b1 : (t101 != 0) = false := bne_eq_false_iff_eq.mpr c5
  clear c5
  by_cases c6 : a2 < 0
  ·rw [if_pos c6] at H
   have c6b0 : decide (a2 < 0) = true := decide_eq_true c6
   clear c6
   obtain rfl := Option.some.inj H
   go_enter Try.func27, Try.ntmps27
   go_wp2_with (first | ((with_reducible refine gate_callee (f := 32) rfl ?_); refine goesL_ (some 10) rfl rfl Try.func32 (by kernel_rfl) rfl #[.int .i64 a0, .int .i64 a1] rfl (by (try simp only [List.map_toArray, List.map_cons, List.map_nil]); first | done | rfl | (simp only [List.length_drop, List.length_take]; rfl)) ?_; (with_reducible refine (symm_Check.calls a0 a1 t101 _ A4.out).mono ?_); rintro e w' ⟨rfl, ⟨nd, rfl⟩⟩; refine ⟨_, rfl, ?_⟩))
   go_ret
   exact ⟨xrf, by repeat (first | exact Drawn0.refl _ | apply Drawn0.step)⟩
  ·rw [if_neg c6] at H
   have c6b0 : decide (a2 < 0) = false := decide_eq_false c6
   clear c6; replace H := Option.bind_eq_some_iff.mp H
   obtain ⟨t102, A70, H⟩ := H
   replace H : (if a2 ≥ t102 then (some 8) else (some 0)) = some r := H
   have A7 := Aside0.mk A70; clear A70
   by_cases c8 : a2 ≥ t102
   ·rw [if_pos c8] at H
    have c8b0 : decide (t102 ≤ a2) = true := decide_eq_true c8
    clear c8
    obtain rfl := Option.some.inj H
    go_enter Try.func27, Try.ntmps27
    go_wp2_with (first | ((with_reducible refine gate_callee (f := 32) rfl ?_); refine goesL_ (some 10) rfl rfl Try.func32 (by kernel_rfl) rfl #[.int .i64 a0, .int .i64 a1] rfl (by (try simp only [List.map_toArray, List.map_cons, List.map_nil]); first | done | rfl | (simp only [List.length_drop, List.length_take]; rfl)) ?_; (with_reducible refine (symm_Check.calls a0 a1 t101 _ A4.out).mono ?_); rintro e w' ⟨rfl, ⟨nd, rfl⟩⟩; refine ⟨_, rfl, ?_⟩) | (go_at_call 29; (with_reducible refine (symm_many.calls a0 a1 t102 _ A7.out).mono ?_); rintro e w' ⟨rfl, ⟨nd, rfl⟩⟩))
    go_ret
    exact ⟨xrf, by repeat (first | exact Drawn0.refl _ | apply Drawn0.step)⟩
   ·rw [if_neg c8] at H
    have c8b0 : decide (t102 ≤ a2) = false := decide_eq_false c8
    clear c8
    obtain rfl := Option.some.inj H
    go_enter Try.func27, Try.ntmps27
    go_wp2_with (first | ((with_reducible refine gate_callee (f := 32) rfl ?_); refine goesL_ (some 10) rfl rfl Try.func32 (by kernel_rfl) rfl #[.int .i64 a0, .int .i64 a1] rfl (by (try simp only [List.map_toArray, List.map_cons, List.map_nil]); first | done | rfl | (simp only [List.length_drop, List.length_take]; rfl)) ?_; (with_reducible refine (symm_Check.calls a0 a1 t101 _ A4.out).mono ?_); rintro e w' ⟨rfl, ⟨nd, rfl⟩⟩; refine ⟨_, rfl, ?_⟩) | (go_at_call 29; (with_reducible refine (symm_many.calls a0 a1 t102 _ A7.out).mono ?_); rintro e w' ⟨rfl, ⟨nd, rfl⟩⟩))
    go_ret
    exact ⟨xrf, by repeat (first | exact Drawn0.refl _ | apply Drawn0.step)⟩
 ·rw [if_neg c5] at H
  have c5b0 : (t101 == 0) = false := beq_eq_false_iff_ne.mpr c5
  have c5b1 : (t101 != 0) = true := bne_iff_ne.mpr c5
  obtain rfl := Option.some.inj H
  go_enter Try.func27, Try.ntmps27
  go_wp2_with (first | ((with_reducible refine gate_callee (f := 32) rfl ?_); refine goesL_ (some 10) rfl rfl Try.func32 (by kernel_rfl) rfl #[.int .i64 a0, .int .i64 a1] rfl (by (try simp only [List.map_toArray, List.map_cons, List.map_nil]); first | done | rfl | (simp only [List.length_drop, List.length_take]; rfl)) ?_; (with_reducible refine (symm_Check.calls a0 a1 t101 _ A4.out).mono ?_); rintro e w' ⟨rfl, ⟨nd, rfl⟩⟩; refine ⟨_, rfl, ?_⟩))
  go_ret
  exact ⟨xrf, by repeat (first | exact Drawn0.refl _ | apply Drawn0.step)⟩

/-! ### symm_image: function 28 -/
def symm_image.j0 : Nat → Int → Int → Int → Int → Int → Option (Int)
  | 0, _, _, _, _, _ => none
  | k + 1, x0, x1, x2, x9, x10 => if (Go.bits .and .i64 x2 1) = 0 then (if (Go.bits .and .i64 x2 2) = 0 then (some (wrap64 ((wrap64 (x10 * x0)) + x9))) else (some (wrap64 ((wrap64 ((wrap64 ((wrap64 (x1 - 1)) - x10)) * x0)) + x9)))) else (if (Go.bits .and .i64 x2 2) = 0 then (some (wrap64 ((wrap64 (x10 * x0)) + (wrap64 ((wrap64 (x0 - 1)) - x9))))) else (some (wrap64 ((wrap64 ((wrap64 ((wrap64 (x1 - 1)) - x10)) * x0)) + (wrap64 ((wrap64 (x0 - 1)) - x9))))))
def symm_image.f (k : Nat) (a0 : Int) (a1 : Int) (a2 : Int) (a3 : Int) : Option (Int) := if a0 = 0 then (none) else (if (Go.bits .and .i64 a2 4) = 0 then (symm_image.j0 k a0 a1 a2 (Int.tmod a3 a0) (wrap64 (Int.tdiv a3 a0))) else (symm_image.j0 k a0 a1 a2 (wrap64 (Int.tdiv a3 a0)) (Int.tmod a3 a0)))
theorem symm_image.mono_l : ∀ k, (∀ y0 y1 y2 y3 y4, LeO (symm_image.j0 k y0 y1 y2 y3 y4) (symm_image.j0 (k + 1) y0 y1 y2 y3 y4))
  | 0 => fun _ _ _ _ _ r h => by simp [symm_image.j0] at h
  | k + 1 => by
    have ih0 := symm_image.mono_l k
    · intros
      unfold symm_image.j0
      repeat' first
      | (with_reducible apply ih0)
      | (with_reducible exact LeO.refl _)
      | (with_reducible exact LeO.none _)
      | (with_reducible refine LeO.ite ?_ ?_)
      | (with_reducible refine LeO.bind ?_ (fun _ => ?_))
      | apply ih0
      | exact LeO.none _
      | refine LeO.ite ?_ ?_
      | refine LeO.bind ?_ (fun _ => ?_)
theorem symm_image.mono : ∀ a0 a1 a2 a3 k, LeO (symm_image.f k a0 a1 a2 a3) (symm_image.f (k + 1) a0 a1 a2 a3) := by
  intro a0 a1 a2 a3 k
  have ih0 := symm_image.mono_l k
  unfold symm_image.f
  repeat' first
      | (with_reducible apply ih0)
      | (with_reducible exact LeO.refl _)
      | (with_reducible exact LeO.none _)
      | (with_reducible refine LeO.ite ?_ ?_)
      | (with_reducible refine LeO.bind ?_ (fun _ => ?_))
      | apply ih0
      | exact LeO.none _
      | refine LeO.ite ?_ ?_
      | refine LeO.bind ?_ (fun _ => ?_)
set_option maxHeartbeats 8000000 in
set_option maxRecDepth 100000 in
theorem symm_image.calls (k : Nat) (a0 : Int) (a1 : Int) (a2 : Int) (a3 : Int) (r : Int) (w : World) (h : symm_image.f k a0 a1 a2 a3 = some r) :
    Calls Try.prog 28 #[.int .i64 a0, .int .i64 a1, .int .i64 a2, .int .i64 a3] w fun e w' => e = .returned (.int .i64 r) ∧ Drawn0 w w' := by
 have H : (if a0 = 0 then (none) else (if (Go.bits .and .i64 a2 4) = 0 then (symm_image.j0 k a0 a1 a2 (Int.tmod a3 a0) (wrap64 (Int.tdiv a3 a0))) else (symm_image.j0 k a0 a1 a2 (wrap64 (Int.tdiv a3 a0)) (Int.tmod a3 a0)))) = some r := h
 clear h
 by_cases c5 : a0 = 0
 ·rw [if_pos c5] at H
  exact absurd H (by simp)
 ·rw [if_neg c5] at H
  have c5b0 : (a0 == 0) = false := beq_eq_false_iff_ne.mpr c5
  have c5b1 : (a0 != 0) = true := bne_iff_ne.mpr c5
  have HC6 := Aside0.mk H; clear H
  go_enter Try.func28, Try.ntmps28
  go_upto_if 19 with (fail)
  repeat (go_quiet (fail); go_upto_if 19 with (fail))
  go_cut [9, 10] (fun vs9 vs10 wc => ∃ (kq : Nat) (x9_5 : Int) (x10_5 : Int), vs9 = .int .i64 x9_5 ∧ vs10 = .int .i64 x10_5 ∧ Aside0 (symm_image.j0 kq a0 a1 a2 x9_5 x10_5 = some r) ∧ Aside0 (kq ≤ k) ∧ Drawn0 w wc)
  case first =>
   have H := HC6.out; clear HC6
   by_cases c7 : (Go.bits .and .i64 a2 4) = 0
   ·rw [if_pos c7] at H
    have c7b0 : ((Go.bits .and .i64 a2 4) == 0) = true := beq_iff_eq.mpr c7
    have c7b1 : ((Go.bits .and .i64 a2 4) != 0) = false := bne_eq_false_iff_eq.mpr c7
    clear c7
    (first | rw [c7b0] | (simp only [i64_w, i32_w]; rw [c7b0]) | skip)
    have H' := Aside0.mk H
    clear H
    go_wp2
    repeat (go_quiet (fail); try go_wp2)
    go_meet
    case rel => exact ⟨_, (Int.tmod a3 a0), (wrap64 (Int.tdiv a3 a0)), (xrf), (xrf), H', ⟨by first | omega | exact Nat.le_refl _⟩, by repeat (first | exact Drawn0.refl _ | apply Drawn0.step)⟩
   ·rw [if_neg c7] at H
    have c7b0 : ((Go.bits .and .i64 a2 4) == 0) = false := beq_eq_false_iff_ne.mpr c7
    have c7b1 : ((Go.bits .and .i64 a2 4) != 0) = true := bne_iff_ne.mpr c7
    (first | rw [c7b0] | (simp only [i64_w, i32_w]; rw [c7b0]) | skip)
    have H' := Aside0.mk H
    clear H
    go_wp2
    repeat (go_quiet (fail); try go_wp2)
    go_meet
    case rel => exact ⟨_, (wrap64 (Int.tdiv a3 a0)), (Int.tmod a3 a0), (xrf), (xrf), H', ⟨by first | omega | exact Nat.le_refl _⟩, by repeat (first | exact Drawn0.refl _ | apply Drawn0.step)⟩
  case rest =>
   clear HC6; (try clear p2); (try clear p6)
   obtain ⟨kq, x9_5, x10_5, rfl, rfl, HA, HJ5, ⟨mc5, rfl⟩⟩ := hcut
   cases kq with
   | zero => exact absurd HA.out (by simp [symm_image.j0])
   | succ kj5 =>
    have H := HA.out; clear HA
    simp only [symm_image.j0] at H
    by_cases c8 : (Go.bits .and .i64 a2 1) = 0
    ·rw [if_pos c8] at H
     have c8b0 : ((Go.bits .and .i64 a2 1) == 0) = true := beq_iff_eq.mpr c8
     have c8b1 : ((Go.bits .and .i64 a2 1) != 0) = false := bne_eq_false_iff_eq.mpr c8
     clear c8
     by_cases c9 : (Go.bits .and .i64 a2 2) = 0
     ·rw [if_pos c9] at H
      have c9b0 : ((Go.bits .and .i64 a2 2) == 0) = true := beq_iff_eq.mpr c9
      have c9b1 : ((Go.bits .and .i64 a2 2) != 0) = false := bne_eq_false_iff_eq.mpr c9
      clear c9
      obtain rfl := Option.some.inj H
      go_wp2
      repeat (go_quiet (fail); try go_wp2)
      go_ret
      exact ⟨xrf, by repeat (first | exact Drawn0.refl _ | apply Drawn0.step)⟩
     ·rw [if_neg c9] at H
      have c9b0 : ((Go.bits .and .i64 a2 2) == 0) = false := beq_eq_false_iff_ne.mpr c9
      have c9b1 : ((Go.bits .and .i64 a2 2) != 0) = true := bne_iff_ne.mpr c9
      obtain rfl := Option.some.inj H
      go_wp2
      repeat (go_quiet (fail); try go_wp2)
      go_ret
      exact ⟨xrf, by repeat (first | exact Drawn0.refl _ | apply Drawn0.step)⟩
    ·rw [if_neg c8] at H
     have c8b0 : ((Go.bits .and .i64 a2 1) == 0) = false := beq_eq_false_iff_ne.mpr c8
     have c8b1 : ((Go.bits .and .i64 a2 1) != 0) = true := bne_iff_ne.mpr c8
     by_cases c10 : (Go.bits .and .i64 a2 2) = 0
     ·rw [if_pos c10] at H
      have c10b0 : ((Go.bits .and .i64 a2 2) == 0) = true := beq_iff_eq.mpr c10
      have c10b1 : ((Go.bits .and .i64 a2 2) != 0) = false := bne_eq_false_iff_eq.mpr c10
      clear c10
      obtain rfl := Option.some.inj H
      go_wp2
      repeat (go_quiet (fail); try go_wp2)
      go_ret
      exact ⟨xrf, by repeat (first | exact Drawn0.refl _ | apply Drawn0.step)⟩
     ·rw [if_neg c10] at H
      have c10b0 : ((Go.bits .and .i64 a2 2) == 0) = false := beq_eq_false_iff_ne.mpr c10
      have c10b1 : ((Go.bits .and .i64 a2 2) != 0) = true := bne_iff_ne.mpr c10
      obtain rfl := Option.some.inj H
      go_wp2
      repeat (go_quiet (fail); try go_wp2)
      go_ret
      exact ⟨xrf, by repeat (first | exact Drawn0.refl _ | apply Drawn0.step)⟩

/-! ### symm_Map: function 15 -/
def symm_Map.f (k : Nat) (a0 : Int) (a1 : Int) (a2 : Int) (a3 : Int) : Option (Int × Int) := (symm_check.f a0 a1 a2).bind fun t103 => (if t103 = 0 then (if a3 < 0 then (some (0, 4)) else (if a3 ≥ (wrap64 (a0 * a1)) then (some (0, 4)) else ((symm_image.f k a0 a1 a2 a3).bind fun t104 => (some (t104, 0))))) else (some (0, t103)))
theorem symm_Map.mono : ∀ a0 a1 a2 a3 k, LeO (symm_Map.f k a0 a1 a2 a3) (symm_Map.f (k + 1) a0 a1 a2 a3) := by
  intro a0 a1 a2 a3 k
  unfold symm_Map.f
  repeat' first
      | (with_reducible apply symm_image.mono)
      | (with_reducible exact LeO.refl _)
      | (with_reducible exact LeO.none _)
      | (with_reducible refine LeO.ite ?_ ?_)
      | (with_reducible refine LeO.bind ?_ (fun _ => ?_))
      | apply symm_image.mono
      | exact LeO.none _
      | refine LeO.ite ?_ ?_
      | refine LeO.bind ?_ (fun _ => ?_)
set_option maxHeartbeats 8000000 in
set_option maxRecDepth 100000 in
theorem symm_Map.calls (k : Nat) (a0 : Int) (a1 : Int) (a2 : Int) (a3 : Int) (r1 : Int) (r2 : Int) (w : World) (h : symm_Map.f k a0 a1 a2 a3 = some (r1, r2)) :
    Calls Try.prog 15 #[.int .i64 a0, .int .i64 a1, .int .i64 a2, .int .i64 a3] w fun e w' => e = .returned (.tuple #[.int .i64 r1, .int .i64 r2]) ∧ Drawn0 w w' := by
 have H : ((symm_check.f a0 a1 a2).bind fun t103 => (if t103 = 0 then (if a3 < 0 then (some (0, 4)) else (if a3 ≥ (wrap64 (a0 * a1)) then (some (0, 4)) else ((symm_image.f k a0 a1 a2 a3).bind fun t104 => (some (t104, 0))))) else (some (0, t103)))) = some (r1, r2) := h
 clear h; replace H := Option.bind_eq_some_iff.mp H
 obtain ⟨t103, A50, H⟩ := H
 try dsimp only at H
 have A5 := Aside0.mk A50; clear A50
 by_cases c6 : t103 = 0
 ·rw [if_pos c6] at H
  have c6b0 : (t103 == 0) = true := beq_iff_eq.mpr c6
  have c6b1 : (t103 != 0) = false := bne_eq_false_iff_eq.mpr c6
  clear c6
  by_cases c7 : a3 < 0
  ·rw [if_pos c7] at H
   have c7b0 : decide (a3 < 0) = true := decide_eq_true c7
   clear c7
   simp only [Option.some.injEq, Prod.mk.injEq] at H
   obtain ⟨rfl, rfl⟩ := H
   go_enter Try.func15, Try.ntmps15
   go_wp2_with (first | ((with_reducible refine gate_callee (f := 27) rfl ?_); refine goesL_ (some 14) rfl rfl Try.func27 (by kernel_rfl) rfl #[.int .i64 a0, .int .i64 a1, .int .i64 a2] rfl (by (try simp only [List.map_toArray, List.map_cons, List.map_nil]); first | done | rfl | (simp only [List.length_drop, List.length_take]; rfl)) ?_; (with_reducible refine (symm_check.calls a0 a1 a2 t103 _ A5.out).mono ?_); rintro e w' ⟨rfl, ⟨nd, rfl⟩⟩; refine ⟨_, rfl, ?_⟩))
   go_ret2
   exact ⟨xrf, by repeat (first | exact Drawn0.refl _ | apply Drawn0.step)⟩
  ·rw [if_neg c7] at H
   have c7b0 : decide (a3 < 0) = false := decide_eq_false c7
   clear c7
   by_cases c8 : a3 ≥ (wrap64 (a0 * a1))
   ·rw [if_pos c8] at H
    have c8b0 : decide ((wrap64 (a0 * a1)) ≤ a3) = true := decide_eq_true c8
    clear c8
    simp only [Option.some.injEq, Prod.mk.injEq] at H
    obtain ⟨rfl, rfl⟩ := H
    go_enter Try.func15, Try.ntmps15
    go_wp2_with (first | ((with_reducible refine gate_callee (f := 27) rfl ?_); refine goesL_ (some 14) rfl rfl Try.func27 (by kernel_rfl) rfl #[.int .i64 a0, .int .i64 a1, .int .i64 a2] rfl (by (try simp only [List.map_toArray, List.map_cons, List.map_nil]); first | done | rfl | (simp only [List.length_drop, List.length_take]; rfl)) ?_; (with_reducible refine (symm_check.calls a0 a1 a2 t103 _ A5.out).mono ?_); rintro e w' ⟨rfl, ⟨nd, rfl⟩⟩; refine ⟨_, rfl, ?_⟩))
    go_ret2
    exact ⟨xrf, by repeat (first | exact Drawn0.refl _ | apply Drawn0.step)⟩
   ·rw [if_neg c8] at H
    have c8b0 : decide ((wrap64 (a0 * a1)) ≤ a3) = false := decide_eq_false c8
    clear c8; replace H := Option.bind_eq_some_iff.mp H
    obtain ⟨t104, A90, H⟩ := H
    replace H : (some (t104, 0)) = some (r1, r2) := H
    have A9 := Aside0.mk A90; clear A90
    simp only [Option.some.injEq, Prod.mk.injEq] at H
    obtain ⟨rfl, rfl⟩ := H
    go_enter Try.func15, Try.ntmps15
    go_wp2_with (first | ((with_reducible refine gate_callee (f := 27) rfl ?_); refine goesL_ (some 14) rfl rfl Try.func27 (by kernel_rfl) rfl #[.int .i64 a0, .int .i64 a1, .int .i64 a2] rfl (by (try simp only [List.map_toArray, List.map_cons, List.map_nil]); first | done | rfl | (simp only [List.length_drop, List.length_take]; rfl)) ?_; (with_reducible refine (symm_check.calls a0 a1 a2 t103 _ A5.out).mono ?_); rintro e w' ⟨rfl, ⟨nd, rfl⟩⟩; refine ⟨_, rfl, ?_⟩) | ((with_reducible refine gate_callee (f := 28) rfl ?_); refine goesL_ (some 31) rfl rfl Try.func28 (by kernel_rfl) rfl #[.int .i64 a0, .int .i64 a1, .int .i64 a2, .int .i64 a3] rfl (by (try simp only [List.map_toArray, List.map_cons, List.map_nil]); first | done | rfl | (simp only [List.length_drop, List.length_take]; rfl)) ?_; (with_reducible refine (symm_image.calls k a0 a1 a2 a3 t104 _ A9.out).mono ?_); rintro e w' ⟨rfl, ⟨nd, rfl⟩⟩; refine ⟨_, rfl, ?_⟩))
    go_ret2
    exact ⟨xrf, by repeat (first | exact Drawn0.refl _ | apply Drawn0.step)⟩
 ·rw [if_neg c6] at H
  have c6b0 : (t103 == 0) = false := beq_eq_false_iff_ne.mpr c6
  have c6b1 : (t103 != 0) = true := bne_iff_ne.mpr c6
  simp only [Option.some.injEq, Prod.mk.injEq] at H
  obtain ⟨rfl, rfl⟩ := H
  go_enter Try.func15, Try.ntmps15
  go_wp2_with (first | ((with_reducible refine gate_callee (f := 27) rfl ?_); refine goesL_ (some 14) rfl rfl Try.func27 (by kernel_rfl) rfl #[.int .i64 a0, .int .i64 a1, .int .i64 a2] rfl (by (try simp only [List.map_toArray, List.map_cons, List.map_nil]); first | done | rfl | (simp only [List.length_drop, List.length_take]; rfl)) ?_; (with_reducible refine (symm_check.calls a0 a1 a2 t103 _ A5.out).mono ?_); rintro e w' ⟨rfl, ⟨nd, rfl⟩⟩; refine ⟨_, rfl, ?_⟩))
  go_ret2
  exact ⟨xrf, by repeat (first | exact Drawn0.refl _ | apply Drawn0.step)⟩

/-! ### symm_Orbit: function 16 -/
def symm_Orbit.l0 : Nat → Int → Int → Int → List Int → Int → Int → Option (List Int × Int)
  | 0, _, _, _, _, _, _ => none
  | k + 1, x0, x1, x2, x10, x24, x25 => if x25 < x24 then ((symm_image.f k x0 x1 x25 x2).bind fun t108 => (if x10.length < 17592186044416 then (symm_Orbit.l0 k x0 x1 x2 (x10 ++ [t108]) x24 (wrap64 (x25 + 1))) else (none))) else (if 0 < x10.length then (if x10.length < 4611686018427387904 then (some (once x10, 0)) else (none)) else (none))
def symm_Orbit.f (k : Nat) (a0 : Int) (a1 : Int) (a2 : Int) : Option (List Int × Int) := (symm_Map.f k a0 a1 0 a2).bind fun bt105 => (if bt105.2 = 0 then ((symm_many.f a0 a1).bind fun t107 => (symm_Orbit.l0 k a0 a1 a2 ([] : List Int) t107 0)) else (some (([] : List Int), bt105.2)))
theorem symm_Orbit.mono_l : ∀ k, (∀ y0 y1 y2 y3 y4 y5, LeO (symm_Orbit.l0 k y0 y1 y2 y3 y4 y5) (symm_Orbit.l0 (k + 1) y0 y1 y2 y3 y4 y5))
  | 0 => fun _ _ _ _ _ _ r h => by simp [symm_Orbit.l0] at h
  | k + 1 => by
    have ih0 := symm_Orbit.mono_l k
    · intros
      unfold symm_Orbit.l0
      repeat' first
      | (with_reducible apply ih0)
      | (with_reducible apply symm_Map.mono)
      | (with_reducible apply symm_image.mono)
      | (with_reducible exact LeO.refl _)
      | (with_reducible exact LeO.none _)
      | (with_reducible refine LeO.ite ?_ ?_)
      | (with_reducible refine LeO.bind ?_ (fun _ => ?_))
      | apply ih0
      | apply symm_Map.mono
      | apply symm_image.mono
      | exact LeO.none _
      | refine LeO.ite ?_ ?_
      | refine LeO.bind ?_ (fun _ => ?_)
theorem symm_Orbit.mono : ∀ a0 a1 a2 k, LeO (symm_Orbit.f k a0 a1 a2) (symm_Orbit.f (k + 1) a0 a1 a2) := by
  intro a0 a1 a2 k
  have ih0 := symm_Orbit.mono_l k
  unfold symm_Orbit.f
  repeat' first
      | (with_reducible apply ih0)
      | (with_reducible apply symm_Map.mono)
      | (with_reducible apply symm_image.mono)
      | (with_reducible exact LeO.refl _)
      | (with_reducible exact LeO.none _)
      | (with_reducible refine LeO.ite ?_ ?_)
      | (with_reducible refine LeO.bind ?_ (fun _ => ?_))
      | apply ih0
      | apply symm_Map.mono
      | apply symm_image.mono
      | exact LeO.none _
      | refine LeO.ite ?_ ?_
      | refine LeO.bind ?_ (fun _ => ?_)
set_option maxHeartbeats 8000000 in
set_option maxRecDepth 100000 in
theorem symm_Orbit.calls (k : Nat) (a0 : Int) (a1 : Int) (a2 : Int) (r1 : List Int) (r2 : Int) (w : World) (h : symm_Orbit.f k a0 a1 a2 = some (r1, r2)) :
    Calls Try.prog 16 #[.int .i64 a0, .int .i64 a1, .int .i64 a2] w fun e w' => ∃ v0_ : Value, e = .returned (.tuple #[v0_, .int .i64 r2]) ∧ Kd.R (Kd.int .i64) 3 w' w.heap.size (fun _ => True) v0_ r1 ∧ Below w.heap.size w w' := by
 have HB := Aside0.mk (Below.refl w.heap.size w); have hss_ := @isSome_setCell
 have H : ((symm_Map.f k a0 a1 0 a2).bind fun bt105 => (if bt105.2 = 0 then ((symm_many.f a0 a1).bind fun t107 => (symm_Orbit.l0 k a0 a1 a2 ([] : List Int) t107 0)) else (some (([] : List Int), bt105.2)))) = some (r1, r2) := h
 clear h; replace H := Option.bind_eq_some_iff.mp H
 obtain ⟨⟨t105, t106⟩, A40, H⟩ := H
 try dsimp only at H
 have A4 := Aside0.mk A40; clear A40
 by_cases c5 : t106 = 0
 ·rw [if_pos c5] at H
  have c5b0 : (t106 == 0) = true := beq_iff_eq.mpr c5
  have c5b1 : (t106 != 0) = false := bne_eq_false_iff_eq.mpr c5
  clear c5; replace H := Option.bind_eq_some_iff.mp H
  obtain ⟨t107, A60, H⟩ := H
  replace H : (symm_Orbit.l0 k a0 a1 a2 ([] : List Int) t107 0) = some (r1, r2) := H
  have A6 := Aside0.mk A60; clear A60
  have H' := Aside0.mk H
  clear H
  go_enter Try.func16, Try.ntmps16
  go_wp2_with (first | ((with_reducible refine gate_callee (f := 15) rfl ?_); refine goesL_ (some 16) rfl rfl Try.func15 (by kernel_rfl) rfl #[.int .i64 a0, .int .i64 a1, .int .i64 0, .int .i64 a2] rfl (by (try simp only [List.map_toArray, List.map_cons, List.map_nil]); first | done | rfl | (simp only [List.length_drop, List.length_take]; rfl)) ?_; (with_reducible refine (symm_Map.calls k a0 a1 0 a2 t105 t106 _ A4.out).mono ?_); rintro e w' ⟨rfl, ⟨nd, rfl⟩⟩; refine ⟨_, rfl, ?_⟩) | ((with_reducible refine gate_callee (f := 29) rfl ?_); refine goesL_ (some 24) rfl rfl Try.func29 (by kernel_rfl) rfl #[.int .i64 a0, .int .i64 a1] rfl (by (try simp only [List.map_toArray, List.map_cons, List.map_nil]); first | done | rfl | (simp only [List.length_drop, List.length_take]; rfl)) ?_; (with_reducible refine (symm_many.calls a0 a1 t107 _ A6.out).mono ?_); rintro e w' ⟨rfl, ⟨nd, rfl⟩⟩; refine ⟨_, rfl, ?_⟩))
  go_loopg [10, 25] k (fun kq vs10 vs25 w' => ∃ (x10_1 : List Int) (x25_1 : Int), vs25 = .int .i64 x25_1 ∧ Aside0 (symm_Orbit.l0 kq a0 a1 a2 x10_1 t107 x25_1 = some (r1, r2)) ∧ Aside0 (kq ≤ k) ∧ Aside0 (Kd.R (Kd.int .i64) 3 w' w.heap.size (fun _ => True) vs10 x10_1) ∧ Aside0 (Below w.heap.size w w'))
  case atStart => exact ⟨(([] : List Int)), (0), (xrf), H', ⟨Nat.le_refl _⟩, ⟨by first | exact Kd.R_nil _ _ _ _ _ | exact Kd.N_nil _ _ _ _ _ | exact Kd.V_nil _ _ _ _ _ | exact Kd.Q_nil _ _ _ _ _ | exact Kd.S_nil _ _ _ _ _⟩, ⟨xW HB⟩⟩
  case round =>
   clear H'; (try clear p2)
   obtain ⟨x10_1, x25_1, rfl, HA, HK1, HO_10, HB⟩ := hrel
   cases gk with
   | zero => exact absurd HA.out (by simp [symm_Orbit.l0])
   | succ k1 =>
    have H := HA.out; clear HA
    simp only [symm_Orbit.l0] at H
    by_cases c7 : x25_1 < t107
    ·rw [if_pos c7] at H
     have c7b0 : decide (x25_1 < t107) = true := decide_eq_true c7
     clear c7; replace H := Option.bind_eq_some_iff.mp H
     obtain ⟨t108, A80, H⟩ := H
     try dsimp only at H
     have A8 := Aside0.mk A80; clear A80
     by_cases c9 : x10_1.length < 17592186044416
     ·rw [if_pos c9] at H
      have LMc9 := Aside0.mk c9; clear c9
      obtain ⟨y109, hy109⟩ : ∃ y_ : List Int, y_ = (x10_1 ++ [t108]) := ⟨_, rfl⟩
      replace H : (symm_Orbit.l0 k1 a0 a1 a2 y109 t107 (wrap64 (x25_1 + 1))) = some (r1, r2) := by first | (rw [hy109]; with_reducible exact H) | (have H2_ := (Option.bind_some _ _).symm.trans H; rw [hy109]; with_reducible exact H2_) | (have H2_ := (Option.bind_some _ _).symm.trans H; with_reducible exact H2_) | with_reducible exact H | (rw [hy109]; exact H) | exact H
      have Ny109 := Aside0.mk hy109; clear hy109
      have H' := Aside0.mk H
      clear H
      go_wp2_with (first | ((with_reducible refine gate_callee (f := 28) rfl ?_); refine goesL_ (some 33) rfl rfl Try.func28 (by kernel_rfl) rfl #[.int .i64 a0, .int .i64 a1, .int .i64 x25_1, .int .i64 a2] rfl (by (try simp only [List.map_toArray, List.map_cons, List.map_nil]); first | done | rfl | (simp only [List.length_drop, List.length_take]; rfl)) ?_; (with_reducible refine (symm_image.calls k1 a0 a1 x25_1 a2 t108 _ A8.out).mono ?_); rintro e w' ⟨rfl, ⟨nd, rfl⟩⟩; refine ⟨_, rfl, ?_⟩) | ((with_reducible refine gate_builtin (b := .append) (xs := #[.tmp 28, .tmp 34]) rfl ?_); at_builtin; refine Kd.R_append (Kd.int .i64) (w0 := w) w.heap.size rfl (.tmp 28) (.tmp 34) 25 3 (.int .i64 0) 8 rfl Try.underlying25 info3 rfl (by decide) (by omega) u10 x10_1 t108 [.int .i64 t108] (fun _ => True) (fun _ => False) rfl rfl ?aP (fun _ hk => hk.elim) ?aF ?aO ?aB ?aS ?aL ?_; (case aP => exact rfl); (case aB => exact (xW HB)); (case aF => exact (fun _ _ => trivial)); (case aO => exact (by (with_reducible repeat (first | apply Kd.R_alloc | apply Kd.R_drewN | apply Kd.R_drew)); exact HO_10.out)); (case aS => exact (below_size (xW HB))); (case aL => have := LMc9.out; omega); intro v110 w10 ho hb hg hat; rw [← Ny109.out] at ho; have HO111 := Aside0.mk (ho); replace HB := Aside0.mk (hb); clear HO_10; clear ho hb hg hat))
      go_roundg k1
      case measure => have := HK1.out; omega
      case rel => exact ⟨(y109), (wrap64 (x25_1 + 1)), (xrf), H', ⟨by have := HK1.out; omega⟩, ⟨by (with_reducible repeat (first | apply Kd.R_alloc | apply Kd.R_drewN | apply Kd.R_drew)); exact HO111.out⟩, ⟨xW HB⟩⟩
     ·rw [if_neg c9] at H
      exact absurd H (by simp)
    ·rw [if_neg c7] at H
     have c7b0 : decide (x25_1 < t107) = false := decide_eq_false c7
     clear c7
     by_cases hz : 0 < x10_1.length
     ·rw [if_pos hz] at H
      by_cases hz2 : x10_1.length < 4611686018427387904
      ·rw [if_pos hz2] at H
       simp only [Option.some.injEq, Prod.mk.injEq] at H
       obtain ⟨rfl, rfl⟩ := H
       have ho := Kd.own_of_R HO_10.out
       have hB_ := HB.out
       obtain ⟨g, cap, rfl, hbg, hgl, hncap, hcm, hlen, hH⟩ := Go.Lib.holds_of_ownsRow ho (not_nil ho hz)
       have hsort := Try.slices_Sort_int g 0 cap x10_1 _ hH hgl hz2
       have X := Aside0.mk (And.intro ho (And.intro hB_ (And.intro hbg (And.intro hncap hcm))))
       clear ho hB_ hbg hgl hncap hcm hlen hH HO_10 HB hz
       go_wp2_with (first
         | (go_at_call 30; refine hsort.mono ?_; rintro e w2 ⟨rfl, nn, os, rfl⟩
            have hs2 := sort_own (nn := nn) (os := os) X.out.1
            obtain ⟨g2, cap2, eg, hbg2, hgl2, hncap2, hcm2, hlen2, hH2⟩ := Go.Lib.holds_of_ownsRow hs2 (by simp)
            cases eg
            have hl2 : (x10_1.mergeSort fun x y => decide (x ≤ y)).length = x10_1.length := List.length_mergeSort x10_1
            have hcomp := Try.slices_Compact_int g 0 cap (x10_1.mergeSort fun x y => decide (x ≤ y)) _ hH2 (by omega) (by omega)
            rw [hl2] at hcomp
            clear hs2 hH2 hsort)
         | (go_at_call 31; refine hcomp.mono ?_; rintro e w3 ⟨rfl, q, rfl⟩))
       go_ret2
       have T := tail_of (nn := nn) (q := q) (os := os) X.out.2.2.1 X.out.1 X.out.2.1
       rw [hl2] at T
       exact ⟨_, xer, Kd.R_of_own T.1 (fun _ _ => trivial), T.2⟩
      ·rw [if_neg hz2] at H
       exact absurd H (by simp)
     ·rw [if_neg hz] at H
      exact absurd H (by simp)
 ·rw [if_neg c5] at H
  have c5b0 : (t106 == 0) = false := beq_eq_false_iff_ne.mpr c5
  have c5b1 : (t106 != 0) = true := bne_iff_ne.mpr c5
  simp only [Option.some.injEq, Prod.mk.injEq] at H
  obtain ⟨rfl, rfl⟩ := H
  go_enter Try.func16, Try.ntmps16
  go_wp2_with (first | ((with_reducible refine gate_callee (f := 15) rfl ?_); refine goesL_ (some 16) rfl rfl Try.func15 (by kernel_rfl) rfl #[.int .i64 a0, .int .i64 a1, .int .i64 0, .int .i64 a2] rfl (by (try simp only [List.map_toArray, List.map_cons, List.map_nil]); first | done | rfl | (simp only [List.length_drop, List.length_take]; rfl)) ?_; (with_reducible refine (symm_Map.calls k a0 a1 0 a2 t105 t106 _ A4.out).mono ?_); rintro e w' ⟨rfl, ⟨nd, rfl⟩⟩; refine ⟨_, rfl, ?_⟩))
  go_ret2
  exact ⟨_, xer, by first | exact Kd.R_nil _ _ _ _ _ | exact Kd.N_nil _ _ _ _ _ | exact Kd.V_nil _ _ _ _ _ | exact Kd.Q_nil _ _ _ _ _ | exact Kd.S_nil _ _ _ _ _, xW HB⟩

/-! ### gamehallref1_SameInts: function 17 -/
def gamehallref1_SameInts.l0 : Nat → List Int → List Int → Int → Int → Option (Bool)
  | 0, _, _, _, _ => none
  | k + 1, x0, x1, x12, x13 => if x13 < x12 then (if 0 ≤ x13 then (if x13 < (x0.length : Int) then (if x13 < (x1.length : Int) then (if (rd x0 x13) = (rd x1 x13) then (gamehallref1_SameInts.l0 k x0 x1 x12 (wrap64 (x13 + 1))) else (some false)) else (none)) else (none)) else (none)) else (some true)
def gamehallref1_SameInts.f (k : Nat) (l0 : List Int) (l1 : List Int) : Option (Bool) := if (l0.length : Int) = (l1.length : Int) then (gamehallref1_SameInts.l0 k l0 l1 (l0.length : Int) 0) else (some false)
theorem gamehallref1_SameInts.mono_l : ∀ k, (∀ y0 y1 y2 y3, LeO (gamehallref1_SameInts.l0 k y0 y1 y2 y3) (gamehallref1_SameInts.l0 (k + 1) y0 y1 y2 y3))
  | 0 => fun _ _ _ _ r h => by simp [gamehallref1_SameInts.l0] at h
  | k + 1 => by
    have ih0 := gamehallref1_SameInts.mono_l k
    · intros
      unfold gamehallref1_SameInts.l0
      repeat' first
      | (with_reducible apply ih0)
      | (with_reducible exact LeO.refl _)
      | (with_reducible exact LeO.none _)
      | (with_reducible refine LeO.ite ?_ ?_)
      | (with_reducible refine LeO.bind ?_ (fun _ => ?_))
      | apply ih0
      | exact LeO.none _
      | refine LeO.ite ?_ ?_
      | refine LeO.bind ?_ (fun _ => ?_)
theorem gamehallref1_SameInts.mono : ∀ a0 a1 k, LeO (gamehallref1_SameInts.f k a0 a1) (gamehallref1_SameInts.f (k + 1) a0 a1) := by
  intro a0 a1 k
  have ih0 := gamehallref1_SameInts.mono_l k
  unfold gamehallref1_SameInts.f
  repeat' first
      | (with_reducible apply ih0)
      | (with_reducible exact LeO.refl _)
      | (with_reducible exact LeO.none _)
      | (with_reducible refine LeO.ite ?_ ?_)
      | (with_reducible refine LeO.bind ?_ (fun _ => ?_))
      | apply ih0
      | exact LeO.none _
      | refine LeO.ite ?_ ?_
      | refine LeO.bind ?_ (fun _ => ?_)
set_option maxHeartbeats 8000000 in
set_option maxRecDepth 100000 in
theorem gamehallref1_SameInts.calls (k : Nat) (A0 : Option Addr) (c0 : Nat) (l0 : List Int) (A1 : Option Addr) (c1 : Nat) (l1 : List Int) (r : Bool) (w : World) (hr0 : Kd.C (Kd.int .i64) w A0 l0.length l0) (hc0 : l0.length ≤ c0) (hr1 : Kd.C (Kd.int .i64) w A1 l1.length l1) (hc1 : l1.length ≤ c1) (h : gamehallref1_SameInts.f k l0 l1 = some r) :
    Calls Try.prog 17 #[.slice A0 l0.length c0, .slice A1 l1.length c1] w fun e w' => e = .returned (.bool r) ∧ Drawn0 w w' := by
 have HR0 := Aside0.mk hr0; have HC0 := Aside0.mk hc0; clear hr0 hc0; have HR1 := Aside0.mk hr1; have HC1 := Aside0.mk hc1; clear hr1 hc1
 have H : (if (l0.length : Int) = (l1.length : Int) then (gamehallref1_SameInts.l0 k l0 l1 (l0.length : Int) 0) else (some false)) = some r := h
 clear h
 by_cases c3 : (l0.length : Int) = (l1.length : Int)
 ·rw [if_pos c3] at H
  have c3b0 : ((l0.length : Int) == (l1.length : Int)) = true := beq_iff_eq.mpr c3
  have c3b1 : ((l0.length : Int) != (l1.length : Int)) = false := bne_eq_false_iff_eq.mpr c3
  have c3b2 : (l0.length == l1.length) = true := by first | simpa using c3 | (simp at c3 ⊢; omega)
  clear c3
  have H' := Aside0.mk H
  clear H
  go_enter Try.func17, Try.ntmps17
  go_wp2
  repeat (go_quiet (fail); try go_wp2)
  go_loopg [13] k (fun kq vs13 w' => ∃ (x13_1 : Int), vs13 = .int .i64 x13_1 ∧ Aside0 (gamehallref1_SameInts.l0 kq l0 l1 (l0.length : Int) x13_1 = some r) ∧ Aside0 (kq ≤ k) ∧ Drawn0 w w')
  case atStart => exact ⟨(0), (xrf), H', ⟨Nat.le_refl _⟩, by repeat (first | exact Drawn0.refl _ | apply Drawn0.step)⟩
  case round =>
   clear H'; (try clear p2)
   obtain ⟨x13_1, rfl, HA, HK1, ⟨m1, rfl⟩⟩ := hrel
   cases gk with
   | zero => exact absurd HA.out (by simp [gamehallref1_SameInts.l0])
   | succ k1 =>
    have H := HA.out; clear HA
    simp only [gamehallref1_SameInts.l0] at H
    by_cases c4 : x13_1 < (l0.length : Int)
    ·rw [if_pos c4] at H
     have c4b0 : decide (x13_1 < (l0.length : Int)) = true := decide_eq_true c4
     clear c4
     by_cases c5 : 0 ≤ x13_1
     ·rw [if_pos c5] at H
      have c5b0 : decide (0 ≤ x13_1) = true := decide_eq_true c5
      clear c5
      by_cases c6 : x13_1 < (l0.length : Int)
      ·rw [if_pos c6] at H
       have c6b0 : decide (x13_1 < (l0.length : Int)) = true := decide_eq_true c6
       clear c6
       by_cases c7 : x13_1 < (l1.length : Int)
       ·rw [if_pos c7] at H
        have c7b0 : decide (x13_1 < (l1.length : Int)) = true := decide_eq_true c7
        clear c7
        by_cases c8 : (rd l0 x13_1) = (rd l1 x13_1)
        ·rw [if_pos c8] at H
         have c8b0 : ((rd l0 x13_1) == (rd l1 x13_1)) = true := beq_iff_eq.mpr c8
         have c8b1 : ((rd l0 x13_1) != (rd l1 x13_1)) = false := bne_eq_false_iff_eq.mpr c8
         clear c8
         have H' := Aside0.mk H
         clear H
         have p112 : 0 ≤ (x13_1 : Int) := of_decide_eq_true (by first | (with_reducible assumption) | assumption)
         have q112 : x13_1 < (l0.length : Int) := of_decide_eq_true (by first | (with_reducible assumption) | assumption)
         obtain ⟨ad112, e112, hx112_0⟩ := Kd.at_int HR0.out x13_1 p112 q112
         cases e112
         replace p112 := eq_true p112; replace q112 := eq_true q112
         have p113 : 0 ≤ (x13_1 : Int) := of_decide_eq_true (by first | (with_reducible assumption) | assumption)
         have q113 : x13_1 < (l1.length : Int) := of_decide_eq_true (by first | (with_reducible assumption) | assumption)
         obtain ⟨ad113, e113, hx113_0⟩ := Kd.at_int HR1.out x13_1 p113 q113
         cases e113
         replace p113 := eq_true p113; replace q113 := eq_true q113
         go_wp2
         repeat (go_quiet (fail); try go_wp2)
         go_roundg k1
         case measure => have := HK1.out; omega
         case rel => exact ⟨(wrap64 (x13_1 + 1)), (xrf), H', ⟨by have := HK1.out; omega⟩, by repeat (first | exact Drawn0.refl _ | apply Drawn0.step)⟩
        ·rw [if_neg c8] at H
         have c8b0 : ((rd l0 x13_1) == (rd l1 x13_1)) = false := beq_eq_false_iff_ne.mpr c8
         have c8b1 : ((rd l0 x13_1) != (rd l1 x13_1)) = true := bne_iff_ne.mpr c8
         obtain rfl := Option.some.inj H
         have p112 : 0 ≤ (x13_1 : Int) := of_decide_eq_true (by first | (with_reducible assumption) | assumption)
         have q112 : x13_1 < (l0.length : Int) := of_decide_eq_true (by first | (with_reducible assumption) | assumption)
         obtain ⟨ad112, e112, hx112_0⟩ := Kd.at_int HR0.out x13_1 p112 q112
         cases e112
         replace p112 := eq_true p112; replace q112 := eq_true q112
         have p113 : 0 ≤ (x13_1 : Int) := of_decide_eq_true (by first | (with_reducible assumption) | assumption)
         have q113 : x13_1 < (l1.length : Int) := of_decide_eq_true (by first | (with_reducible assumption) | assumption)
         obtain ⟨ad113, e113, hx113_0⟩ := Kd.at_int HR1.out x13_1 p113 q113
         cases e113
         replace p113 := eq_true p113; replace q113 := eq_true q113
         go_wp2
         repeat (go_quiet (fail); try go_wp2)
         go_ret
         exact ⟨xrf, by repeat (first | exact Drawn0.refl _ | apply Drawn0.step)⟩
       ·rw [if_neg c7] at H
        exact absurd H (by simp)
      ·rw [if_neg c6] at H
       exact absurd H (by simp)
     ·rw [if_neg c5] at H
      exact absurd H (by simp)
    ·rw [if_neg c4] at H
     have c4b0 : decide (x13_1 < (l0.length : Int)) = false := decide_eq_false c4
     clear c4
     obtain rfl := Option.some.inj H
     go_wp2
     repeat (go_quiet (fail); try go_wp2)
     go_ret
     exact ⟨xrf, by repeat (first | exact Drawn0.refl _ | apply Drawn0.step)⟩
 ·rw [if_neg c3] at H
  have c3b0 : ((l0.length : Int) == (l1.length : Int)) = false := beq_eq_false_iff_ne.mpr c3
  have c3b1 : ((l0.length : Int) != (l1.length : Int)) = true := bne_iff_ne.mpr c3
  have c3b2 : (l0.length == l1.length) = false := by first | simpa using c3 | (simp at c3 ⊢; omega)
  obtain rfl := Option.some.inj H
  go_enter Try.func17, Try.ntmps17
  go_wp2
  repeat (go_quiet (fail); try go_wp2)
  go_ret
  exact ⟨xrf, by repeat (first | exact Drawn0.refl _ | apply Drawn0.step)⟩

/-! ### symm_Apply: function 18 -/
def symm_Apply.l0 : Nat → Int → Int → Int → List Int → List Int → Int → Int → Option (List Int × Int)
  | 0, _, _, _, _, _, _, _ => none
  | k + 1, x0, x1, x2, x11, x30, x31, x32 => if x32 < x31 then (if 0 ≤ x32 then (if x32 < (x30.length : Int) then ((symm_image.f k x0 x1 x2 x32).bind fun t119 => (if 0 ≤ t119 then (if t119 < (x11.length : Int) then (symm_Apply.l0 k x0 x1 x2 (x11.set (t119 : Int).toNat (rd x30 x32)) x30 x31 (wrap64 (x32 + 1))) else (none)) else (none))) else (none)) else (none)) else (some (x11, 0))
def symm_Apply.f (k : Nat) (a0 : Int) (a1 : Int) (a2 : Int) (l3 : List Int) : Option (List Int × Int) := (symm_check.f a0 a1 a2).bind fun t114 => (if t114 = 0 then (if (l3.length : Int) = (wrap64 (a0 * a1)) then (if 0 ≤ (l3.length : Int) then (if ((l3.length : Int) : Int).toNat ≤ 35184372088832 then (symm_Apply.l0 k a0 a1 a2 (List.replicate ((l3.length : Int) : Int).toNat 0) l3 (l3.length : Int) 0) else (none)) else (none)) else (some (([] : List Int), 3))) else (some (([] : List Int), t114)))
theorem symm_Apply.mono_l : ∀ k, (∀ y0 y1 y2 y3 y4 y5 y6, LeO (symm_Apply.l0 k y0 y1 y2 y3 y4 y5 y6) (symm_Apply.l0 (k + 1) y0 y1 y2 y3 y4 y5 y6))
  | 0 => fun _ _ _ _ _ _ _ r h => by simp [symm_Apply.l0] at h
  | k + 1 => by
    have ih0 := symm_Apply.mono_l k
    · intros
      unfold symm_Apply.l0
      repeat' first
      | (with_reducible apply ih0)
      | (with_reducible apply symm_image.mono)
      | (with_reducible exact LeO.refl _)
      | (with_reducible exact LeO.none _)
      | (with_reducible refine LeO.ite ?_ ?_)
      | (with_reducible refine LeO.bind ?_ (fun _ => ?_))
      | apply ih0
      | apply symm_image.mono
      | exact LeO.none _
      | refine LeO.ite ?_ ?_
      | refine LeO.bind ?_ (fun _ => ?_)
theorem symm_Apply.mono : ∀ a0 a1 a2 a3 k, LeO (symm_Apply.f k a0 a1 a2 a3) (symm_Apply.f (k + 1) a0 a1 a2 a3) := by
  intro a0 a1 a2 a3 k
  have ih0 := symm_Apply.mono_l k
  unfold symm_Apply.f
  repeat' first
      | (with_reducible apply ih0)
      | (with_reducible apply symm_image.mono)
      | (with_reducible exact LeO.refl _)
      | (with_reducible exact LeO.none _)
      | (with_reducible refine LeO.ite ?_ ?_)
      | (with_reducible refine LeO.bind ?_ (fun _ => ?_))
      | apply ih0
      | apply symm_image.mono
      | exact LeO.none _
      | refine LeO.ite ?_ ?_
      | refine LeO.bind ?_ (fun _ => ?_)
set_option maxHeartbeats 8000000 in
set_option maxRecDepth 100000 in
theorem symm_Apply.calls (k : Nat) (a0 : Int) (a1 : Int) (a2 : Int) (A3 : Option Addr) (c3 : Nat) (l3 : List Int) (r1 : List Int) (r2 : Int) (w : World) (hr3 : Kd.C (Kd.int .i64) w A3 l3.length l3) (hc3 : l3.length ≤ c3) (h : symm_Apply.f k a0 a1 a2 l3 = some (r1, r2)) :
    Calls Try.prog 18 #[.int .i64 a0, .int .i64 a1, .int .i64 a2, .slice A3 l3.length c3] w fun e w' => ∃ v0_ : Value, e = .returned (.tuple #[v0_, .int .i64 r2]) ∧ Kd.R (Kd.int .i64) 3 w' w.heap.size (fun _ => True) v0_ r1 ∧ Below w.heap.size w w' := by
 have HR3 := Aside0.mk hr3; have HC3 := Aside0.mk hc3; clear hr3 hc3; have HB := Aside0.mk (Below.refl w.heap.size w); have hss_ := @isSome_setCell
 have H : ((symm_check.f a0 a1 a2).bind fun t114 => (if t114 = 0 then (if (l3.length : Int) = (wrap64 (a0 * a1)) then (if 0 ≤ (l3.length : Int) then (if ((l3.length : Int) : Int).toNat ≤ 35184372088832 then (symm_Apply.l0 k a0 a1 a2 (List.replicate ((l3.length : Int) : Int).toNat 0) l3 (l3.length : Int) 0) else (none)) else (none)) else (some (([] : List Int), 3))) else (some (([] : List Int), t114)))) = some (r1, r2) := h
 clear h; replace H := Option.bind_eq_some_iff.mp H
 obtain ⟨t114, A50, H⟩ := H
 try dsimp only at H
 have A5 := Aside0.mk A50; clear A50
 by_cases c6 : t114 = 0
 ·rw [if_pos c6] at H
  have c6b0 : (t114 == 0) = true := beq_iff_eq.mpr c6
  have c6b1 : (t114 != 0) = false := bne_eq_false_iff_eq.mpr c6
  clear c6
  by_cases c7 : (l3.length : Int) = (wrap64 (a0 * a1))
  ·rw [if_pos c7] at H
   have c7b0 : ((l3.length : Int) == (wrap64 (a0 * a1))) = true := beq_iff_eq.mpr c7
   have c7b1 : ((l3.length : Int) != (wrap64 (a0 * a1))) = false := bne_eq_false_iff_eq.mpr c7
   clear c7
   by_cases c8 : 0 ≤ (l3.length : Int)
   ·rw [if_pos c8] at H
    have c8b0 := eq_true c8
    have c8b1 : decide (0 ≤ (l3.length : Int)) = true := decide_eq_true c8
    clear c8
    by_cases c9 : ((l3.length : Int) : Int).toNat ≤ 35184372088832
    ·rw [if_pos c9] at H
     have c9b0 := eq_true c9
     have c9b1 : decide (((l3.length : Int) : Int).toNat ≤ 35184372088832) = true := decide_eq_true c9
     clear c9
     obtain ⟨y115, hy115⟩ : ∃ y_ : List Int, y_ = (List.replicate ((l3.length : Int) : Int).toNat 0) := ⟨_, rfl⟩
     replace H : (symm_Apply.l0 k a0 a1 a2 y115 l3 (l3.length : Int) 0) = some (r1, r2) := by first | (rw [hy115]; with_reducible exact H) | (have H2_ := (Option.bind_some _ _).symm.trans H; rw [hy115]; with_reducible exact H2_) | (have H2_ := (Option.bind_some _ _).symm.trans H; with_reducible exact H2_) | with_reducible exact H | (rw [hy115]; exact H) | exact H
     have Ny115 := Aside0.mk hy115; clear hy115
     have H' := Aside0.mk H
     clear H
     go_enter Try.func18, Try.ntmps18
     go_wp2_with (first | ((with_reducible refine gate_callee (f := 27) rfl ?_); refine goesL_ (some 17) rfl rfl Try.func27 (by kernel_rfl) rfl #[.int .i64 a0, .int .i64 a1, .int .i64 a2] rfl (by (try simp only [List.map_toArray, List.map_cons, List.map_nil]); first | done | rfl | (simp only [List.length_drop, List.length_take]; rfl)) ?_; (with_reducible refine (symm_check.calls a0 a1 a2 t114 _ A5.out).mono ?_); rintro e w' ⟨rfl, ⟨nd, rfl⟩⟩; refine ⟨_, rfl, ?_⟩) | ((with_reducible refine gate_dst (N := 29) rfl ?_); refine Kd.R_make (Kd.int .i64) _ 3 rfl (N := 29) rfl 25 _ _ rfl (l3.length : Int) rfl rfl Try.underlying25 (.int .i64 0) 8 info3 rfl (by decide) (by omega) 0 (ok := fun _ => True) (okp := fun _ => True) rfl (fun _ hk => hk) trivial (of_decide_eq_true (by first | (with_reducible assumption) | assumption)) (Nat.le_trans (Nat.mul_le_mul_right _ (of_decide_eq_true (by first | (with_reducible assumption) | assumption) : (l3.length : Int).toNat ≤ 35184372088832)) (by omega)) (Below.refl _ _) (Nat.le_refl _) ?_; intro v116 w10 ho11 hb hg_ hnew_; clear hg_ hnew_; (first | rw [← Ny115.out] at ho11 | (simp only [Int.reduceToNat] at ho11; rw [← Ny115.out] at ho11)); have HO117 := Aside0.mk (Kd.R_lower ho11 (below_size (xW HB))); replace HB := Aside0.mk (xS HB hb); clear hb ho11))
     go_loopg [32] k (fun kq vs32 w' => ∃ (x11_1 : List Int) (x32_1 : Int), vs32 = .int .i64 x32_1 ∧ Aside0 (symm_Apply.l0 kq a0 a1 a2 x11_1 l3 (l3.length : Int) x32_1 = some (r1, r2)) ∧ Aside0 (kq ≤ k) ∧ Aside0 (Kd.R (Kd.int .i64) 3 w' w.heap.size (fun _ => True) v116 x11_1) ∧ Aside0 (Below w.heap.size w w'))
     case atStart => exact ⟨(y115), (0), (xrf), H', ⟨Nat.le_refl _⟩, ⟨by (with_reducible repeat (first | apply Kd.R_alloc | apply Kd.R_drewN | apply Kd.R_drew)); exact HO117.out⟩, ⟨xW HB⟩⟩
     case round =>
      clear H'; (try clear p2); (try clear p6)
      obtain ⟨x11_1, x32_1, rfl, HA, HK1, HO_11, HB⟩ := hrel
      cases gk with
      | zero => exact absurd HA.out (by simp [symm_Apply.l0])
      | succ k1 =>
       have H := HA.out; clear HA
       simp only [symm_Apply.l0] at H
       by_cases c12 : x32_1 < (l3.length : Int)
       ·rw [if_pos c12] at H
        have c12b0 : decide (x32_1 < (l3.length : Int)) = true := decide_eq_true c12
        clear c12
        by_cases c13 : 0 ≤ x32_1
        ·rw [if_pos c13] at H
         have c13b0 : decide (0 ≤ x32_1) = true := decide_eq_true c13
         clear c13
         by_cases c14 : x32_1 < (l3.length : Int)
         ·rw [if_pos c14] at H
          have c14b0 : decide (x32_1 < (l3.length : Int)) = true := decide_eq_true c14
          clear c14; replace H := Option.bind_eq_some_iff.mp H
          obtain ⟨t119, A150, H⟩ := H
          try dsimp only at H
          have A15 := Aside0.mk A150; clear A150
          by_cases c16 : 0 ≤ t119
          ·rw [if_pos c16] at H
           have c16b0 : decide (0 ≤ t119) = true := decide_eq_true c16
           clear c16
           by_cases c17 : t119 < (x11_1.length : Int)
           ·rw [if_pos c17] at H
            have c17b0 : decide (t119 < (x11_1.length : Int)) = true := decide_eq_true c17
            clear c17
            obtain ⟨y120, hy120⟩ : ∃ y_ : List Int, y_ = (x11_1.set (t119 : Int).toNat (rd l3 x32_1)) := ⟨_, rfl⟩
            replace H : (symm_Apply.l0 k1 a0 a1 a2 y120 l3 (l3.length : Int) (wrap64 (x32_1 + 1))) = some (r1, r2) := by first | (rw [hy120]; with_reducible exact H) | (have H2_ := (Option.bind_some _ _).symm.trans H; rw [hy120]; with_reducible exact H2_) | (have H2_ := (Option.bind_some _ _).symm.trans H; with_reducible exact H2_) | with_reducible exact H | (rw [hy120]; exact H) | exact H
            have Ny120 := Aside0.mk hy120; clear hy120
            have H' := Aside0.mk H
            clear H
            have p118 : 0 ≤ (x32_1 : Int) := of_decide_eq_true (by first | (with_reducible assumption) | assumption)
            have q118 : x32_1 < (l3.length : Int) := of_decide_eq_true (by first | (with_reducible assumption) | assumption)
            obtain ⟨ad118, e118, hx118_0⟩ := Kd.at_int HR3.out x32_1 p118 q118
            cases e118
            replace hx118_0 := (HB.out.cell (World.block_lt_of_cell? w _ hx118_0)).trans hx118_0; replace p118 := eq_true p118; replace q118 := eq_true q118
            go_wp2_with (first | ((with_reducible refine gate_callee (f := 28) rfl ?_); refine goesL_ (some 42) rfl rfl Try.func28 (by kernel_rfl) rfl #[.int .i64 a0, .int .i64 a1, .int .i64 a2, .int .i64 x32_1] rfl (by (try simp only [List.map_toArray, List.map_cons, List.map_nil]); first | done | rfl | (simp only [List.length_drop, List.length_take]; rfl)) ?_; (with_reducible refine (symm_image.calls k1 a0 a1 a2 x32_1 t119 _ A15.out).mono ?_); rintro e w' ⟨rfl, ⟨nd, rfl⟩⟩; refine ⟨_, rfl, ?_⟩; (try (rw [drewN_self wr]; generalize hq_ : World.drewN wr _ = wr; have n0_ : Aside0 (Kd.R (Kd.int .i64) 3 wr w.heap.size (fun _ => True) v116 x11_1) := ⟨by rw [← hq_]; exact (by (with_reducible repeat (first | apply Kd.R_alloc | apply Kd.R_drewN | apply Kd.R_drew)); exact HO_11.out)⟩; have n1_ : Aside0 (Below w.heap.size w wr) := ⟨by rw [← hq_]; exact (xW HB)⟩; clear HO_11 HB hq_; have HO_11 := n0_; have HB := n1_; clear n0_ n1_)); have p18 : 0 ≤ (t119 : Int) := of_decide_eq_true (by first | (with_reducible assumption) | assumption); have q18 : (t119 : Int) < ((x11_1.length : Int) : Int) := of_decide_eq_true (by first | (with_reducible assumption) | assumption); obtain ⟨go18, co18, eo18, gb18, gl18, cl18, HG18⟩ := Kd.R_form HO_11.out (by omega); (first | cases eo18 | (injection eo18 with ea_ en_ ec_; (first | subst ea_ | (injection ea_ with ea_; subst ea_)); subst ec_; clear en_)); have GB18 := Aside0.mk gb18; have GG18 := Aside0.mk HG18; clear gb18 gl18 HG18; obtain ⟨hx18_0, hf18_0⟩ := Kd.R_celln 0 HO_11.out (t119 : Int) p18 q18; replace p18 := eq_true p18; replace q18 := eq_true q18; obtain ⟨hy19_, hz19_⟩ := Kd.R_celln 0 HO_11.out (t119 : Int) (of_decide_eq_true (by first | (with_reducible assumption) | assumption)) (of_decide_eq_true (by first | (with_reducible assumption) | assumption)); have HP19 := Kd.R_putg HO_11.out (t119 : Int) (rd l3 x32_1)) | ((with_reducible refine gate_store (t := 3) (p := 44) rfl ?_); refine store_event (t := 3) (p := 44) (v := ?vo_w20) (w1 := (wr.setCell ⟨go18, (t119 : Int).toNat, none⟩ (.int .i64 (rd l3 x32_1)))) ?hg ?ho ?hn ?hr ?_; (case ho => rfl); (case hg => rfl); (case hn => rfl); (case hr => first | (go_simp; done) | (go_simp; rfl)); intro w20 hw; have hg : wr.grownBy w20 (some go18) := (by rw [hw]; exact HP19.2); have hp_ : Kd.R (Kd.int .i64) 3 w20 w.heap.size (fun _ => True) (.slice (some ⟨go18, 0, none⟩) x11_1.length co18) y120 := (by rw [hw, Ny120.out]; exact HP19.1); clear HP19; replace HO_11 := Aside0.mk (hp_); replace HB := Aside0.mk ((by rw [hw]; exact below_set (HB.out) GB18.out : Below w.heap.size w w20)); clear hg hw hp_))
            go_roundg k1
            case measure => have := HK1.out; omega
            case rel => exact ⟨(y120), (wrap64 (x32_1 + 1)), (xrf), H', ⟨by have := HK1.out; omega⟩, ⟨by (with_reducible repeat (first | apply Kd.R_alloc | apply Kd.R_drewN | apply Kd.R_drew)); exact HO_11.out⟩, ⟨xW HB⟩⟩
           ·rw [if_neg c17] at H
            exact absurd H (by simp)
          ·rw [if_neg c16] at H
           exact absurd H (by simp)
         ·rw [if_neg c14] at H
          exact absurd H (by simp)
        ·rw [if_neg c13] at H
         exact absurd H (by simp)
       ·rw [if_neg c12] at H
        have c12b0 : decide (x32_1 < (l3.length : Int)) = false := decide_eq_false c12
        clear c12
        simp only [Option.some.injEq, Prod.mk.injEq] at H
        obtain ⟨rfl, rfl⟩ := H
        go_wp2
        go_ret2
        exact ⟨_, xer, by (with_reducible repeat (first | apply Kd.R_alloc | apply Kd.R_drewN | apply Kd.R_drew)); exact HO_11.out, xW HB⟩
    ·rw [if_neg c9] at H
     exact absurd H (by simp)
   ·rw [if_neg c8] at H
    exact absurd H (by simp)
  ·rw [if_neg c7] at H
   have c7b0 : ((l3.length : Int) == (wrap64 (a0 * a1))) = false := beq_eq_false_iff_ne.mpr c7
   have c7b1 : ((l3.length : Int) != (wrap64 (a0 * a1))) = true := bne_iff_ne.mpr c7
   simp only [Option.some.injEq, Prod.mk.injEq] at H
   obtain ⟨rfl, rfl⟩ := H
   go_enter Try.func18, Try.ntmps18
   go_wp2_with (first | ((with_reducible refine gate_callee (f := 27) rfl ?_); refine goesL_ (some 17) rfl rfl Try.func27 (by kernel_rfl) rfl #[.int .i64 a0, .int .i64 a1, .int .i64 a2] rfl (by (try simp only [List.map_toArray, List.map_cons, List.map_nil]); first | done | rfl | (simp only [List.length_drop, List.length_take]; rfl)) ?_; (with_reducible refine (symm_check.calls a0 a1 a2 t114 _ A5.out).mono ?_); rintro e w' ⟨rfl, ⟨nd, rfl⟩⟩; refine ⟨_, rfl, ?_⟩))
   go_ret2
   exact ⟨_, xer, by first | exact Kd.R_nil _ _ _ _ _ | exact Kd.N_nil _ _ _ _ _ | exact Kd.V_nil _ _ _ _ _ | exact Kd.Q_nil _ _ _ _ _ | exact Kd.S_nil _ _ _ _ _, xW HB⟩
 ·rw [if_neg c6] at H
  have c6b0 : (t114 == 0) = false := beq_eq_false_iff_ne.mpr c6
  have c6b1 : (t114 != 0) = true := bne_iff_ne.mpr c6
  simp only [Option.some.injEq, Prod.mk.injEq] at H
  obtain ⟨rfl, rfl⟩ := H
  go_enter Try.func18, Try.ntmps18
  go_wp2_with (first | ((with_reducible refine gate_callee (f := 27) rfl ?_); refine goesL_ (some 17) rfl rfl Try.func27 (by kernel_rfl) rfl #[.int .i64 a0, .int .i64 a1, .int .i64 a2] rfl (by (try simp only [List.map_toArray, List.map_cons, List.map_nil]); first | done | rfl | (simp only [List.length_drop, List.length_take]; rfl)) ?_; (with_reducible refine (symm_check.calls a0 a1 a2 t114 _ A5.out).mono ?_); rintro e w' ⟨rfl, ⟨nd, rfl⟩⟩; refine ⟨_, rfl, ?_⟩))
  go_ret2
  exact ⟨_, xer, by first | exact Kd.R_nil _ _ _ _ _ | exact Kd.N_nil _ _ _ _ _ | exact Kd.V_nil _ _ _ _ _ | exact Kd.Q_nil _ _ _ _ _ | exact Kd.S_nil _ _ _ _ _, xW HB⟩

/-! ### symm_All: function 19 -/
def symm_All.l0 : Nat → List Int → Int → Int → Option (List Int × Int)
  | 0, _, _, _ => none
  | k + 1, x7, x20, x21 => if x21 < x20 then (if 0 ≤ x21 then (if x21 < (x7.length : Int) then (symm_All.l0 k (x7.set (x21 : Int).toNat x21) x20 (wrap64 (x21 + 1))) else (none)) else (none)) else (some (x7, 0))
def symm_All.f (k : Nat) (a0 : Int) (a1 : Int) : Option (List Int × Int) := (symm_Check.f a0 a1).bind fun t121 => (if t121 = 0 then ((symm_many.f a0 a1).bind fun t122 => (if 0 ≤ t122 then (if (t122 : Int).toNat ≤ 35184372088832 then ((some (List.replicate (t122 : Int).toNat 0 : List Int)).bind fun y123 => (symm_All.l0 k y123 (y123.length : Int) 0)) else (none)) else (none))) else (some (([] : List Int), t121)))
theorem symm_All.mono_l : ∀ k, (∀ y0 y1 y2, LeO (symm_All.l0 k y0 y1 y2) (symm_All.l0 (k + 1) y0 y1 y2))
  | 0 => fun _ _ _ r h => by simp [symm_All.l0] at h
  | k + 1 => by
    have ih0 := symm_All.mono_l k
    · intros
      unfold symm_All.l0
      repeat' first
      | (with_reducible apply ih0)
      | (with_reducible exact LeO.refl _)
      | (with_reducible exact LeO.none _)
      | (with_reducible refine LeO.ite ?_ ?_)
      | (with_reducible refine LeO.bind ?_ (fun _ => ?_))
      | apply ih0
      | exact LeO.none _
      | refine LeO.ite ?_ ?_
      | refine LeO.bind ?_ (fun _ => ?_)
theorem symm_All.mono : ∀ a0 a1 k, LeO (symm_All.f k a0 a1) (symm_All.f (k + 1) a0 a1) := by
  intro a0 a1 k
  have ih0 := symm_All.mono_l k
  unfold symm_All.f
  repeat' first
      | (with_reducible apply ih0)
      | (with_reducible exact LeO.refl _)
      | (with_reducible exact LeO.none _)
      | (with_reducible refine LeO.ite ?_ ?_)
      | (with_reducible refine LeO.bind ?_ (fun _ => ?_))
      | apply ih0
      | exact LeO.none _
      | refine LeO.ite ?_ ?_
      | refine LeO.bind ?_ (fun _ => ?_)
set_option maxHeartbeats 8000000 in
set_option maxRecDepth 100000 in
theorem symm_All.calls (k : Nat) (a0 : Int) (a1 : Int) (r1 : List Int) (r2 : Int) (w : World) (h : symm_All.f k a0 a1 = some (r1, r2)) :
    Calls Try.prog 19 #[.int .i64 a0, .int .i64 a1] w fun e w' => ∃ v0_ : Value, e = .returned (.tuple #[v0_, .int .i64 r2]) ∧ Kd.R (Kd.int .i64) 3 w' w.heap.size (fun _ => True) v0_ r1 ∧ Below w.heap.size w w' := by
 have HB := Aside0.mk (Below.refl w.heap.size w); have hss_ := @isSome_setCell
 have H : ((symm_Check.f a0 a1).bind fun t121 => (if t121 = 0 then ((symm_many.f a0 a1).bind fun t122 => (if 0 ≤ t122 then (if (t122 : Int).toNat ≤ 35184372088832 then ((some (List.replicate (t122 : Int).toNat 0 : List Int)).bind fun y123 => (symm_All.l0 k y123 (y123.length : Int) 0)) else (none)) else (none))) else (some (([] : List Int), t121)))) = some (r1, r2) := h
 clear h; replace H := Option.bind_eq_some_iff.mp H
 obtain ⟨t121, A30, H⟩ := H
 try dsimp only at H
 have A3 := Aside0.mk A30; clear A30
 by_cases c4 : t121 = 0
 ·rw [if_pos c4] at H
  have c4b0 : (t121 == 0) = true := beq_iff_eq.mpr c4
  have c4b1 : (t121 != 0) = false := bne_eq_false_iff_eq.mpr c4
  clear c4; replace H := Option.bind_eq_some_iff.mp H
  obtain ⟨t122, A50, H⟩ := H
  try dsimp only at H
  have A5 := Aside0.mk A50; clear A50
  by_cases c6 : 0 ≤ t122
  ·rw [if_pos c6] at H
   have c6b0 := eq_true c6
   have c6b1 : decide (0 ≤ t122) = true := decide_eq_true c6
   clear c6
   by_cases c7 : (t122 : Int).toNat ≤ 35184372088832
   ·rw [if_pos c7] at H
    have c7b0 := eq_true c7
    have c7b1 : decide ((t122 : Int).toNat ≤ 35184372088832) = true := decide_eq_true c7
    clear c7
    obtain ⟨y123, hy123⟩ : ∃ y_ : List Int, y_ = (List.replicate (t122 : Int).toNat 0) := ⟨_, rfl⟩
    replace H : (symm_All.l0 k y123 (y123.length : Int) 0) = some (r1, r2) := by first | (rw [hy123]; with_reducible exact H) | (have H2_ := (Option.bind_some _ _).symm.trans H; rw [hy123]; with_reducible exact H2_) | (have H2_ := (Option.bind_some _ _).symm.trans H; with_reducible exact H2_) | with_reducible exact H | (rw [hy123]; exact H) | exact H
    have Ny123 := Aside0.mk hy123; clear hy123
    have H' := Aside0.mk H
    clear H
    go_enter Try.func19, Try.ntmps19
    go_wp2_with (first | ((with_reducible refine gate_callee (f := 32) rfl ?_); refine goesL_ (some 11) rfl rfl Try.func32 (by kernel_rfl) rfl #[.int .i64 a0, .int .i64 a1] rfl (by (try simp only [List.map_toArray, List.map_cons, List.map_nil]); first | done | rfl | (simp only [List.length_drop, List.length_take]; rfl)) ?_; (with_reducible refine (symm_Check.calls a0 a1 t121 _ A3.out).mono ?_); rintro e w' ⟨rfl, ⟨nd, rfl⟩⟩; refine ⟨_, rfl, ?_⟩) | ((with_reducible refine gate_callee (f := 29) rfl ?_); refine goesL_ (some 17) rfl rfl Try.func29 (by kernel_rfl) rfl #[.int .i64 a0, .int .i64 a1] rfl (by (try simp only [List.map_toArray, List.map_cons, List.map_nil]); first | done | rfl | (simp only [List.length_drop, List.length_take]; rfl)) ?_; (with_reducible refine (symm_many.calls a0 a1 t122 _ A5.out).mono ?_); rintro e w' ⟨rfl, ⟨nd, rfl⟩⟩; refine ⟨_, rfl, ?_⟩) | ((with_reducible refine gate_dst (N := 18) rfl ?_); refine Kd.R_make (Kd.int .i64) _ 3 rfl (N := 18) rfl 25 _ _ rfl t122 rfl rfl Try.underlying25 (.int .i64 0) 8 info3 rfl (by decide) (by omega) 0 (ok := fun _ => True) (okp := fun _ => True) rfl (fun _ hk => hk) trivial (of_decide_eq_true (by first | (with_reducible assumption) | assumption)) (Nat.le_trans (Nat.mul_le_mul_right _ (of_decide_eq_true (by first | (with_reducible assumption) | assumption) : t122.toNat ≤ 35184372088832)) (by omega)) (Below.refl _ _) (Nat.le_refl _) ?_; intro v124 w8 ho9 hb hg_ hnew_; clear hg_ hnew_; (first | rw [← Ny123.out] at ho9 | (simp only [Int.reduceToNat] at ho9; rw [← Ny123.out] at ho9)); have HO125 := Aside0.mk (Kd.R_lower ho9 (below_size (xW HB))); replace HB := Aside0.mk (xS HB hb); clear hb ho9; obtain ⟨Ao10, co10, eo10⟩ := Kd.R_slice HO125.out; subst eo10))
    go_loopg [21] k (fun kq vs21 w' => ∃ (x7_1 : List Int) (x21_1 : Int), vs21 = .int .i64 x21_1 ∧ Aside0 (symm_All.l0 kq x7_1 (y123.length : Int) x21_1 = some (r1, r2)) ∧ Aside0 (kq ≤ k) ∧ Aside0 (Kd.R (Kd.int .i64) 3 w' w.heap.size (fun _ => True) (.slice Ao10 y123.length co10) x7_1) ∧ Aside0 (Below w.heap.size w w'))
    case atStart => exact ⟨(y123), (0), (xrf), H', ⟨Nat.le_refl _⟩, ⟨by (with_reducible repeat (first | apply Kd.R_alloc | apply Kd.R_drewN | apply Kd.R_drew)); exact HO125.out⟩, ⟨xW HB⟩⟩
    case round =>
     clear H'; (try clear p2)
     obtain ⟨x7_1, x21_1, rfl, HA, HK1, HO_7, HB⟩ := hrel
     have hl7_1 := (Kd.R_reads' HO_7.out).1
     rw [hl7_1] at HO_7
     (try simp only [hl7_1])
     cases gk with
     | zero => exact absurd HA.out (by simp [symm_All.l0])
     | succ k1 =>
      have H := HA.out; clear HA
      simp only [symm_All.l0] at H
      by_cases c11 : x21_1 < (y123.length : Int)
      ·rw [if_pos c11] at H
       have c11b0 : decide (x21_1 < (y123.length : Int)) = true := decide_eq_true c11
       (try (have c11b0l := c11b0; simp only [hl7_1] at c11b0l))
       clear c11
       by_cases c12 : 0 ≤ x21_1
       ·rw [if_pos c12] at H
        have c12b0 : decide (0 ≤ x21_1) = true := decide_eq_true c12
        clear c12
        by_cases c13 : x21_1 < (x7_1.length : Int)
        ·rw [if_pos c13] at H
         have c13b0 : decide (x21_1 < (x7_1.length : Int)) = true := decide_eq_true c13
         clear c13
         obtain ⟨y126, hy126⟩ : ∃ y_ : List Int, y_ = (x7_1.set (x21_1 : Int).toNat x21_1) := ⟨_, rfl⟩
         replace H : (symm_All.l0 k1 y126 (y123.length : Int) (wrap64 (x21_1 + 1))) = some (r1, r2) := by first | (rw [hy126]; with_reducible exact H) | (have H2_ := (Option.bind_some _ _).symm.trans H; rw [hy126]; with_reducible exact H2_) | (have H2_ := (Option.bind_some _ _).symm.trans H; with_reducible exact H2_) | with_reducible exact H | (rw [hy126]; exact H) | exact H
         have Ny126 := Aside0.mk hy126; clear hy126
         have H' := Aside0.mk H
         clear H
         have p14 : 0 ≤ (x21_1 : Int) := of_decide_eq_true (by first | (with_reducible assumption) | assumption)
         have q14 : (x21_1 : Int) < ((x7_1.length : Int) : Int) := of_decide_eq_true (by first | (with_reducible assumption) | assumption)
         obtain ⟨go14, co14, eo14, gb14, gl14, cl14, HG14⟩ := Kd.R_form HO_7.out (by omega)
         (first | cases eo14 | (injection eo14 with ea_ en_ ec_; (first | subst ea_ | (injection ea_ with ea_; subst ea_)); subst ec_; clear en_))
         have GB14 := Aside0.mk gb14; have GG14 := Aside0.mk HG14; clear gb14 gl14 HG14
         obtain ⟨hx14_0, hf14_0⟩ := Kd.R_celln 0 HO_7.out (x21_1 : Int) p14 q14
         replace p14 := eq_true p14; replace q14 := eq_true q14; have HP15 := Kd.R_putg HO_7.out (x21_1 : Int) x21_1
         go_wp2_with (first | ((with_reducible refine gate_store (t := 3) (p := 27) rfl ?_); refine store_event (t := 3) (p := 27) (v := ?vo_w16) (w1 := (wr.setCell ⟨go14, (x21_1 : Int).toNat, none⟩ (.int .i64 x21_1))) ?hg ?ho ?hn ?hr ?_; (case ho => rfl); (case hg => rfl); (case hn => rfl); (case hr => first | (go_simp; done) | (go_simp; rfl)); intro w16 hw; have hg : wr.grownBy w16 (some go14) := (by rw [hw]; exact HP15.2); have hp_ : Kd.R (Kd.int .i64) 3 w16 w.heap.size (fun _ => True) (.slice (some ⟨go14, 0, none⟩) x7_1.length co10) y126 := (by rw [hw, Ny126.out]; exact HP15.1); clear HP15; replace HO_7 := Aside0.mk (hp_); replace HB := Aside0.mk ((by rw [hw]; exact below_set (HB.out) GB14.out : Below w.heap.size w w16)); clear hg hw hp_))
         (try simp only [← hl7_1])
         go_roundg k1
         case measure => have := HK1.out; omega
         case rel => exact ⟨(y126), (wrap64 (x21_1 + 1)), (xrf), H', ⟨by have := HK1.out; omega⟩, ⟨by (try simp only [hl7_1]); (with_reducible repeat (first | apply Kd.R_alloc | apply Kd.R_drewN | apply Kd.R_drew)); exact HO_7.out⟩, ⟨xW HB⟩⟩
        ·rw [if_neg c13] at H
         exact absurd H (by simp)
       ·rw [if_neg c12] at H
        exact absurd H (by simp)
      ·rw [if_neg c11] at H
       have c11b0 : decide (x21_1 < (y123.length : Int)) = false := decide_eq_false c11
       (try (have c11b0l := c11b0; simp only [hl7_1] at c11b0l))
       clear c11
       simp only [Option.some.injEq, Prod.mk.injEq] at H
       obtain ⟨rfl, rfl⟩ := H
       go_wp2
       go_ret2
       exact ⟨_, xer, by (with_reducible repeat (first | apply Kd.R_alloc | apply Kd.R_drewN | apply Kd.R_drew)); exact HO_7.out, xW HB⟩
   ·rw [if_neg c7] at H
    exact absurd H (by simp)
  ·rw [if_neg c6] at H
   exact absurd H (by simp)
 ·rw [if_neg c4] at H
  have c4b0 : (t121 == 0) = false := beq_eq_false_iff_ne.mpr c4
  have c4b1 : (t121 != 0) = true := bne_iff_ne.mpr c4
  simp only [Option.some.injEq, Prod.mk.injEq] at H
  obtain ⟨rfl, rfl⟩ := H
  go_enter Try.func19, Try.ntmps19
  go_wp2_with (first | ((with_reducible refine gate_callee (f := 32) rfl ?_); refine goesL_ (some 11) rfl rfl Try.func32 (by kernel_rfl) rfl #[.int .i64 a0, .int .i64 a1] rfl (by (try simp only [List.map_toArray, List.map_cons, List.map_nil]); first | done | rfl | (simp only [List.length_drop, List.length_take]; rfl)) ?_; (with_reducible refine (symm_Check.calls a0 a1 t121 _ A3.out).mono ?_); rintro e w' ⟨rfl, ⟨nd, rfl⟩⟩; refine ⟨_, rfl, ?_⟩))
  go_ret2
  exact ⟨_, xer, by first | exact Kd.R_nil _ _ _ _ _ | exact Kd.N_nil _ _ _ _ _ | exact Kd.V_nil _ _ _ _ _ | exact Kd.Q_nil _ _ _ _ _ | exact Kd.S_nil _ _ _ _ _, xW HB⟩

end Go.Proofs.Ytikijopbgjncbaa.PSymmMaps
