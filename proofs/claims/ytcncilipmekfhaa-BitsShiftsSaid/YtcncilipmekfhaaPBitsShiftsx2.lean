-- Printed by a program of this claim's writer (wip/ext): an extension of the kit's print.
import Derived.Test.YtcncilipmekfhaaPBitsShiftsx0
import Derived.Test.YtcncilipmekfhaaPBitsShiftsx1
namespace Go.Proofs.Ytcncilipmekfhaa.PBitsShifts
open Go.RowKit Go.Proofs.YtcncilipmekfhaaW.PrintWords Go.Proofs.YtcncilipmekfhaaW.PrintLast Go.Proofs.YtcncilipmekfhaaW.PrintMore
attribute [local go_sem] max2_int min2_int max_two min_two max_three min_three max_four min_four   -- for this text's walks alone
set_option linter.unusedVariables false
set_option linter.unusedSimpArgs false

/-! ### gamehalllaw1_BitsShifts: function 5 -/
mutual
def gamehalllaw1_BitsShifts.j0 : Nat → Int → Int → Int → Int → Bool → Option (Bool)
  | 0, _, _, _, _, _ => none
  | k + 1, x0, x1, x2, x3, x23 => if x23 = true then (some false) else ((bits_Ray.f k 0 1 0 4).bind fun bt107 => (if bt107.2 = 0 then (gamehalllaw1_BitsShifts.j1 k x0 x1 x2 x3 (bt107.1 != 6)) else (gamehalllaw1_BitsShifts.j1 k x0 x1 x2 x3 true)))
def gamehalllaw1_BitsShifts.j1 : Nat → Int → Int → Int → Int → Bool → Option (Bool)
  | 0, _, _, _, _, _ => none
  | k + 1, x0, x1, x2, x3, x33 => if x33 = true then (some false) else (gamehalllaw1_BitsShifts.l0 k x0 x1 x2 x3 0 0)
def gamehalllaw1_BitsShifts.l0 : Nat → Int → Int → Int → Int → Int → Int → Option (Bool)
  | 0, _, _, _, _, _, _ => none
  | k + 1, x0, x1, x2, x3, x11, x34 => if x34 < 64 then (if 0 ≤ x34 then (if (Go.bits .and .u64 (shr .u64 x0 x34) 1) = 1 then ((gamehallref1_In.f x1 (-8) 8).bind fun t109 => (if t109 = true then ((gamehallref1_In.f x2 (-8) 8).bind fun t110 => (if t110 = true then ((gamehallref1_In.f (wrap64 ((Int.tmod x34 8) + x1)) 0 7).bind fun t111 => (if t111 = true then ((gamehallref1_In.f (wrap64 ((wrap64 (Int.tdiv x34 8)) + x2)) 0 7).bind fun t112 => (if t112 = true then (if 0 ≤ (wrap64 ((wrap64 (x34 + x1)) + (wrap64 (8 * x2)))) then (gamehalllaw1_BitsShifts.l0 k x0 x1 x2 x3 (Go.bits .or .u64 x11 (shl .u64 1 (wrap64 ((wrap64 (x34 + x1)) + (wrap64 (8 * x2)))))) (wrap64 (x34 + 1))) else (none)) else (gamehalllaw1_BitsShifts.l0 k x0 x1 x2 x3 x11 (wrap64 (x34 + 1))))) else (gamehalllaw1_BitsShifts.l0 k x0 x1 x2 x3 x11 (wrap64 (x34 + 1))))) else (gamehalllaw1_BitsShifts.l0 k x0 x1 x2 x3 x11 (wrap64 (x34 + 1))))) else (gamehalllaw1_BitsShifts.l0 k x0 x1 x2 x3 x11 (wrap64 (x34 + 1))))) else (gamehalllaw1_BitsShifts.l0 k x0 x1 x2 x3 x11 (wrap64 (x34 + 1)))) else (none)) else ((bits_Shift.f k x0 x1 x2).bind fun t113 => (if t113 = x11 then ((bits_Ray.f k x3 x1 x2 x0).bind fun bt114 => ((gamehallref1_In.f x3 0 63).bind fun t116 => (if t116 = true then ((gamehallref1_In.f x1 (-1) 1).bind fun t117 => (if t117 = true then ((gamehallref1_In.f x2 (-1) 1).bind fun t118 => (if t118 = true then (if x1 = 0 then (gamehalllaw1_BitsShifts.j3 k x0 x1 x2 x3 bt114.1 bt114.2 (x2 == 0)) else (gamehalllaw1_BitsShifts.j3 k x0 x1 x2 x3 bt114.1 bt114.2 false)) else (gamehalllaw1_BitsShifts.j3 k x0 x1 x2 x3 bt114.1 bt114.2 true))) else (gamehalllaw1_BitsShifts.j3 k x0 x1 x2 x3 bt114.1 bt114.2 true))) else (if bt114.2 = 4 then (some (bt114.1 == 0)) else (some false))))) else (some false)))
def gamehalllaw1_BitsShifts.j3 : Nat → Int → Int → Int → Int → Int → Int → Bool → Option (Bool)
  | 0, _, _, _, _, _, _, _ => none
  | k + 1, x0, x1, x2, x3, x13, x14, x112 => if x112 = true then (if x14 = 1 then (some (x13 == 0)) else (some false)) else (gamehalllaw1_BitsShifts.l1 k x0 x1 x2 x13 x14 0 (wrap64 ((Int.tmod x3 8) + x1)) (wrap64 ((wrap64 (Int.tdiv x3 8)) + x2)))
def gamehalllaw1_BitsShifts.l1 : Nat → Int → Int → Int → Int → Int → Int → Int → Int → Option (Bool)
  | 0, _, _, _, _, _, _, _, _ => none
  | k + 1, x0, x1, x2, x13, x14, x15, x16, x17 => (gamehallref1_In.f x16 0 7).bind fun t119 => (if t119 = true then ((gamehallref1_In.f x17 0 7).bind fun t120 => (gamehalllaw1_BitsShifts.j5 k x0 x1 x2 x13 x14 x15 x16 x17 t120)) else (gamehalllaw1_BitsShifts.j5 k x0 x1 x2 x13 x14 x15 x16 x17 false))
def gamehalllaw1_BitsShifts.j5 : Nat → Int → Int → Int → Int → Int → Int → Int → Int → Bool → Option (Bool)
  | 0, _, _, _, _, _, _, _, _, _ => none
  | k + 1, x0, x1, x2, x13, x14, x15, x16, x17, x132 => if x132 = true then (if 0 ≤ (wrap64 (x16 + (wrap64 (8 * x17)))) then (if (Go.bits .and .u64 (shr .u64 x0 (wrap64 (x16 + (wrap64 (8 * x17))))) 1) = 1 then (if x14 = 0 then (some (x13 == (Go.bits .or .u64 x15 (shl .u64 1 (wrap64 (x16 + (wrap64 (8 * x17)))))))) else (some false)) else (gamehalllaw1_BitsShifts.l1 k x0 x1 x2 x13 x14 (Go.bits .or .u64 x15 (shl .u64 1 (wrap64 (x16 + (wrap64 (8 * x17)))))) (wrap64 (x16 + x1)) (wrap64 (x17 + x2)))) else (none)) else (if x14 = 0 then (some (x13 == x15)) else (some false))
end
def gamehalllaw1_BitsShifts.f (k : Nat) (a0 : Int) (a1 : Int) (a2 : Int) (a3 : Int) : Option (Bool) := (bits_Shift.f k 128 1 0).bind fun t105 => (if t105 = 0 then ((bits_Shift.f k 1 1 1).bind fun t106 => (gamehalllaw1_BitsShifts.j0 k a0 a1 a2 a3 (t106 != 512))) else (gamehalllaw1_BitsShifts.j0 k a0 a1 a2 a3 true))
theorem gamehalllaw1_BitsShifts.mono_l : ∀ k, (∀ y0 y1 y2 y3 y4, LeO (gamehalllaw1_BitsShifts.j0 k y0 y1 y2 y3 y4) (gamehalllaw1_BitsShifts.j0 (k + 1) y0 y1 y2 y3 y4)) ∧ (∀ y0 y1 y2 y3 y4, LeO (gamehalllaw1_BitsShifts.j1 k y0 y1 y2 y3 y4) (gamehalllaw1_BitsShifts.j1 (k + 1) y0 y1 y2 y3 y4)) ∧ (∀ y0 y1 y2 y3 y4 y5, LeO (gamehalllaw1_BitsShifts.l0 k y0 y1 y2 y3 y4 y5) (gamehalllaw1_BitsShifts.l0 (k + 1) y0 y1 y2 y3 y4 y5)) ∧ (∀ y0 y1 y2 y3 y4 y5 y6, LeO (gamehalllaw1_BitsShifts.j3 k y0 y1 y2 y3 y4 y5 y6) (gamehalllaw1_BitsShifts.j3 (k + 1) y0 y1 y2 y3 y4 y5 y6)) ∧ (∀ y0 y1 y2 y3 y4 y5 y6 y7, LeO (gamehalllaw1_BitsShifts.l1 k y0 y1 y2 y3 y4 y5 y6 y7) (gamehalllaw1_BitsShifts.l1 (k + 1) y0 y1 y2 y3 y4 y5 y6 y7)) ∧ (∀ y0 y1 y2 y3 y4 y5 y6 y7 y8, LeO (gamehalllaw1_BitsShifts.j5 k y0 y1 y2 y3 y4 y5 y6 y7 y8) (gamehalllaw1_BitsShifts.j5 (k + 1) y0 y1 y2 y3 y4 y5 y6 y7 y8))
  | 0 => ⟨fun _ _ _ _ _ r h => by simp [gamehalllaw1_BitsShifts.j0] at h, fun _ _ _ _ _ r h => by simp [gamehalllaw1_BitsShifts.j1] at h, fun _ _ _ _ _ _ r h => by simp [gamehalllaw1_BitsShifts.l0] at h, fun _ _ _ _ _ _ _ r h => by simp [gamehalllaw1_BitsShifts.j3] at h, fun _ _ _ _ _ _ _ _ r h => by simp [gamehalllaw1_BitsShifts.l1] at h, fun _ _ _ _ _ _ _ _ _ r h => by simp [gamehalllaw1_BitsShifts.j5] at h⟩
  | k + 1 => by
    obtain ⟨ih0, ih1, ih2, ih3, ih4, ih5⟩ := gamehalllaw1_BitsShifts.mono_l k
    refine ⟨?_, ?_, ?_, ?_, ?_, ?_⟩
    · intro y0 y1 y2 y3 y4
      unfold gamehalllaw1_BitsShifts.j0
      repeat' first
      | (with_reducible exact ih0 _ _ _ _ _)
      | (with_reducible exact ih1 _ _ _ _ _)
      | (with_reducible exact ih2 _ _ _ _ _ _)
      | (with_reducible exact ih3 _ _ _ _ _ _ _)
      | (with_reducible exact ih4 _ _ _ _ _ _ _ _)
      | (with_reducible exact ih5 _ _ _ _ _ _ _ _ _)
      | (with_reducible exact bits_Ray.mono _ _ _ _ _)
      | (with_reducible exact bits_Shift.mono _ _ _ _)
      | (with_reducible exact LeO.refl _)
      | (with_reducible exact LeO.none _)
      | (with_reducible refine LeO.ite ?_ ?_)
      | (with_reducible refine LeO.bind ?_ (fun _ => ?_))
      | exact ih0 _ _ _ _ _
      | exact ih1 _ _ _ _ _
      | exact ih2 _ _ _ _ _ _
      | exact ih3 _ _ _ _ _ _ _
      | exact ih4 _ _ _ _ _ _ _ _
      | exact ih5 _ _ _ _ _ _ _ _ _
      | exact bits_Ray.mono _ _ _ _ _
      | exact bits_Shift.mono _ _ _ _
      | exact LeO.none _
      | refine LeO.ite ?_ ?_
      | refine LeO.bind ?_ (fun _ => ?_)
    · intro y0 y1 y2 y3 y4
      unfold gamehalllaw1_BitsShifts.j1
      repeat' first
      | (with_reducible exact ih0 _ _ _ _ _)
      | (with_reducible exact ih1 _ _ _ _ _)
      | (with_reducible exact ih2 _ _ _ _ _ _)
      | (with_reducible exact ih3 _ _ _ _ _ _ _)
      | (with_reducible exact ih4 _ _ _ _ _ _ _ _)
      | (with_reducible exact ih5 _ _ _ _ _ _ _ _ _)
      | (with_reducible exact bits_Ray.mono _ _ _ _ _)
      | (with_reducible exact bits_Shift.mono _ _ _ _)
      | (with_reducible exact LeO.refl _)
      | (with_reducible exact LeO.none _)
      | (with_reducible refine LeO.ite ?_ ?_)
      | (with_reducible refine LeO.bind ?_ (fun _ => ?_))
      | exact ih0 _ _ _ _ _
      | exact ih1 _ _ _ _ _
      | exact ih2 _ _ _ _ _ _
      | exact ih3 _ _ _ _ _ _ _
      | exact ih4 _ _ _ _ _ _ _ _
      | exact ih5 _ _ _ _ _ _ _ _ _
      | exact bits_Ray.mono _ _ _ _ _
      | exact bits_Shift.mono _ _ _ _
      | exact LeO.none _
      | refine LeO.ite ?_ ?_
      | refine LeO.bind ?_ (fun _ => ?_)
    · intro y0 y1 y2 y3 y4 y5
      unfold gamehalllaw1_BitsShifts.l0
      repeat' first
      | (with_reducible exact ih0 _ _ _ _ _)
      | (with_reducible exact ih1 _ _ _ _ _)
      | (with_reducible exact ih2 _ _ _ _ _ _)
      | (with_reducible exact ih3 _ _ _ _ _ _ _)
      | (with_reducible exact ih4 _ _ _ _ _ _ _ _)
      | (with_reducible exact ih5 _ _ _ _ _ _ _ _ _)
      | (with_reducible exact bits_Ray.mono _ _ _ _ _)
      | (with_reducible exact bits_Shift.mono _ _ _ _)
      | (with_reducible exact LeO.refl _)
      | (with_reducible exact LeO.none _)
      | (with_reducible refine LeO.ite ?_ ?_)
      | (with_reducible refine LeO.bind ?_ (fun _ => ?_))
      | exact ih0 _ _ _ _ _
      | exact ih1 _ _ _ _ _
      | exact ih2 _ _ _ _ _ _
      | exact ih3 _ _ _ _ _ _ _
      | exact ih4 _ _ _ _ _ _ _ _
      | exact ih5 _ _ _ _ _ _ _ _ _
      | exact bits_Ray.mono _ _ _ _ _
      | exact bits_Shift.mono _ _ _ _
      | exact LeO.none _
      | refine LeO.ite ?_ ?_
      | refine LeO.bind ?_ (fun _ => ?_)
    · intro y0 y1 y2 y3 y4 y5 y6
      unfold gamehalllaw1_BitsShifts.j3
      repeat' first
      | (with_reducible exact ih0 _ _ _ _ _)
      | (with_reducible exact ih1 _ _ _ _ _)
      | (with_reducible exact ih2 _ _ _ _ _ _)
      | (with_reducible exact ih3 _ _ _ _ _ _ _)
      | (with_reducible exact ih4 _ _ _ _ _ _ _ _)
      | (with_reducible exact ih5 _ _ _ _ _ _ _ _ _)
      | (with_reducible exact bits_Ray.mono _ _ _ _ _)
      | (with_reducible exact bits_Shift.mono _ _ _ _)
      | (with_reducible exact LeO.refl _)
      | (with_reducible exact LeO.none _)
      | (with_reducible refine LeO.ite ?_ ?_)
      | (with_reducible refine LeO.bind ?_ (fun _ => ?_))
      | exact ih0 _ _ _ _ _
      | exact ih1 _ _ _ _ _
      | exact ih2 _ _ _ _ _ _
      | exact ih3 _ _ _ _ _ _ _
      | exact ih4 _ _ _ _ _ _ _ _
      | exact ih5 _ _ _ _ _ _ _ _ _
      | exact bits_Ray.mono _ _ _ _ _
      | exact bits_Shift.mono _ _ _ _
      | exact LeO.none _
      | refine LeO.ite ?_ ?_
      | refine LeO.bind ?_ (fun _ => ?_)
    · intro y0 y1 y2 y3 y4 y5 y6 y7
      unfold gamehalllaw1_BitsShifts.l1
      repeat' first
      | (with_reducible exact ih0 _ _ _ _ _)
      | (with_reducible exact ih1 _ _ _ _ _)
      | (with_reducible exact ih2 _ _ _ _ _ _)
      | (with_reducible exact ih3 _ _ _ _ _ _ _)
      | (with_reducible exact ih4 _ _ _ _ _ _ _ _)
      | (with_reducible exact ih5 _ _ _ _ _ _ _ _ _)
      | (with_reducible exact bits_Ray.mono _ _ _ _ _)
      | (with_reducible exact bits_Shift.mono _ _ _ _)
      | (with_reducible exact LeO.refl _)
      | (with_reducible exact LeO.none _)
      | (with_reducible refine LeO.ite ?_ ?_)
      | (with_reducible refine LeO.bind ?_ (fun _ => ?_))
      | exact ih0 _ _ _ _ _
      | exact ih1 _ _ _ _ _
      | exact ih2 _ _ _ _ _ _
      | exact ih3 _ _ _ _ _ _ _
      | exact ih4 _ _ _ _ _ _ _ _
      | exact ih5 _ _ _ _ _ _ _ _ _
      | exact bits_Ray.mono _ _ _ _ _
      | exact bits_Shift.mono _ _ _ _
      | exact LeO.none _
      | refine LeO.ite ?_ ?_
      | refine LeO.bind ?_ (fun _ => ?_)
    · intro y0 y1 y2 y3 y4 y5 y6 y7 y8
      unfold gamehalllaw1_BitsShifts.j5
      repeat' first
      | (with_reducible exact ih0 _ _ _ _ _)
      | (with_reducible exact ih1 _ _ _ _ _)
      | (with_reducible exact ih2 _ _ _ _ _ _)
      | (with_reducible exact ih3 _ _ _ _ _ _ _)
      | (with_reducible exact ih4 _ _ _ _ _ _ _ _)
      | (with_reducible exact ih5 _ _ _ _ _ _ _ _ _)
      | (with_reducible exact bits_Ray.mono _ _ _ _ _)
      | (with_reducible exact bits_Shift.mono _ _ _ _)
      | (with_reducible exact LeO.refl _)
      | (with_reducible exact LeO.none _)
      | (with_reducible refine LeO.ite ?_ ?_)
      | (with_reducible refine LeO.bind ?_ (fun _ => ?_))
      | exact ih0 _ _ _ _ _
      | exact ih1 _ _ _ _ _
      | exact ih2 _ _ _ _ _ _
      | exact ih3 _ _ _ _ _ _ _
      | exact ih4 _ _ _ _ _ _ _ _
      | exact ih5 _ _ _ _ _ _ _ _ _
      | exact bits_Ray.mono _ _ _ _ _
      | exact bits_Shift.mono _ _ _ _
      | exact LeO.none _
      | refine LeO.ite ?_ ?_
      | refine LeO.bind ?_ (fun _ => ?_)
theorem gamehalllaw1_BitsShifts.mono : ∀ a0 a1 a2 a3 k, LeO (gamehalllaw1_BitsShifts.f k a0 a1 a2 a3) (gamehalllaw1_BitsShifts.f (k + 1) a0 a1 a2 a3) := by
  intro a0 a1 a2 a3 k
  obtain ⟨ih0, ih1, ih2, ih3, ih4, ih5⟩ := gamehalllaw1_BitsShifts.mono_l k
  unfold gamehalllaw1_BitsShifts.f
  repeat' first
      | (with_reducible exact ih0 _ _ _ _ _)
      | (with_reducible exact ih1 _ _ _ _ _)
      | (with_reducible exact ih2 _ _ _ _ _ _)
      | (with_reducible exact ih3 _ _ _ _ _ _ _)
      | (with_reducible exact ih4 _ _ _ _ _ _ _ _)
      | (with_reducible exact ih5 _ _ _ _ _ _ _ _ _)
      | (with_reducible exact bits_Ray.mono _ _ _ _ _)
      | (with_reducible exact bits_Shift.mono _ _ _ _)
      | (with_reducible exact LeO.refl _)
      | (with_reducible exact LeO.none _)
      | (with_reducible refine LeO.ite ?_ ?_)
      | (with_reducible refine LeO.bind ?_ (fun _ => ?_))
      | exact ih0 _ _ _ _ _
      | exact ih1 _ _ _ _ _
      | exact ih2 _ _ _ _ _ _
      | exact ih3 _ _ _ _ _ _ _
      | exact ih4 _ _ _ _ _ _ _ _
      | exact ih5 _ _ _ _ _ _ _ _ _
      | exact bits_Ray.mono _ _ _ _ _
      | exact bits_Shift.mono _ _ _ _
      | exact LeO.none _
      | refine LeO.ite ?_ ?_
      | refine LeO.bind ?_ (fun _ => ?_)
set_option maxHeartbeats 8000000 in
set_option maxRecDepth 100000 in
theorem gamehalllaw1_BitsShifts.calls (k : Nat) (a0 : Int) (a1 : Int) (a2 : Int) (a3 : Int) (r : Bool) (w : World) (h : gamehalllaw1_BitsShifts.f k a0 a1 a2 a3 = some r) :
    Calls Try.prog 5 #[.int .u64 a0, .int .i64 a1, .int .i64 a2, .int .i64 a3] w fun e w' => e = .returned (.bool r) ∧ Drawn0 w w' := by
  have H : ((bits_Shift.f k 128 1 0).bind fun t105 => (if t105 = 0 then ((bits_Shift.f k 1 1 1).bind fun t106 => (gamehalllaw1_BitsShifts.j0 k a0 a1 a2 a3 (t106 != 512))) else (gamehalllaw1_BitsShifts.j0 k a0 a1 a2 a3 true))) = some r := h
  clear h
  have HC5 := Aside0.mk H
  clear H
  go_enter Try.func5, Try.ntmps5
  go_upto_region 1 with (fail)
  go_cut [23] (fun v23 wc => ∃ (kq : Nat) (x23_4 : Bool), v23 = .bool x23_4 ∧ Aside0 (gamehalllaw1_BitsShifts.j0 kq a0 a1 a2 a3 x23_4 = some r) ∧ Aside0 (kq ≤ k) ∧ Drawn0 w wc)
  case first =>
    have H := HC5.out
    clear HC5
    replace H := Option.bind_eq_some_iff.mp H
    obtain ⟨t105, A60, H⟩ := H
    replace H : (if t105 = 0 then ((bits_Shift.f k 1 1 1).bind fun t106 => (gamehalllaw1_BitsShifts.j0 k a0 a1 a2 a3 (t106 != 512))) else (gamehalllaw1_BitsShifts.j0 k a0 a1 a2 a3 true)) = some r := H
    have A6 := Aside0.mk A60
    clear A60
    by_cases c7 : t105 = 0
    · rw [if_pos c7] at H
      have c7b0 : (t105 == 0) = true := beq_iff_eq.mpr c7
      have c7b1 : (t105 != 0) = false := bne_eq_false_iff_eq.mpr c7
      clear c7
      (first | rw [c7b0] | (simp only [i64_w, i32_w]; rw [c7b0]) | skip)
      replace H := Option.bind_eq_some_iff.mp H
      obtain ⟨t106, A80, H⟩ := H
      replace H : (gamehalllaw1_BitsShifts.j0 k a0 a1 a2 a3 (t106 != 512)) = some r := H
      have A8 := Aside0.mk A80
      clear A80
      have H' := Aside0.mk H
      clear H
      go_wp2_with (first | ((with_reducible refine gate_callee (f := 16) rfl ?_); refine goesL_ (some 18) rfl rfl Try.func16 (by kernel_rfl) rfl #[.int .u64 128, .int .i64 1, .int .i64 0] rfl (by (try simp only [List.map_toArray, List.map_cons, List.map_nil]); first | done | rfl | (simp only [List.length_drop, List.length_take]; rfl)) ?_; (with_reducible refine (bits_Shift.calls k 128 1 0 t105 _ A6.out).mono ?_); rintro e w' ⟨rfl, ⟨nd, rfl⟩⟩; refine ⟨_, rfl, ?_⟩) | (go_at_call 16; (with_reducible refine (bits_Shift.calls k 1 1 1 t106 _ A8.out).mono ?_); rintro e w' ⟨rfl, ⟨nd, rfl⟩⟩))
      go_meet
      case rel => exact ⟨_, ((t106 != 512)), (by first | rfl | (simp; done) | (simp [*]; done)), H', ⟨by first | omega | exact Nat.le_refl _⟩, by repeat (first | exact Drawn0.refl _ | apply Drawn0.step)⟩
    · rw [if_neg c7] at H
      have c7b0 : (t105 == 0) = false := beq_eq_false_iff_ne.mpr c7
      have c7b1 : (t105 != 0) = true := bne_iff_ne.mpr c7
      (first | rw [c7b0] | (simp only [i64_w, i32_w]; rw [c7b0]) | skip)
      have H' := Aside0.mk H
      clear H
      go_wp2_with (first | ((with_reducible refine gate_callee (f := 16) rfl ?_); refine goesL_ (some 18) rfl rfl Try.func16 (by kernel_rfl) rfl #[.int .u64 128, .int .i64 1, .int .i64 0] rfl (by (try simp only [List.map_toArray, List.map_cons, List.map_nil]); first | done | rfl | (simp only [List.length_drop, List.length_take]; rfl)) ?_; (with_reducible refine (bits_Shift.calls k 128 1 0 t105 _ A6.out).mono ?_); rintro e w' ⟨rfl, ⟨nd, rfl⟩⟩; refine ⟨_, rfl, ?_⟩))
      go_meet
      case rel => exact ⟨_, (true), (by first | rfl | (simp; done) | (simp [*]; done)), H', ⟨by first | omega | exact Nat.le_refl _⟩, by repeat (first | exact Drawn0.refl _ | apply Drawn0.step)⟩
  case rest =>
    clear HC5
    try clear c1
    try clear p2
    try clear c5
    try clear c7
    try clear c7b0
    try clear c7b1
    obtain ⟨kq, x23_4, rfl, HA, HJ4, ⟨mc4, rfl⟩⟩ := hcut
    cases kq with
    | zero => exact absurd HA.out (by simp [gamehalllaw1_BitsShifts.j0])
    | succ kj4 =>
      have H := HA.out
      clear HA
      simp only [gamehalllaw1_BitsShifts.j0] at H
      by_cases c9 : x23_4 = true
      · subst c9
        have H1 : (some false) = some r := by rw [if_pos rfl] at H; exact H
        clear H
        have H := H1
        clear H1
        obtain rfl := Option.some.inj H
        go_wp2
        go_ret
        exact ⟨by first | rfl | (simp; done) | (simp [*]; done), by repeat (first | exact Drawn0.refl _ | apply Drawn0.step)⟩
      · replace c9 := Bool.eq_false_iff.mpr c9
        subst c9
        have H1 : ((bits_Ray.f kj4 0 1 0 4).bind fun bt107 => (if bt107.2 = 0 then (gamehalllaw1_BitsShifts.j1 kj4 a0 a1 a2 a3 (bt107.1 != 6)) else (gamehalllaw1_BitsShifts.j1 kj4 a0 a1 a2 a3 true))) = some r := by rw [if_neg (show ¬ (false = true) by decide)] at H; exact H
        clear H
        have H := H1
        clear H1
        replace H := Option.bind_eq_some_iff.mp H
        obtain ⟨⟨t107, t108⟩, A100, H⟩ := H
        replace H : (if t108 = 0 then (gamehalllaw1_BitsShifts.j1 kj4 a0 a1 a2 a3 (t107 != 6)) else (gamehalllaw1_BitsShifts.j1 kj4 a0 a1 a2 a3 true)) = some r := H
        have A10 := Aside0.mk A100
        clear A100
        have HC11 := Aside0.mk H
        clear H
        go_upto_region 4 with (first | ((with_reducible refine gate_callee (f := 17) rfl ?_); refine goesL_ (some 25) rfl rfl Try.func17 (by kernel_rfl) rfl #[.int .i64 0, .int .i64 1, .int .i64 0, .int .u64 4] rfl (by (try simp only [List.map_toArray, List.map_cons, List.map_nil]); first | done | rfl | (simp only [List.length_drop, List.length_take]; rfl)) ?_; (with_reducible refine (bits_Ray.calls kj4 0 1 0 4 t107 t108 _ A10.out).mono ?_); rintro e w' ⟨rfl, ⟨nd, rfl⟩⟩; refine ⟨_, rfl, ?_⟩))
        (try simp only [Act.put, List.setIfInBounds_toArray, List.set_cons_zero, List.set_cons_succ])
        go_cut [33] (fun v33 wc => ∃ (kq : Nat) (x33_10 : Bool), v33 = .bool x33_10 ∧ Aside0 (gamehalllaw1_BitsShifts.j1 kq a0 a1 a2 a3 x33_10 = some r) ∧ Aside0 (kq ≤ kj4) ∧ Drawn0 w wc)
        case first =>
          have H := HC11.out
          clear HC11
          by_cases c12 : t108 = 0
          · rw [if_pos c12] at H
            have c12b0 : (t108 == 0) = true := beq_iff_eq.mpr c12
            have c12b1 : (t108 != 0) = false := bne_eq_false_iff_eq.mpr c12
            clear c12
            (first | rw [c12b0] | (simp only [i64_w, i32_w]; rw [c12b0]) | skip)
            have H' := Aside0.mk H
            clear H
            go_wp2
            go_meet
            case rel => exact ⟨_, ((t107 != 6)), (by first | rfl | (simp; done) | (simp [*]; done)), H', ⟨by have := HJ4.out; first | omega | exact Nat.le_refl _⟩, by repeat (first | exact Drawn0.refl _ | apply Drawn0.step)⟩
          · rw [if_neg c12] at H
            have c12b0 : (t108 == 0) = false := beq_eq_false_iff_ne.mpr c12
            have c12b1 : (t108 != 0) = true := bne_iff_ne.mpr c12
            (first | rw [c12b0] | (simp only [i64_w, i32_w]; rw [c12b0]) | skip)
            have H' := Aside0.mk H
            clear H
            go_wp2
            go_meet
            case rel => exact ⟨_, (true), (by first | rfl | (simp; done) | (simp [*]; done)), H', ⟨by have := HJ4.out; first | omega | exact Nat.le_refl _⟩, by repeat (first | exact Drawn0.refl _ | apply Drawn0.step)⟩
        case rest =>
          clear HC11
          try clear c1
          try clear p2
          try clear c4
          try clear c5
          try clear c7
          try clear c7b0
          try clear c7b1
          try clear c9
          try clear c12
          try clear c12b0
          try clear c12b1
          try clear p2
          obtain ⟨kq, x33_10, rfl, HA, HJ10, ⟨mc10, rfl⟩⟩ := hcut
          cases kq with
          | zero => exact absurd HA.out (by simp [gamehalllaw1_BitsShifts.j1])
          | succ kj10 =>
            have H := HA.out
            clear HA
            simp only [gamehalllaw1_BitsShifts.j1] at H
            by_cases c13 : x33_10 = true
            · subst c13
              have H1 : (some false) = some r := by rw [if_pos rfl] at H; exact H
              clear H
              have H := H1
              clear H1
              obtain rfl := Option.some.inj H
              go_wp2
              go_ret
              exact ⟨by first | rfl | (simp; done) | (simp [*]; done), by repeat (first | exact Drawn0.refl _ | apply Drawn0.step)⟩
            · replace c13 := Bool.eq_false_iff.mpr c13
              subst c13
              have H1 : (gamehalllaw1_BitsShifts.l0 kj10 a0 a1 a2 a3 0 0) = some r := by rw [if_neg (show ¬ (false = true) by decide)] at H; exact H
              clear H
              have H := H1
              clear H1
              have H' := Aside0.mk H
              clear H
              go_wp2
              go_loopg [11, 34] kj10 (fun kq v11 v34 w' => ∃ (x11_3 : Int) (x34_3 : Int), v11 = .int .u64 x11_3 ∧ v34 = .int .i64 x34_3 ∧ Aside0 (gamehalllaw1_BitsShifts.l0 kq a0 a1 a2 a3 x11_3 x34_3 = some r) ∧ Aside0 (kq ≤ kj10) ∧ Drawn0 w w')
              case atStart => exact ⟨(0), (0), (by first | rfl | (simp; done) | (simp [*]; done)), (by first | rfl | (simp; done) | (simp [*]; done)), H', ⟨Nat.le_refl _⟩, by repeat (first | exact Drawn0.refl _ | apply Drawn0.step)⟩
              case round =>
                clear H'
                try clear c1
                try clear p2
                try clear c4
                try clear c5
                try clear c7
                try clear c7b0
                try clear c7b1
                try clear c9
                try clear c10
                try clear c12
                try clear c12b0
                try clear c12b1
                try clear c13
                try clear p2
                obtain ⟨x11_3, x34_3, rfl, rfl, HA, HK3, ⟨m3, rfl⟩⟩ := hrel
                cases gk with
                | zero => exact absurd HA.out (by simp [gamehalllaw1_BitsShifts.l0])
                | succ k3 =>
                  have H := HA.out
                  clear HA
                  simp only [gamehalllaw1_BitsShifts.l0] at H
                  by_cases c14 : x34_3 < 64
                  · rw [if_pos c14] at H
                    have c14b0 : decide (x34_3 < 64) = true := decide_eq_true c14
                    clear c14
                    by_cases c15 : 0 ≤ x34_3
                    · rw [if_pos c15] at H
                      have c15b0 := eq_true c15
                      have c15b1 : decide (0 ≤ x34_3) = true := decide_eq_true c15
                      clear c15
                      obtain ⟨ji16, hji16⟩ : ∃ j_ : Int, (shr .u64 a0 x34_3) = j_ := ⟨_, rfl⟩
                      replace H : (if (Go.bits .and .u64 (ji16) 1) = 1 then ((gamehallref1_In.f a1 (-8) 8).bind fun t109 => (if t109 = true then ((gamehallref1_In.f a2 (-8) 8).bind fun t110 => (if t110 = true then ((gamehallref1_In.f (wrap64 ((Int.tmod x34_3 8) + a1)) 0 7).bind fun t111 => (if t111 = true then ((gamehallref1_In.f (wrap64 ((wrap64 (Int.tdiv x34_3 8)) + a2)) 0 7).bind fun t112 => (if t112 = true then (if 0 ≤ (wrap64 ((wrap64 (x34_3 + a1)) + (wrap64 (8 * a2)))) then (gamehalllaw1_BitsShifts.l0 k3 a0 a1 a2 a3 (Go.bits .or .u64 x11_3 (shl .u64 1 (wrap64 ((wrap64 (x34_3 + a1)) + (wrap64 (8 * a2)))))) (wrap64 (x34_3 + 1))) else (none)) else (gamehalllaw1_BitsShifts.l0 k3 a0 a1 a2 a3 x11_3 (wrap64 (x34_3 + 1))))) else (gamehalllaw1_BitsShifts.l0 k3 a0 a1 a2 a3 x11_3 (wrap64 (x34_3 + 1))))) else (gamehalllaw1_BitsShifts.l0 k3 a0 a1 a2 a3 x11_3 (wrap64 (x34_3 + 1))))) else (gamehalllaw1_BitsShifts.l0 k3 a0 a1 a2 a3 x11_3 (wrap64 (x34_3 + 1))))) else (gamehalllaw1_BitsShifts.l0 k3 a0 a1 a2 a3 x11_3 (wrap64 (x34_3 + 1)))) = some r := by first | (rw [hji16] at H; exact H) | (simp only [hji16] at H ⊢; exact H)
                      have hji16_ : (a0 / 2 ^ min x34_3.toNat 64) = ji16 := hji16
                      have hji16z : x34_3 ≤ 64 → (a0 / 2 ^ x34_3.toNat) = ji16 := shr_small hji16
                      by_cases c17 : (Go.bits .and .u64 (ji16) 1) = 1
                      · rw [if_pos c17] at H
                        have c17b0 : ((Go.bits .and .u64 (ji16) 1) == 1) = true := beq_iff_eq.mpr c17
                        have c17b1 : ((Go.bits .and .u64 (ji16) 1) != 1) = false := bne_eq_false_iff_eq.mpr c17
                        clear c17
                        replace H := Option.bind_eq_some_iff.mp H
                        obtain ⟨t109, A180, H⟩ := H
                        replace H : (if t109 = true then ((gamehallref1_In.f a2 (-8) 8).bind fun t110 => (if t110 = true then ((gamehallref1_In.f (wrap64 ((Int.tmod x34_3 8) + a1)) 0 7).bind fun t111 => (if t111 = true then ((gamehallref1_In.f (wrap64 ((wrap64 (Int.tdiv x34_3 8)) + a2)) 0 7).bind fun t112 => (if t112 = true then (if 0 ≤ (wrap64 ((wrap64 (x34_3 + a1)) + (wrap64 (8 * a2)))) then (gamehalllaw1_BitsShifts.l0 k3 a0 a1 a2 a3 (Go.bits .or .u64 x11_3 (shl .u64 1 (wrap64 ((wrap64 (x34_3 + a1)) + (wrap64 (8 * a2)))))) (wrap64 (x34_3 + 1))) else (none)) else (gamehalllaw1_BitsShifts.l0 k3 a0 a1 a2 a3 x11_3 (wrap64 (x34_3 + 1))))) else (gamehalllaw1_BitsShifts.l0 k3 a0 a1 a2 a3 x11_3 (wrap64 (x34_3 + 1))))) else (gamehalllaw1_BitsShifts.l0 k3 a0 a1 a2 a3 x11_3 (wrap64 (x34_3 + 1))))) else (gamehalllaw1_BitsShifts.l0 k3 a0 a1 a2 a3 x11_3 (wrap64 (x34_3 + 1)))) = some r := H
                        have A18 := Aside0.mk A180
                        clear A180
                        by_cases c19 : t109 = true
                        · subst c19
                          have H1 : ((gamehallref1_In.f a2 (-8) 8).bind fun t110 => (if t110 = true then ((gamehallref1_In.f (wrap64 ((Int.tmod x34_3 8) + a1)) 0 7).bind fun t111 => (if t111 = true then ((gamehallref1_In.f (wrap64 ((wrap64 (Int.tdiv x34_3 8)) + a2)) 0 7).bind fun t112 => (if t112 = true then (if 0 ≤ (wrap64 ((wrap64 (x34_3 + a1)) + (wrap64 (8 * a2)))) then (gamehalllaw1_BitsShifts.l0 k3 a0 a1 a2 a3 (Go.bits .or .u64 x11_3 (shl .u64 1 (wrap64 ((wrap64 (x34_3 + a1)) + (wrap64 (8 * a2)))))) (wrap64 (x34_3 + 1))) else (none)) else (gamehalllaw1_BitsShifts.l0 k3 a0 a1 a2 a3 x11_3 (wrap64 (x34_3 + 1))))) else (gamehalllaw1_BitsShifts.l0 k3 a0 a1 a2 a3 x11_3 (wrap64 (x34_3 + 1))))) else (gamehalllaw1_BitsShifts.l0 k3 a0 a1 a2 a3 x11_3 (wrap64 (x34_3 + 1))))) = some r := by rw [if_pos rfl] at H; exact H
                          clear H
                          have H := H1
                          clear H1
                          replace H := Option.bind_eq_some_iff.mp H
                          obtain ⟨t110, A200, H⟩ := H
                          replace H : (if t110 = true then ((gamehallref1_In.f (wrap64 ((Int.tmod x34_3 8) + a1)) 0 7).bind fun t111 => (if t111 = true then ((gamehallref1_In.f (wrap64 ((wrap64 (Int.tdiv x34_3 8)) + a2)) 0 7).bind fun t112 => (if t112 = true then (if 0 ≤ (wrap64 ((wrap64 (x34_3 + a1)) + (wrap64 (8 * a2)))) then (gamehalllaw1_BitsShifts.l0 k3 a0 a1 a2 a3 (Go.bits .or .u64 x11_3 (shl .u64 1 (wrap64 ((wrap64 (x34_3 + a1)) + (wrap64 (8 * a2)))))) (wrap64 (x34_3 + 1))) else (none)) else (gamehalllaw1_BitsShifts.l0 k3 a0 a1 a2 a3 x11_3 (wrap64 (x34_3 + 1))))) else (gamehalllaw1_BitsShifts.l0 k3 a0 a1 a2 a3 x11_3 (wrap64 (x34_3 + 1))))) else (gamehalllaw1_BitsShifts.l0 k3 a0 a1 a2 a3 x11_3 (wrap64 (x34_3 + 1)))) = some r := H
                          have A20 := Aside0.mk A200
                          clear A200
                          by_cases c21 : t110 = true
                          · subst c21
                            have H1 : ((gamehallref1_In.f (wrap64 ((Int.tmod x34_3 8) + a1)) 0 7).bind fun t111 => (if t111 = true then ((gamehallref1_In.f (wrap64 ((wrap64 (Int.tdiv x34_3 8)) + a2)) 0 7).bind fun t112 => (if t112 = true then (if 0 ≤ (wrap64 ((wrap64 (x34_3 + a1)) + (wrap64 (8 * a2)))) then (gamehalllaw1_BitsShifts.l0 k3 a0 a1 a2 a3 (Go.bits .or .u64 x11_3 (shl .u64 1 (wrap64 ((wrap64 (x34_3 + a1)) + (wrap64 (8 * a2)))))) (wrap64 (x34_3 + 1))) else (none)) else (gamehalllaw1_BitsShifts.l0 k3 a0 a1 a2 a3 x11_3 (wrap64 (x34_3 + 1))))) else (gamehalllaw1_BitsShifts.l0 k3 a0 a1 a2 a3 x11_3 (wrap64 (x34_3 + 1))))) = some r := by rw [if_pos rfl] at H; exact H
                            clear H
                            have H := H1
                            clear H1
                            replace H := Option.bind_eq_some_iff.mp H
                            obtain ⟨t111, A220, H⟩ := H
                            replace H : (if t111 = true then ((gamehallref1_In.f (wrap64 ((wrap64 (Int.tdiv x34_3 8)) + a2)) 0 7).bind fun t112 => (if t112 = true then (if 0 ≤ (wrap64 ((wrap64 (x34_3 + a1)) + (wrap64 (8 * a2)))) then (gamehalllaw1_BitsShifts.l0 k3 a0 a1 a2 a3 (Go.bits .or .u64 x11_3 (shl .u64 1 (wrap64 ((wrap64 (x34_3 + a1)) + (wrap64 (8 * a2)))))) (wrap64 (x34_3 + 1))) else (none)) else (gamehalllaw1_BitsShifts.l0 k3 a0 a1 a2 a3 x11_3 (wrap64 (x34_3 + 1))))) else (gamehalllaw1_BitsShifts.l0 k3 a0 a1 a2 a3 x11_3 (wrap64 (x34_3 + 1)))) = some r := H
                            have A22 := Aside0.mk A220
                            clear A220
                            by_cases c23 : t111 = true
                            · subst c23
                              have H1 : ((gamehallref1_In.f (wrap64 ((wrap64 (Int.tdiv x34_3 8)) + a2)) 0 7).bind fun t112 => (if t112 = true then (if 0 ≤ (wrap64 ((wrap64 (x34_3 + a1)) + (wrap64 (8 * a2)))) then (gamehalllaw1_BitsShifts.l0 k3 a0 a1 a2 a3 (Go.bits .or .u64 x11_3 (shl .u64 1 (wrap64 ((wrap64 (x34_3 + a1)) + (wrap64 (8 * a2)))))) (wrap64 (x34_3 + 1))) else (none)) else (gamehalllaw1_BitsShifts.l0 k3 a0 a1 a2 a3 x11_3 (wrap64 (x34_3 + 1))))) = some r := by rw [if_pos rfl] at H; exact H
                              clear H
                              have H := H1
                              clear H1
                              replace H := Option.bind_eq_some_iff.mp H
                              obtain ⟨t112, A240, H⟩ := H
                              replace H : (if t112 = true then (if 0 ≤ (wrap64 ((wrap64 (x34_3 + a1)) + (wrap64 (8 * a2)))) then (gamehalllaw1_BitsShifts.l0 k3 a0 a1 a2 a3 (Go.bits .or .u64 x11_3 (shl .u64 1 (wrap64 ((wrap64 (x34_3 + a1)) + (wrap64 (8 * a2)))))) (wrap64 (x34_3 + 1))) else (none)) else (gamehalllaw1_BitsShifts.l0 k3 a0 a1 a2 a3 x11_3 (wrap64 (x34_3 + 1)))) = some r := H
                              have A24 := Aside0.mk A240
                              clear A240
                              by_cases c25 : t112 = true
                              · subst c25
                                have H1 : (if 0 ≤ (wrap64 ((wrap64 (x34_3 + a1)) + (wrap64 (8 * a2)))) then (gamehalllaw1_BitsShifts.l0 k3 a0 a1 a2 a3 (Go.bits .or .u64 x11_3 (shl .u64 1 (wrap64 ((wrap64 (x34_3 + a1)) + (wrap64 (8 * a2)))))) (wrap64 (x34_3 + 1))) else (none)) = some r := by rw [if_pos rfl] at H; exact H
                                clear H
                                have H := H1
                                clear H1
                                obtain ⟨ji26, hji26⟩ : ∃ j_ : Int, (wrap64 ((wrap64 (x34_3 + a1)) + (wrap64 (8 * a2)))) = j_ := ⟨_, rfl⟩
                                replace H : (if 0 ≤ (ji26) then (gamehalllaw1_BitsShifts.l0 k3 a0 a1 a2 a3 (Go.bits .or .u64 x11_3 (shl .u64 1 (ji26))) (wrap64 (x34_3 + 1))) else (none)) = some r := by first | (rw [hji26] at H; exact H) | (simp only [hji26] at H ⊢; exact H)
                                (try rw [hji26] at A18)
                                (try rw [hji26] at A20)
                                (try rw [hji26] at A22)
                                (try rw [hji26] at A24)
                                have hji26w : (IntKind.i64.wrap ((wrap64 (x34_3 + a1)) + (wrap64 (8 * a2)))) = ji26 := (i64_w _).trans hji26
                                by_cases c27 : 0 ≤ (ji26)
                                · rw [if_pos c27] at H
                                  have c27b0 := eq_true c27
                                  have c27b1 : decide (0 ≤ (ji26)) = true := decide_eq_true c27
                                  clear c27
                                  obtain ⟨ji28, hji28⟩ : ∃ j_ : Int, (shl .u64 1 (ji26)) = j_ := ⟨_, rfl⟩
                                  replace H : (gamehalllaw1_BitsShifts.l0 k3 a0 a1 a2 a3 (Go.bits .or .u64 x11_3 (ji28)) (wrap64 (x34_3 + 1))) = some r := by first | (rw [hji28] at H; exact H) | (simp only [hji28] at H ⊢; exact H)
                                  (try rw [hji28] at A18)
                                  (try rw [hji28] at A20)
                                  (try rw [hji28] at A22)
                                  (try rw [hji28] at A24)
                                  have hji28_ : (IntKind.u64.wrap (1 * 2 ^ min (ji26).toNat 64)) = ji28 := hji28
                                  have hji28z : (ji26) ≤ 64 → (IntKind.u64.wrap (1 * 2 ^ (ji26).toNat)) = ji28 := shl_small hji28
                                  have hji28u : (IntKind.u64.wrap (2 ^ min (ji26).toNat 64)) = ji28 := by have h_ := hji28_; rw [Int.one_mul] at h_; exact h_
                                  have hji28v : (ji26) ≤ 64 → (IntKind.u64.wrap (2 ^ (ji26).toNat)) = ji28 := fun hle_ => by have h_ := hji28z hle_; rw [Int.one_mul] at h_; exact h_
                                  have H' := Aside0.mk H
                                  clear H
                                  go_wp2_with (first | (go_at_call 15; (with_reducible refine (gamehallref1_In.calls a1 (-8) 8 true _ A18.out).mono ?_); rintro e w' ⟨rfl, ⟨nd, rfl⟩⟩) | (go_at_call 15; (with_reducible refine (gamehallref1_In.calls a2 (-8) 8 true _ A20.out).mono ?_); rintro e w' ⟨rfl, ⟨nd, rfl⟩⟩) | (go_at_call 15; (with_reducible refine (gamehallref1_In.calls (wrap64 ((Int.tmod x34_3 8) + a1)) 0 7 true _ A22.out).mono ?_); rintro e w' ⟨rfl, ⟨nd, rfl⟩⟩) | (go_at_call 15; (with_reducible refine (gamehallref1_In.calls (wrap64 ((wrap64 (Int.tdiv x34_3 8)) + a2)) 0 7 true _ A24.out).mono ?_); rintro e w' ⟨rfl, ⟨nd, rfl⟩⟩))
                                  go_roundg k3
                                  case measure => have := HJ4.out; have := HJ10.out; have := HK3.out; omega
                                  case rel => exact ⟨(Go.bits .or .u64 x11_3 (ji28)), (wrap64 (x34_3 + 1)), (by first | rfl | (simp; done) | (simp only [← hji28] <;> (first | rfl | simp)) | (simp [*]; done)), (by first | rfl | (simp; done) | (simp [*]; done)), H', ⟨by have := HJ4.out; have := HJ10.out; have := HK3.out; omega⟩, by repeat (first | exact Drawn0.refl _ | apply Drawn0.step)⟩
                                · rw [if_neg c27] at H
                                  exact absurd H (by simp)
                              · replace c25 := Bool.eq_false_iff.mpr c25
                                subst c25
                                have H1 : (gamehalllaw1_BitsShifts.l0 k3 a0 a1 a2 a3 x11_3 (wrap64 (x34_3 + 1))) = some r := by rw [if_neg (show ¬ (false = true) by decide)] at H; exact H
                                clear H
                                have H := H1
                                clear H1
                                have H' := Aside0.mk H
                                clear H
                                go_wp2_with (first | (go_at_call 15; (with_reducible refine (gamehallref1_In.calls a1 (-8) 8 true _ A18.out).mono ?_); rintro e w' ⟨rfl, ⟨nd, rfl⟩⟩) | (go_at_call 15; (with_reducible refine (gamehallref1_In.calls a2 (-8) 8 true _ A20.out).mono ?_); rintro e w' ⟨rfl, ⟨nd, rfl⟩⟩) | (go_at_call 15; (with_reducible refine (gamehallref1_In.calls (wrap64 ((Int.tmod x34_3 8) + a1)) 0 7 true _ A22.out).mono ?_); rintro e w' ⟨rfl, ⟨nd, rfl⟩⟩) | (go_at_call 15; (with_reducible refine (gamehallref1_In.calls (wrap64 ((wrap64 (Int.tdiv x34_3 8)) + a2)) 0 7 false _ A24.out).mono ?_); rintro e w' ⟨rfl, ⟨nd, rfl⟩⟩))
                                go_roundg k3
                                case measure => have := HJ4.out; have := HJ10.out; have := HK3.out; omega
                                case rel => exact ⟨(x11_3), (wrap64 (x34_3 + 1)), (by first | rfl | (simp; done) | (simp [*]; done)), (by first | rfl | (simp; done) | (simp [*]; done)), H', ⟨by have := HJ4.out; have := HJ10.out; have := HK3.out; omega⟩, by repeat (first | exact Drawn0.refl _ | apply Drawn0.step)⟩
                            · replace c23 := Bool.eq_false_iff.mpr c23
                              subst c23
                              have H1 : (gamehalllaw1_BitsShifts.l0 k3 a0 a1 a2 a3 x11_3 (wrap64 (x34_3 + 1))) = some r := by rw [if_neg (show ¬ (false = true) by decide)] at H; exact H
                              clear H
                              have H := H1
                              clear H1
                              have H' := Aside0.mk H
                              clear H
                              go_wp2_with (first | (go_at_call 15; (with_reducible refine (gamehallref1_In.calls a1 (-8) 8 true _ A18.out).mono ?_); rintro e w' ⟨rfl, ⟨nd, rfl⟩⟩) | (go_at_call 15; (with_reducible refine (gamehallref1_In.calls a2 (-8) 8 true _ A20.out).mono ?_); rintro e w' ⟨rfl, ⟨nd, rfl⟩⟩) | (go_at_call 15; (with_reducible refine (gamehallref1_In.calls (wrap64 ((Int.tmod x34_3 8) + a1)) 0 7 false _ A22.out).mono ?_); rintro e w' ⟨rfl, ⟨nd, rfl⟩⟩))
                              go_roundg k3
                              case measure => have := HJ4.out; have := HJ10.out; have := HK3.out; omega
                              case rel => exact ⟨(x11_3), (wrap64 (x34_3 + 1)), (by first | rfl | (simp; done) | (simp [*]; done)), (by first | rfl | (simp; done) | (simp [*]; done)), H', ⟨by have := HJ4.out; have := HJ10.out; have := HK3.out; omega⟩, by repeat (first | exact Drawn0.refl _ | apply Drawn0.step)⟩
                          · replace c21 := Bool.eq_false_iff.mpr c21
                            subst c21
                            have H1 : (gamehalllaw1_BitsShifts.l0 k3 a0 a1 a2 a3 x11_3 (wrap64 (x34_3 + 1))) = some r := by rw [if_neg (show ¬ (false = true) by decide)] at H; exact H
                            clear H
                            have H := H1
                            clear H1
                            have H' := Aside0.mk H
                            clear H
                            go_wp2_with (first | (go_at_call 15; (with_reducible refine (gamehallref1_In.calls a1 (-8) 8 true _ A18.out).mono ?_); rintro e w' ⟨rfl, ⟨nd, rfl⟩⟩) | (go_at_call 15; (with_reducible refine (gamehallref1_In.calls a2 (-8) 8 false _ A20.out).mono ?_); rintro e w' ⟨rfl, ⟨nd, rfl⟩⟩))
                            go_roundg k3
                            case measure => have := HJ4.out; have := HJ10.out; have := HK3.out; omega
                            case rel => exact ⟨(x11_3), (wrap64 (x34_3 + 1)), (by first | rfl | (simp; done) | (simp [*]; done)), (by first | rfl | (simp; done) | (simp [*]; done)), H', ⟨by have := HJ4.out; have := HJ10.out; have := HK3.out; omega⟩, by repeat (first | exact Drawn0.refl _ | apply Drawn0.step)⟩
                        · replace c19 := Bool.eq_false_iff.mpr c19
                          subst c19
                          have H1 : (gamehalllaw1_BitsShifts.l0 k3 a0 a1 a2 a3 x11_3 (wrap64 (x34_3 + 1))) = some r := by rw [if_neg (show ¬ (false = true) by decide)] at H; exact H
                          clear H
                          have H := H1
                          clear H1
                          have H' := Aside0.mk H
                          clear H
                          go_wp2_with (first | (go_at_call 15; (with_reducible refine (gamehallref1_In.calls a1 (-8) 8 false _ A18.out).mono ?_); rintro e w' ⟨rfl, ⟨nd, rfl⟩⟩))
                          go_roundg k3
                          case measure => have := HJ4.out; have := HJ10.out; have := HK3.out; omega
                          case rel => exact ⟨(x11_3), (wrap64 (x34_3 + 1)), (by first | rfl | (simp; done) | (simp [*]; done)), (by first | rfl | (simp; done) | (simp [*]; done)), H', ⟨by have := HJ4.out; have := HJ10.out; have := HK3.out; omega⟩, by repeat (first | exact Drawn0.refl _ | apply Drawn0.step)⟩
                      · rw [if_neg c17] at H
                        have c17b0 : ((Go.bits .and .u64 (ji16) 1) == 1) = false := beq_eq_false_iff_ne.mpr c17
                        have c17b1 : ((Go.bits .and .u64 (ji16) 1) != 1) = true := bne_iff_ne.mpr c17
                        have H' := Aside0.mk H
                        clear H
                        go_wp2
                        go_roundg k3
                        case measure => have := HJ4.out; have := HJ10.out; have := HK3.out; omega
                        case rel => exact ⟨(x11_3), (wrap64 (x34_3 + 1)), (by first | rfl | (simp; done) | (simp [*]; done)), (by first | rfl | (simp; done) | (simp [*]; done)), H', ⟨by have := HJ4.out; have := HJ10.out; have := HK3.out; omega⟩, by repeat (first | exact Drawn0.refl _ | apply Drawn0.step)⟩
                    · rw [if_neg c15] at H
                      exact absurd H (by simp)
                  · rw [if_neg c14] at H
                    have c14b0 : decide (x34_3 < 64) = false := decide_eq_false c14
                    clear c14
                    replace H := Option.bind_eq_some_iff.mp H
                    obtain ⟨t113, A290, H⟩ := H
                    replace H : (if t113 = x11_3 then ((bits_Ray.f k3 a3 a1 a2 a0).bind fun bt114 => ((gamehallref1_In.f a3 0 63).bind fun t116 => (if t116 = true then ((gamehallref1_In.f a1 (-1) 1).bind fun t117 => (if t117 = true then ((gamehallref1_In.f a2 (-1) 1).bind fun t118 => (if t118 = true then (if a1 = 0 then (gamehalllaw1_BitsShifts.j3 k3 a0 a1 a2 a3 bt114.1 bt114.2 (a2 == 0)) else (gamehalllaw1_BitsShifts.j3 k3 a0 a1 a2 a3 bt114.1 bt114.2 false)) else (gamehalllaw1_BitsShifts.j3 k3 a0 a1 a2 a3 bt114.1 bt114.2 true))) else (gamehalllaw1_BitsShifts.j3 k3 a0 a1 a2 a3 bt114.1 bt114.2 true))) else (if bt114.2 = 4 then (some (bt114.1 == 0)) else (some false))))) else (some false)) = some r := H
                    have A29 := Aside0.mk A290
                    clear A290
                    by_cases c30 : t113 = x11_3
                    · rw [if_pos c30] at H
                      have c30b0 : (t113 == x11_3) = true := beq_iff_eq.mpr c30
                      have c30b1 : (t113 != x11_3) = false := bne_eq_false_iff_eq.mpr c30
                      clear c30
                      replace H := Option.bind_eq_some_iff.mp H
                      obtain ⟨⟨t114, t115⟩, A310, H⟩ := H
                      replace H : ((gamehallref1_In.f a3 0 63).bind fun t116 => (if t116 = true then ((gamehallref1_In.f a1 (-1) 1).bind fun t117 => (if t117 = true then ((gamehallref1_In.f a2 (-1) 1).bind fun t118 => (if t118 = true then (if a1 = 0 then (gamehalllaw1_BitsShifts.j3 k3 a0 a1 a2 a3 t114 t115 (a2 == 0)) else (gamehalllaw1_BitsShifts.j3 k3 a0 a1 a2 a3 t114 t115 false)) else (gamehalllaw1_BitsShifts.j3 k3 a0 a1 a2 a3 t114 t115 true))) else (gamehalllaw1_BitsShifts.j3 k3 a0 a1 a2 a3 t114 t115 true))) else (if t115 = 4 then (some (t114 == 0)) else (some false)))) = some r := H
                      have A31 := Aside0.mk A310
                      clear A310
                      replace H := Option.bind_eq_some_iff.mp H
                      obtain ⟨t116, A320, H⟩ := H
                      replace H : (if t116 = true then ((gamehallref1_In.f a1 (-1) 1).bind fun t117 => (if t117 = true then ((gamehallref1_In.f a2 (-1) 1).bind fun t118 => (if t118 = true then (if a1 = 0 then (gamehalllaw1_BitsShifts.j3 k3 a0 a1 a2 a3 t114 t115 (a2 == 0)) else (gamehalllaw1_BitsShifts.j3 k3 a0 a1 a2 a3 t114 t115 false)) else (gamehalllaw1_BitsShifts.j3 k3 a0 a1 a2 a3 t114 t115 true))) else (gamehalllaw1_BitsShifts.j3 k3 a0 a1 a2 a3 t114 t115 true))) else (if t115 = 4 then (some (t114 == 0)) else (some false))) = some r := H
                      have A32 := Aside0.mk A320
                      clear A320
                      by_cases c33 : t116 = true
                      · subst c33
                        have H1 : ((gamehallref1_In.f a1 (-1) 1).bind fun t117 => (if t117 = true then ((gamehallref1_In.f a2 (-1) 1).bind fun t118 => (if t118 = true then (if a1 = 0 then (gamehalllaw1_BitsShifts.j3 k3 a0 a1 a2 a3 t114 t115 (a2 == 0)) else (gamehalllaw1_BitsShifts.j3 k3 a0 a1 a2 a3 t114 t115 false)) else (gamehalllaw1_BitsShifts.j3 k3 a0 a1 a2 a3 t114 t115 true))) else (gamehalllaw1_BitsShifts.j3 k3 a0 a1 a2 a3 t114 t115 true))) = some r := by rw [if_pos rfl] at H; exact H
                        clear H
                        have H := H1
                        clear H1
                        have HC34 := Aside0.mk H
                        clear H
                        go_upto_region 18 with (first | ((with_reducible refine gate_callee (f := 16) rfl ?_); refine goesL_ (some 77) rfl rfl Try.func16 (by kernel_rfl) rfl #[.int .u64 a0, .int .i64 a1, .int .i64 a2] rfl (by (try simp only [List.map_toArray, List.map_cons, List.map_nil]); first | done | rfl | (simp only [List.length_drop, List.length_take]; rfl)) ?_; (with_reducible refine (bits_Shift.calls k3 a0 a1 a2 t113 _ A29.out).mono ?_); rintro e w' ⟨rfl, ⟨nd, rfl⟩⟩; refine ⟨_, rfl, ?_⟩) | ((with_reducible refine gate_callee (f := 17) rfl ?_); refine goesL_ (some 85) rfl rfl Try.func17 (by kernel_rfl) rfl #[.int .i64 a3, .int .i64 a1, .int .i64 a2, .int .u64 a0] rfl (by (try simp only [List.map_toArray, List.map_cons, List.map_nil]); first | done | rfl | (simp only [List.length_drop, List.length_take]; rfl)) ?_; (with_reducible refine (bits_Ray.calls k3 a3 a1 a2 a0 t114 t115 _ A31.out).mono ?_); rintro e w' ⟨rfl, ⟨nd, rfl⟩⟩; refine ⟨_, rfl, ?_⟩) | ((with_reducible refine gate_callee (f := 15) rfl ?_); refine goesL_ (some 89) rfl rfl Try.func15 (by kernel_rfl) rfl #[.int .i64 a3, .int .i64 0, .int .i64 63] rfl (by (try simp only [List.map_toArray, List.map_cons, List.map_nil]); first | done | rfl | (simp only [List.length_drop, List.length_take]; rfl)) ?_; (with_reducible refine (gamehallref1_In.calls a3 0 63 true _ A32.out).mono ?_); rintro e w' ⟨rfl, ⟨nd, rfl⟩⟩; refine ⟨_, rfl, ?_⟩))
                        (try simp only [Act.put, List.setIfInBounds_toArray, List.set_cons_zero, List.set_cons_succ])
                        go_cut [112] (fun v112 wc => ∃ (kq : Nat) (x112_33 : Bool), v112 = .bool x112_33 ∧ Aside0 (gamehalllaw1_BitsShifts.j3 kq a0 a1 a2 a3 t114 t115 x112_33 = some r) ∧ Aside0 (kq ≤ k3) ∧ Drawn0 w wc)
                        case first =>
                          have H := HC34.out
                          clear HC34
                          replace H := Option.bind_eq_some_iff.mp H
                          obtain ⟨t117, A350, H⟩ := H
                          replace H : (if t117 = true then ((gamehallref1_In.f a2 (-1) 1).bind fun t118 => (if t118 = true then (if a1 = 0 then (gamehalllaw1_BitsShifts.j3 k3 a0 a1 a2 a3 t114 t115 (a2 == 0)) else (gamehalllaw1_BitsShifts.j3 k3 a0 a1 a2 a3 t114 t115 false)) else (gamehalllaw1_BitsShifts.j3 k3 a0 a1 a2 a3 t114 t115 true))) else (gamehalllaw1_BitsShifts.j3 k3 a0 a1 a2 a3 t114 t115 true)) = some r := H
                          have A35 := Aside0.mk A350
                          clear A350
                          by_cases c36 : t117 = true
                          · subst c36
                            have H1 : ((gamehallref1_In.f a2 (-1) 1).bind fun t118 => (if t118 = true then (if a1 = 0 then (gamehalllaw1_BitsShifts.j3 k3 a0 a1 a2 a3 t114 t115 (a2 == 0)) else (gamehalllaw1_BitsShifts.j3 k3 a0 a1 a2 a3 t114 t115 false)) else (gamehalllaw1_BitsShifts.j3 k3 a0 a1 a2 a3 t114 t115 true))) = some r := by rw [if_pos rfl] at H; exact H
                            clear H
                            have H := H1
                            clear H1
                            replace H := Option.bind_eq_some_iff.mp H
                            obtain ⟨t118, A370, H⟩ := H
                            replace H : (if t118 = true then (if a1 = 0 then (gamehalllaw1_BitsShifts.j3 k3 a0 a1 a2 a3 t114 t115 (a2 == 0)) else (gamehalllaw1_BitsShifts.j3 k3 a0 a1 a2 a3 t114 t115 false)) else (gamehalllaw1_BitsShifts.j3 k3 a0 a1 a2 a3 t114 t115 true)) = some r := H
                            have A37 := Aside0.mk A370
                            clear A370
                            by_cases c38 : t118 = true
                            · subst c38
                              have H1 : (if a1 = 0 then (gamehalllaw1_BitsShifts.j3 k3 a0 a1 a2 a3 t114 t115 (a2 == 0)) else (gamehalllaw1_BitsShifts.j3 k3 a0 a1 a2 a3 t114 t115 false)) = some r := by rw [if_pos rfl] at H; exact H
                              clear H
                              have H := H1
                              clear H1
                              by_cases c39 : a1 = 0
                              · rw [if_pos c39] at H
                                have c39b0 : (a1 == 0) = true := beq_iff_eq.mpr c39
                                have c39b1 : (a1 != 0) = false := bne_eq_false_iff_eq.mpr c39
                                clear c39
                                (first | rw [c39b0] | (simp only [i64_w, i32_w]; rw [c39b0]) | skip)
                                have H' := Aside0.mk H
                                clear H
                                go_wp2_with (first | ((with_reducible refine gate_callee (f := 15) rfl ?_); refine goesL_ (some 98) rfl rfl Try.func15 (by kernel_rfl) rfl #[.int .i64 a1, .int .i64 (-1), .int .i64 1] rfl (by (try simp only [List.map_toArray, List.map_cons, List.map_nil]); first | done | rfl | (simp only [List.length_drop, List.length_take]; rfl)) ?_; (with_reducible refine (gamehallref1_In.calls a1 (-1) 1 true _ A35.out).mono ?_); rintro e w' ⟨rfl, ⟨nd, rfl⟩⟩; refine ⟨_, rfl, ?_⟩) | (go_at_call 15; (with_reducible refine (gamehallref1_In.calls a2 (-1) 1 true _ A37.out).mono ?_); rintro e w' ⟨rfl, ⟨nd, rfl⟩⟩))
                                go_meet
                                case rel => exact ⟨_, ((a2 == 0)), (by first | rfl | (simp; done) | (simp [*]; done)), H', ⟨by have := HJ4.out; have := HJ10.out; have := HK3.out; first | omega | exact Nat.le_refl _⟩, by repeat (first | exact Drawn0.refl _ | apply Drawn0.step)⟩
                              · rw [if_neg c39] at H
                                have c39b0 : (a1 == 0) = false := beq_eq_false_iff_ne.mpr c39
                                have c39b1 : (a1 != 0) = true := bne_iff_ne.mpr c39
                                (first | rw [c39b0] | (simp only [i64_w, i32_w]; rw [c39b0]) | skip)
                                have H' := Aside0.mk H
                                clear H
                                go_wp2_with (first | ((with_reducible refine gate_callee (f := 15) rfl ?_); refine goesL_ (some 98) rfl rfl Try.func15 (by kernel_rfl) rfl #[.int .i64 a1, .int .i64 (-1), .int .i64 1] rfl (by (try simp only [List.map_toArray, List.map_cons, List.map_nil]); first | done | rfl | (simp only [List.length_drop, List.length_take]; rfl)) ?_; (with_reducible refine (gamehallref1_In.calls a1 (-1) 1 true _ A35.out).mono ?_); rintro e w' ⟨rfl, ⟨nd, rfl⟩⟩; refine ⟨_, rfl, ?_⟩) | (go_at_call 15; (with_reducible refine (gamehallref1_In.calls a2 (-1) 1 true _ A37.out).mono ?_); rintro e w' ⟨rfl, ⟨nd, rfl⟩⟩))
                                go_meet
                                case rel => exact ⟨_, (false), (by first | rfl | (simp; done) | (simp [*]; done)), H', ⟨by have := HJ4.out; have := HJ10.out; have := HK3.out; first | omega | exact Nat.le_refl _⟩, by repeat (first | exact Drawn0.refl _ | apply Drawn0.step)⟩
                            · replace c38 := Bool.eq_false_iff.mpr c38
                              subst c38
                              have H1 : (gamehalllaw1_BitsShifts.j3 k3 a0 a1 a2 a3 t114 t115 true) = some r := by rw [if_neg (show ¬ (false = true) by decide)] at H; exact H
                              clear H
                              have H := H1
                              clear H1
                              have H' := Aside0.mk H
                              clear H
                              go_wp2_with (first | ((with_reducible refine gate_callee (f := 15) rfl ?_); refine goesL_ (some 98) rfl rfl Try.func15 (by kernel_rfl) rfl #[.int .i64 a1, .int .i64 (-1), .int .i64 1] rfl (by (try simp only [List.map_toArray, List.map_cons, List.map_nil]); first | done | rfl | (simp only [List.length_drop, List.length_take]; rfl)) ?_; (with_reducible refine (gamehallref1_In.calls a1 (-1) 1 true _ A35.out).mono ?_); rintro e w' ⟨rfl, ⟨nd, rfl⟩⟩; refine ⟨_, rfl, ?_⟩) | (go_at_call 15; (with_reducible refine (gamehallref1_In.calls a2 (-1) 1 false _ A37.out).mono ?_); rintro e w' ⟨rfl, ⟨nd, rfl⟩⟩))
                              go_meet
                              case rel => exact ⟨_, (true), (by first | rfl | (simp; done) | (simp [*]; done)), H', ⟨by have := HJ4.out; have := HJ10.out; have := HK3.out; first | omega | exact Nat.le_refl _⟩, by repeat (first | exact Drawn0.refl _ | apply Drawn0.step)⟩
                          · replace c36 := Bool.eq_false_iff.mpr c36
                            subst c36
                            have H1 : (gamehalllaw1_BitsShifts.j3 k3 a0 a1 a2 a3 t114 t115 true) = some r := by rw [if_neg (show ¬ (false = true) by decide)] at H; exact H
                            clear H
                            have H := H1
                            clear H1
                            have H' := Aside0.mk H
                            clear H
                            go_wp2_with (first | ((with_reducible refine gate_callee (f := 15) rfl ?_); refine goesL_ (some 98) rfl rfl Try.func15 (by kernel_rfl) rfl #[.int .i64 a1, .int .i64 (-1), .int .i64 1] rfl (by (try simp only [List.map_toArray, List.map_cons, List.map_nil]); first | done | rfl | (simp only [List.length_drop, List.length_take]; rfl)) ?_; (with_reducible refine (gamehallref1_In.calls a1 (-1) 1 false _ A35.out).mono ?_); rintro e w' ⟨rfl, ⟨nd, rfl⟩⟩; refine ⟨_, rfl, ?_⟩))
                            go_meet
                            case rel => exact ⟨_, (true), (by first | rfl | (simp; done) | (simp [*]; done)), H', ⟨by have := HJ4.out; have := HJ10.out; have := HK3.out; first | omega | exact Nat.le_refl _⟩, by repeat (first | exact Drawn0.refl _ | apply Drawn0.step)⟩
                        case rest =>
                          clear HC34
                          try clear c1
                          try clear c2
                          try clear p2
                          try clear c3
                          try clear c4
                          try clear c5
                          try clear p6
                          try clear c7
                          try clear c7b0
                          try clear c7b1
                          try clear c9
                          try clear c10
                          try clear c12
                          try clear c12b0
                          try clear c12b1
                          try clear c13
                          try clear c14
                          try clear c14b0
                          try clear c15
                          try clear c15b0
                          try clear c15b1
                          try clear c16
                          try clear c17
                          try clear c17b0
                          try clear c17b1
                          try clear c19
                          try clear c21
                          try clear c23
                          try clear c25
                          try clear c27
                          try clear c27b0
                          try clear c27b1
                          try clear c30
                          try clear c30b0
                          try clear c30b1
                          try clear c33
                          try clear c36
                          try clear c38
                          try clear c39
                          try clear c39b0
                          try clear c39b1
                          try clear p2
                          obtain ⟨kq, x112_33, rfl, HA, HJ33, ⟨mc33, rfl⟩⟩ := hcut
                          cases kq with
                          | zero => exact absurd HA.out (by simp [gamehalllaw1_BitsShifts.j3])
                          | succ kj33 =>
                            have H := HA.out
                            clear HA
                            simp only [gamehalllaw1_BitsShifts.j3] at H
                            by_cases c40 : x112_33 = true
                            · subst c40
                              have H1 : (if t115 = 1 then (some (t114 == 0)) else (some false)) = some r := by rw [if_pos rfl] at H; exact H
                              clear H
                              have H := H1
                              clear H1
                              by_cases c41 : t115 = 1
                              · rw [if_pos c41] at H
                                have c41b0 : (t115 == 1) = true := beq_iff_eq.mpr c41
                                have c41b1 : (t115 != 1) = false := bne_eq_false_iff_eq.mpr c41
                                clear c41
                                obtain rfl := Option.some.inj H
                                go_wp2
                                go_ret
                                exact ⟨by first | rfl | (simp; done) | (simp [*]; done), by repeat (first | exact Drawn0.refl _ | apply Drawn0.step)⟩
                              · rw [if_neg c41] at H
                                have c41b0 : (t115 == 1) = false := beq_eq_false_iff_ne.mpr c41
                                have c41b1 : (t115 != 1) = true := bne_iff_ne.mpr c41
                                obtain rfl := Option.some.inj H
                                go_wp2
                                go_ret
                                exact ⟨by first | rfl | (simp; done) | (simp [*]; done), by repeat (first | exact Drawn0.refl _ | apply Drawn0.step)⟩
                            · replace c40 := Bool.eq_false_iff.mpr c40
                              subst c40
                              have H1 : (gamehalllaw1_BitsShifts.l1 kj33 a0 a1 a2 t114 t115 0 (wrap64 ((Int.tmod a3 8) + a1)) (wrap64 ((wrap64 (Int.tdiv a3 8)) + a2))) = some r := by rw [if_neg (show ¬ (false = true) by decide)] at H; exact H
                              clear H
                              have H := H1
                              clear H1
                              have H' := Aside0.mk H
                              clear H
                              go_wp2
                              go_loopg [15, 16, 17] kj33 (fun kq v15 v16 v17 w' => ∃ (x15_5 : Int) (x16_5 : Int) (x17_5 : Int), v15 = .int .u64 x15_5 ∧ v16 = .int .i64 x16_5 ∧ v17 = .int .i64 x17_5 ∧ Aside0 (gamehalllaw1_BitsShifts.l1 kq a0 a1 a2 t114 t115 x15_5 x16_5 x17_5 = some r) ∧ Aside0 (kq ≤ kj33) ∧ Drawn0 w w')
                              case atStart => exact ⟨(0), (wrap64 ((Int.tmod a3 8) + a1)), (wrap64 ((wrap64 (Int.tdiv a3 8)) + a2)), (by first | rfl | (simp; done) | (simp [*]; done)), (by first | rfl | (simp; done) | (simp [*]; done)), (by first | rfl | (simp; done) | (simp [*]; done)), H', ⟨Nat.le_refl _⟩, by repeat (first | exact Drawn0.refl _ | apply Drawn0.step)⟩
                              case round =>
                                clear H'
                                try clear c1
                                try clear c2
                                try clear p2
                                try clear c3
                                try clear c4
                                try clear c5
                                try clear p6
                                try clear c7
                                try clear c7b0
                                try clear c7b1
                                try clear c9
                                try clear c10
                                try clear c12
                                try clear c12b0
                                try clear c12b1
                                try clear c13
                                try clear c14
                                try clear c14b0
                                try clear c15
                                try clear c15b0
                                try clear c15b1
                                try clear c16
                                try clear c17
                                try clear c17b0
                                try clear c17b1
                                try clear c19
                                try clear c21
                                try clear c23
                                try clear c25
                                try clear c27
                                try clear c27b0
                                try clear c27b1
                                try clear c30
                                try clear c30b0
                                try clear c30b1
                                try clear c33
                                try clear c36
                                try clear c38
                                try clear c39
                                try clear c39b0
                                try clear c39b1
                                try clear c40
                                try clear c41
                                try clear c41b0
                                try clear c41b1
                                try clear p2
                                try clear p6
                                obtain ⟨x15_5, x16_5, x17_5, rfl, rfl, rfl, HA, HK5, ⟨m5, rfl⟩⟩ := hrel
                                cases gk with
                                | zero => exact absurd HA.out (by simp [gamehalllaw1_BitsShifts.l1])
                                | succ k5 =>
                                  have H := HA.out
                                  clear HA
                                  simp only [gamehalllaw1_BitsShifts.l1] at H
                                  have HC42 := Aside0.mk H
                                  clear H
                                  go_upto_region 22 with (fail)
                                  go_cut [132] (fun v132 wc => ∃ (kq : Nat) (x132_41 : Bool), v132 = .bool x132_41 ∧ Aside0 (gamehalllaw1_BitsShifts.j5 kq a0 a1 a2 t114 t115 x15_5 x16_5 x17_5 x132_41 = some r) ∧ Aside0 (kq ≤ k5) ∧ Drawn0 w wc)
                                  case first =>
                                    have H := HC42.out
                                    clear HC42
                                    replace H := Option.bind_eq_some_iff.mp H
                                    obtain ⟨t119, A430, H⟩ := H
                                    replace H : (if t119 = true then ((gamehallref1_In.f x17_5 0 7).bind fun t120 => (gamehalllaw1_BitsShifts.j5 k5 a0 a1 a2 t114 t115 x15_5 x16_5 x17_5 t120)) else (gamehalllaw1_BitsShifts.j5 k5 a0 a1 a2 t114 t115 x15_5 x16_5 x17_5 false)) = some r := H
                                    have A43 := Aside0.mk A430
                                    clear A430
                                    by_cases c44 : t119 = true
                                    · subst c44
                                      have H1 : ((gamehallref1_In.f x17_5 0 7).bind fun t120 => (gamehalllaw1_BitsShifts.j5 k5 a0 a1 a2 t114 t115 x15_5 x16_5 x17_5 t120)) = some r := by rw [if_pos rfl] at H; exact H
                                      clear H
                                      have H := H1
                                      clear H1
                                      replace H := Option.bind_eq_some_iff.mp H
                                      obtain ⟨t120, A450, H⟩ := H
                                      replace H : (gamehalllaw1_BitsShifts.j5 k5 a0 a1 a2 t114 t115 x15_5 x16_5 x17_5 t120) = some r := H
                                      have A45 := Aside0.mk A450
                                      clear A450
                                      have H' := Aside0.mk H
                                      clear H
                                      go_wp2_with (first | ((with_reducible refine gate_callee (f := 15) rfl ?_); refine goesL_ (some 128) rfl rfl Try.func15 (by kernel_rfl) rfl #[.int .i64 x16_5, .int .i64 0, .int .i64 7] rfl (by (try simp only [List.map_toArray, List.map_cons, List.map_nil]); first | done | rfl | (simp only [List.length_drop, List.length_take]; rfl)) ?_; (with_reducible refine (gamehallref1_In.calls x16_5 0 7 true _ A43.out).mono ?_); rintro e w' ⟨rfl, ⟨nd, rfl⟩⟩; refine ⟨_, rfl, ?_⟩) | (go_at_call 15; (with_reducible refine (gamehallref1_In.calls x17_5 0 7 t120 _ A45.out).mono ?_); rintro e w' ⟨rfl, ⟨nd, rfl⟩⟩))
                                      go_meet
                                      case rel => exact ⟨_, (t120), (by first | rfl | (simp; done) | (simp [*]; done)), H', ⟨by have := HJ4.out; have := HJ10.out; have := HK3.out; have := HJ33.out; have := HK5.out; first | omega | exact Nat.le_refl _⟩, by repeat (first | exact Drawn0.refl _ | apply Drawn0.step)⟩
                                    · replace c44 := Bool.eq_false_iff.mpr c44
                                      subst c44
                                      have H1 : (gamehalllaw1_BitsShifts.j5 k5 a0 a1 a2 t114 t115 x15_5 x16_5 x17_5 false) = some r := by rw [if_neg (show ¬ (false = true) by decide)] at H; exact H
                                      clear H
                                      have H := H1
                                      clear H1
                                      have H' := Aside0.mk H
                                      clear H
                                      go_wp2_with (first | ((with_reducible refine gate_callee (f := 15) rfl ?_); refine goesL_ (some 128) rfl rfl Try.func15 (by kernel_rfl) rfl #[.int .i64 x16_5, .int .i64 0, .int .i64 7] rfl (by (try simp only [List.map_toArray, List.map_cons, List.map_nil]); first | done | rfl | (simp only [List.length_drop, List.length_take]; rfl)) ?_; (with_reducible refine (gamehallref1_In.calls x16_5 0 7 false _ A43.out).mono ?_); rintro e w' ⟨rfl, ⟨nd, rfl⟩⟩; refine ⟨_, rfl, ?_⟩))
                                      go_meet
                                      case rel => exact ⟨_, (false), (by first | rfl | (simp; done) | (simp [*]; done)), H', ⟨by have := HJ4.out; have := HJ10.out; have := HK3.out; have := HJ33.out; have := HK5.out; first | omega | exact Nat.le_refl _⟩, by repeat (first | exact Drawn0.refl _ | apply Drawn0.step)⟩
                                  case rest =>
                                    clear HC42
                                    try clear c1
                                    try clear c2
                                    try clear p2
                                    try clear c3
                                    try clear c4
                                    try clear c5
                                    try clear p6
                                    try clear c7
                                    try clear c7b0
                                    try clear c7b1
                                    try clear c9
                                    try clear c10
                                    try clear c12
                                    try clear c12b0
                                    try clear c12b1
                                    try clear c13
                                    try clear c14
                                    try clear c14b0
                                    try clear c15
                                    try clear c15b0
                                    try clear c15b1
                                    try clear c16
                                    try clear c17
                                    try clear c17b0
                                    try clear c17b1
                                    try clear c19
                                    try clear c21
                                    try clear c23
                                    try clear c25
                                    try clear c27
                                    try clear c27b0
                                    try clear c27b1
                                    try clear c30
                                    try clear c30b0
                                    try clear c30b1
                                    try clear c33
                                    try clear c36
                                    try clear c38
                                    try clear c39
                                    try clear c39b0
                                    try clear c39b1
                                    try clear c40
                                    try clear c41
                                    try clear c41b0
                                    try clear c41b1
                                    try clear c44
                                    try clear p2
                                    try clear p6
                                    obtain ⟨kq, x132_41, rfl, HA, HJ41, ⟨mc41, rfl⟩⟩ := hcut
                                    cases kq with
                                    | zero => exact absurd HA.out (by simp [gamehalllaw1_BitsShifts.j5])
                                    | succ kj41 =>
                                      have H := HA.out
                                      clear HA
                                      simp only [gamehalllaw1_BitsShifts.j5] at H
                                      by_cases c46 : x132_41 = true
                                      · subst c46
                                        have H1 : (if 0 ≤ (wrap64 (x16_5 + (wrap64 (8 * x17_5)))) then (if (Go.bits .and .u64 (shr .u64 a0 (wrap64 (x16_5 + (wrap64 (8 * x17_5))))) 1) = 1 then (if t115 = 0 then (some (t114 == (Go.bits .or .u64 x15_5 (shl .u64 1 (wrap64 (x16_5 + (wrap64 (8 * x17_5)))))))) else (some false)) else (gamehalllaw1_BitsShifts.l1 kj41 a0 a1 a2 t114 t115 (Go.bits .or .u64 x15_5 (shl .u64 1 (wrap64 (x16_5 + (wrap64 (8 * x17_5)))))) (wrap64 (x16_5 + a1)) (wrap64 (x17_5 + a2)))) else (none)) = some r := by rw [if_pos rfl] at H; exact H
                                        clear H
                                        have H := H1
                                        clear H1
                                        obtain ⟨ji47, hji47⟩ : ∃ j_ : Int, (wrap64 (x16_5 + (wrap64 (8 * x17_5)))) = j_ := ⟨_, rfl⟩
                                        replace H : (if 0 ≤ (ji47) then (if (Go.bits .and .u64 (shr .u64 a0 (ji47)) 1) = 1 then (if t115 = 0 then (some (t114 == (Go.bits .or .u64 x15_5 (shl .u64 1 (ji47))))) else (some false)) else (gamehalllaw1_BitsShifts.l1 kj41 a0 a1 a2 t114 t115 (Go.bits .or .u64 x15_5 (shl .u64 1 (ji47))) (wrap64 (x16_5 + a1)) (wrap64 (x17_5 + a2)))) else (none)) = some r := by first | (rw [hji47] at H; exact H) | (simp only [hji47] at H ⊢; exact H)
                                        have hji47w : (IntKind.i64.wrap (x16_5 + (wrap64 (8 * x17_5)))) = ji47 := (i64_w _).trans hji47
                                        by_cases c48 : 0 ≤ (ji47)
                                        · rw [if_pos c48] at H
                                          have c48b0 := eq_true c48
                                          have c48b1 : decide (0 ≤ (ji47)) = true := decide_eq_true c48
                                          clear c48
                                          obtain ⟨ji49, hji49⟩ : ∃ j_ : Int, (shl .u64 1 (ji47)) = j_ := ⟨_, rfl⟩
                                          replace H : (if (Go.bits .and .u64 (shr .u64 a0 (ji47)) 1) = 1 then (if t115 = 0 then (some (t114 == (Go.bits .or .u64 x15_5 (ji49)))) else (some false)) else (gamehalllaw1_BitsShifts.l1 kj41 a0 a1 a2 t114 t115 (Go.bits .or .u64 x15_5 (ji49)) (wrap64 (x16_5 + a1)) (wrap64 (x17_5 + a2)))) = some r := by first | (rw [hji49] at H; exact H) | (simp only [hji49] at H ⊢; exact H)
                                          have hji49_ : (IntKind.u64.wrap (1 * 2 ^ min (ji47).toNat 64)) = ji49 := hji49
                                          have hji49z : (ji47) ≤ 64 → (IntKind.u64.wrap (1 * 2 ^ (ji47).toNat)) = ji49 := shl_small hji49
                                          have hji49u : (IntKind.u64.wrap (2 ^ min (ji47).toNat 64)) = ji49 := by have h_ := hji49_; rw [Int.one_mul] at h_; exact h_
                                          have hji49v : (ji47) ≤ 64 → (IntKind.u64.wrap (2 ^ (ji47).toNat)) = ji49 := fun hle_ => by have h_ := hji49z hle_; rw [Int.one_mul] at h_; exact h_
                                          have c50b0 := eq_true (of_decide_eq_true (by first | (with_reducible assumption) | assumption) : 0 ≤ (ji47))
                                          obtain ⟨ji51, hji51⟩ : ∃ j_ : Int, (shr .u64 a0 (ji47)) = j_ := ⟨_, rfl⟩
                                          replace H : (if (Go.bits .and .u64 (ji51) 1) = 1 then (if t115 = 0 then (some (t114 == (Go.bits .or .u64 x15_5 (ji49)))) else (some false)) else (gamehalllaw1_BitsShifts.l1 kj41 a0 a1 a2 t114 t115 (Go.bits .or .u64 x15_5 (ji49)) (wrap64 (x16_5 + a1)) (wrap64 (x17_5 + a2)))) = some r := by first | (rw [hji51] at H; exact H) | (simp only [hji51] at H ⊢; exact H)
                                          have hji51_ : (a0 / 2 ^ min (ji47).toNat 64) = ji51 := hji51
                                          have hji51z : (ji47) ≤ 64 → (a0 / 2 ^ (ji47).toNat) = ji51 := shr_small hji51
                                          by_cases c52 : (Go.bits .and .u64 (ji51) 1) = 1
                                          · rw [if_pos c52] at H
                                            have c52b0 : ((Go.bits .and .u64 (ji51) 1) == 1) = true := beq_iff_eq.mpr c52
                                            have c52b1 : ((Go.bits .and .u64 (ji51) 1) != 1) = false := bne_eq_false_iff_eq.mpr c52
                                            clear c52
                                            by_cases c53 : t115 = 0
                                            · rw [if_pos c53] at H
                                              have c53b0 : (t115 == 0) = true := beq_iff_eq.mpr c53
                                              have c53b1 : (t115 != 0) = false := bne_eq_false_iff_eq.mpr c53
                                              clear c53
                                              obtain rfl := Option.some.inj H
                                              go_wp2
                                              go_ret
                                              exact ⟨by first | rfl | (simp; done) | (simp only [← hji47, ← hji49, ← hji51] <;> (first | rfl | simp)) | (simp [*]; done), by repeat (first | exact Drawn0.refl _ | apply Drawn0.step)⟩
                                            · rw [if_neg c53] at H
                                              have c53b0 : (t115 == 0) = false := beq_eq_false_iff_ne.mpr c53
                                              have c53b1 : (t115 != 0) = true := bne_iff_ne.mpr c53
                                              obtain rfl := Option.some.inj H
                                              go_wp2
                                              go_ret
                                              exact ⟨by first | rfl | (simp; done) | (simp only [← hji47, ← hji49, ← hji51] <;> (first | rfl | simp)) | (simp [*]; done), by repeat (first | exact Drawn0.refl _ | apply Drawn0.step)⟩
                                          · rw [if_neg c52] at H
                                            have c52b0 : ((Go.bits .and .u64 (ji51) 1) == 1) = false := beq_eq_false_iff_ne.mpr c52
                                            have c52b1 : ((Go.bits .and .u64 (ji51) 1) != 1) = true := bne_iff_ne.mpr c52
                                            have H' := Aside0.mk H
                                            clear H
                                            go_wp2
                                            go_roundg kj41
                                            case measure => have := HJ4.out; have := HJ10.out; have := HK3.out; have := HJ33.out; have := HK5.out; have := HJ41.out; omega
                                            case rel => exact ⟨(Go.bits .or .u64 x15_5 (ji49)), (wrap64 (x16_5 + a1)), (wrap64 (x17_5 + a2)), (by first | rfl | (simp; done) | (simp only [← hji49] <;> (first | rfl | simp)) | (simp [*]; done)), (by first | rfl | (simp; done) | (simp [*]; done)), (by first | rfl | (simp; done) | (simp [*]; done)), H', ⟨by have := HJ4.out; have := HJ10.out; have := HK3.out; have := HJ33.out; have := HK5.out; have := HJ41.out; omega⟩, by repeat (first | exact Drawn0.refl _ | apply Drawn0.step)⟩
                                        · rw [if_neg c48] at H
                                          exact absurd H (by simp)
                                      · replace c46 := Bool.eq_false_iff.mpr c46
                                        subst c46
                                        have H1 : (if t115 = 0 then (some (t114 == x15_5)) else (some false)) = some r := by rw [if_neg (show ¬ (false = true) by decide)] at H; exact H
                                        clear H
                                        have H := H1
                                        clear H1
                                        by_cases c54 : t115 = 0
                                        · rw [if_pos c54] at H
                                          have c54b0 : (t115 == 0) = true := beq_iff_eq.mpr c54
                                          have c54b1 : (t115 != 0) = false := bne_eq_false_iff_eq.mpr c54
                                          clear c54
                                          obtain rfl := Option.some.inj H
                                          go_wp2
                                          go_ret
                                          exact ⟨by first | rfl | (simp; done) | (simp [*]; done), by repeat (first | exact Drawn0.refl _ | apply Drawn0.step)⟩
                                        · rw [if_neg c54] at H
                                          have c54b0 : (t115 == 0) = false := beq_eq_false_iff_ne.mpr c54
                                          have c54b1 : (t115 != 0) = true := bne_iff_ne.mpr c54
                                          obtain rfl := Option.some.inj H
                                          go_wp2
                                          go_ret
                                          exact ⟨by first | rfl | (simp; done) | (simp [*]; done), by repeat (first | exact Drawn0.refl _ | apply Drawn0.step)⟩
                      · replace c33 := Bool.eq_false_iff.mpr c33
                        subst c33
                        have H1 : (if t115 = 4 then (some (t114 == 0)) else (some false)) = some r := by rw [if_neg (show ¬ (false = true) by decide)] at H; exact H
                        clear H
                        have H := H1
                        clear H1
                        by_cases c55 : t115 = 4
                        · rw [if_pos c55] at H
                          have c55b0 : (t115 == 4) = true := beq_iff_eq.mpr c55
                          have c55b1 : (t115 != 4) = false := bne_eq_false_iff_eq.mpr c55
                          clear c55
                          obtain rfl := Option.some.inj H
                          go_wp2_with (first | ((with_reducible refine gate_callee (f := 16) rfl ?_); refine goesL_ (some 77) rfl rfl Try.func16 (by kernel_rfl) rfl #[.int .u64 a0, .int .i64 a1, .int .i64 a2] rfl (by (try simp only [List.map_toArray, List.map_cons, List.map_nil]); first | done | rfl | (simp only [List.length_drop, List.length_take]; rfl)) ?_; (with_reducible refine (bits_Shift.calls k3 a0 a1 a2 t113 _ A29.out).mono ?_); rintro e w' ⟨rfl, ⟨nd, rfl⟩⟩; refine ⟨_, rfl, ?_⟩) | ((with_reducible refine gate_callee (f := 17) rfl ?_); refine goesL_ (some 85) rfl rfl Try.func17 (by kernel_rfl) rfl #[.int .i64 a3, .int .i64 a1, .int .i64 a2, .int .u64 a0] rfl (by (try simp only [List.map_toArray, List.map_cons, List.map_nil]); first | done | rfl | (simp only [List.length_drop, List.length_take]; rfl)) ?_; (with_reducible refine (bits_Ray.calls k3 a3 a1 a2 a0 t114 t115 _ A31.out).mono ?_); rintro e w' ⟨rfl, ⟨nd, rfl⟩⟩; refine ⟨_, rfl, ?_⟩) | ((with_reducible refine gate_callee (f := 15) rfl ?_); refine goesL_ (some 89) rfl rfl Try.func15 (by kernel_rfl) rfl #[.int .i64 a3, .int .i64 0, .int .i64 63] rfl (by (try simp only [List.map_toArray, List.map_cons, List.map_nil]); first | done | rfl | (simp only [List.length_drop, List.length_take]; rfl)) ?_; (with_reducible refine (gamehallref1_In.calls a3 0 63 false _ A32.out).mono ?_); rintro e w' ⟨rfl, ⟨nd, rfl⟩⟩; refine ⟨_, rfl, ?_⟩))
                          go_ret
                          exact ⟨by first | rfl | (simp; done) | (simp [*]; done), by repeat (first | exact Drawn0.refl _ | apply Drawn0.step)⟩
                        · rw [if_neg c55] at H
                          have c55b0 : (t115 == 4) = false := beq_eq_false_iff_ne.mpr c55
                          have c55b1 : (t115 != 4) = true := bne_iff_ne.mpr c55
                          obtain rfl := Option.some.inj H
                          go_wp2_with (first | ((with_reducible refine gate_callee (f := 16) rfl ?_); refine goesL_ (some 77) rfl rfl Try.func16 (by kernel_rfl) rfl #[.int .u64 a0, .int .i64 a1, .int .i64 a2] rfl (by (try simp only [List.map_toArray, List.map_cons, List.map_nil]); first | done | rfl | (simp only [List.length_drop, List.length_take]; rfl)) ?_; (with_reducible refine (bits_Shift.calls k3 a0 a1 a2 t113 _ A29.out).mono ?_); rintro e w' ⟨rfl, ⟨nd, rfl⟩⟩; refine ⟨_, rfl, ?_⟩) | ((with_reducible refine gate_callee (f := 17) rfl ?_); refine goesL_ (some 85) rfl rfl Try.func17 (by kernel_rfl) rfl #[.int .i64 a3, .int .i64 a1, .int .i64 a2, .int .u64 a0] rfl (by (try simp only [List.map_toArray, List.map_cons, List.map_nil]); first | done | rfl | (simp only [List.length_drop, List.length_take]; rfl)) ?_; (with_reducible refine (bits_Ray.calls k3 a3 a1 a2 a0 t114 t115 _ A31.out).mono ?_); rintro e w' ⟨rfl, ⟨nd, rfl⟩⟩; refine ⟨_, rfl, ?_⟩) | ((with_reducible refine gate_callee (f := 15) rfl ?_); refine goesL_ (some 89) rfl rfl Try.func15 (by kernel_rfl) rfl #[.int .i64 a3, .int .i64 0, .int .i64 63] rfl (by (try simp only [List.map_toArray, List.map_cons, List.map_nil]); first | done | rfl | (simp only [List.length_drop, List.length_take]; rfl)) ?_; (with_reducible refine (gamehallref1_In.calls a3 0 63 false _ A32.out).mono ?_); rintro e w' ⟨rfl, ⟨nd, rfl⟩⟩; refine ⟨_, rfl, ?_⟩))
                          go_ret
                          exact ⟨by first | rfl | (simp; done) | (simp [*]; done), by repeat (first | exact Drawn0.refl _ | apply Drawn0.step)⟩
                    · rw [if_neg c30] at H
                      have c30b0 : (t113 == x11_3) = false := beq_eq_false_iff_ne.mpr c30
                      have c30b1 : (t113 != x11_3) = true := bne_iff_ne.mpr c30
                      obtain rfl := Option.some.inj H
                      go_wp2_with (first | ((with_reducible refine gate_callee (f := 16) rfl ?_); refine goesL_ (some 77) rfl rfl Try.func16 (by kernel_rfl) rfl #[.int .u64 a0, .int .i64 a1, .int .i64 a2] rfl (by (try simp only [List.map_toArray, List.map_cons, List.map_nil]); first | done | rfl | (simp only [List.length_drop, List.length_take]; rfl)) ?_; (with_reducible refine (bits_Shift.calls k3 a0 a1 a2 t113 _ A29.out).mono ?_); rintro e w' ⟨rfl, ⟨nd, rfl⟩⟩; refine ⟨_, rfl, ?_⟩))
                      go_ret
                      exact ⟨by first | rfl | (simp; done) | (simp [*]; done), by repeat (first | exact Drawn0.refl _ | apply Drawn0.step)⟩

/-- THE ONE PURE STATEMENT of gamehalllaw1_BitsShifts: yours. -/
def gamehalllaw1_BitsShifts.Pure : Prop := ∀ (a0 : Int) (a1 : Int) (a2 : Int) (a3 : Int), (Lit.int .u64 a0).wf = true → (Lit.int .i64 a1).wf = true → (Lit.int .i64 a2).wf = true → (Lit.int .i64 a3).wf = true → ∃ k, gamehalllaw1_BitsShifts.f k a0 a1 a2 a3 = some true
theorem gamehalllaw1_BitsShifts.walk (P : gamehalllaw1_BitsShifts.Pure) (a0 : Int) (a1 : Int) (a2 : Int) (a3 : Int) (w : World) (w0 : (Lit.int .u64 a0).wf = true) (w1 : (Lit.int .i64 a1).wf = true) (w2 : (Lit.int .i64 a2).wf = true) (w3 : (Lit.int .i64 a3).wf = true) :
    Calls Try.prog 5 #[.int .u64 a0, .int .i64 a1, .int .i64 a2, .int .i64 a3] w fun e w' => e = .returned (.bool true) ∧ Below w.heap.size w w' := by
  obtain ⟨k, h⟩ := P a0 a1 a2 a3 w0 w1 w2 w3
  refine (gamehalllaw1_BitsShifts.calls k a0 a1 a2 a3 true w h).mono ?_
  rintro e w' ⟨rfl, hd⟩
  exact ⟨rfl, hd.below⟩

end Go.Proofs.Ytcncilipmekfhaa.PBitsShifts
