-- Printed by a program of this claim's writer (wip/ext): an extension of the kit's print.
import Derived.Test.YtcncilipmekfhaaPRobinMeetsx0
namespace Go.Proofs.Ytcncilipmekfhaa.PRobinMeets
open Go.RowKit Go.Proofs.YtcncilipmekfhaaW.PrintWords Go.Proofs.YtcncilipmekfhaaW.PrintLast Go.Proofs.YtcncilipmekfhaaW.PrintMore
attribute [local go_sem] max2_int min2_int max_two min_two max_three min_three max_four min_four   -- for this text's walks alone
set_option linter.unusedVariables false
set_option linter.unusedSimpArgs false

/-! ### gamehallref3_Round: function 34 -/
mutual
def gamehallref3_Round.l0 : Nat → Int → Int → Int → Int → Int → Option (Int × Bool)
  | 0, _, _, _, _, _ => none
  | k + 1, x0, x1, x2, x29, x30 => if x30 < x29 then (if x2 = (wrap64 (x0 - 1)) then (if x30 = x1 then (some (x30, ((Int.tmod x30 2) == 0))) else (gamehallref3_Round.l0 k x0 x1 x2 x29 (wrap64 (x30 + 1)))) else (gamehallref3_Round.l1 k x0 x1 x2 x30 1 x29 x30)) else (some ((-1), false))
def gamehallref3_Round.l1 : Nat → Int → Int → Int → Int → Int → Int → Int → Option (Int × Bool)
  | 0, _, _, _, _, _, _, _ => none
  | k + 1, x0, x1, x2, x10, x11, x29, x30 => if x11 < (wrap64 (Int.tdiv x0 2)) then (if (wrap64 (x0 - 1)) = 0 then (none) else (if (Int.tmod (wrap64 (x10 + x11)) (wrap64 (x0 - 1))) = x1 then (gamehallref3_Round.j2 k x0 x1 x2 x10 x11 (Int.tmod (wrap64 (x10 + x11)) (wrap64 (x0 - 1))) (Int.tmod (wrap64 ((wrap64 ((wrap64 (x10 + x0)) - 1)) - x11)) (wrap64 (x0 - 1))) x29 x30 ((Int.tmod (wrap64 ((wrap64 ((wrap64 (x10 + x0)) - 1)) - x11)) (wrap64 (x0 - 1))) == x2)) else (gamehallref3_Round.j2 k x0 x1 x2 x10 x11 (Int.tmod (wrap64 (x10 + x11)) (wrap64 (x0 - 1))) (Int.tmod (wrap64 ((wrap64 ((wrap64 (x10 + x0)) - 1)) - x11)) (wrap64 (x0 - 1))) x29 x30 false))) else (gamehallref3_Round.l0 k x0 x1 x2 x29 (wrap64 (x30 + 1)))
def gamehallref3_Round.j2 : Nat → Int → Int → Int → Int → Int → Int → Int → Int → Int → Bool → Option (Int × Bool)
  | 0, _, _, _, _, _, _, _, _, _, _ => none
  | k + 1, x0, x1, x2, x10, x11, x12, x13, x29, x30, x72 => if x72 = true then (some (x10, ((Int.tmod x11 2) == 0))) else (if x12 = x2 then (if x13 = x1 then (some (x10, ((Int.tmod x11 2) == 1))) else (gamehallref3_Round.l1 k x0 x1 x2 x10 (wrap64 (x11 + 1)) x29 x30)) else (gamehallref3_Round.l1 k x0 x1 x2 x10 (wrap64 (x11 + 1)) x29 x30))
def gamehallref3_Round.f : Nat → Int → Int → Int → Option (Int × Bool)
  | 0, _, _, _ => none
  | k + 1, a0, a1, a2 => if a1 = (wrap64 (a0 - 1)) then ((gamehallref3_Round.f k a0 a2 a1).bind fun bt144 => (some (bt144.1, !bt144.2))) else (gamehallref3_Round.l0 k a0 a1 a2 (wrap64 (a0 - 1)) 0)
end
theorem gamehallref3_Round.mono_l : ∀ k, (∀ y0 y1 y2, LeO (gamehallref3_Round.f k y0 y1 y2) (gamehallref3_Round.f (k + 1) y0 y1 y2)) ∧ (∀ y0 y1 y2 y3 y4, LeO (gamehallref3_Round.l0 k y0 y1 y2 y3 y4) (gamehallref3_Round.l0 (k + 1) y0 y1 y2 y3 y4)) ∧ (∀ y0 y1 y2 y3 y4 y5 y6, LeO (gamehallref3_Round.l1 k y0 y1 y2 y3 y4 y5 y6) (gamehallref3_Round.l1 (k + 1) y0 y1 y2 y3 y4 y5 y6)) ∧ (∀ y0 y1 y2 y3 y4 y5 y6 y7 y8 y9, LeO (gamehallref3_Round.j2 k y0 y1 y2 y3 y4 y5 y6 y7 y8 y9) (gamehallref3_Round.j2 (k + 1) y0 y1 y2 y3 y4 y5 y6 y7 y8 y9))
  | 0 => ⟨fun _ _ _ r h => by simp [gamehallref3_Round.f] at h, fun _ _ _ _ _ r h => by simp [gamehallref3_Round.l0] at h, fun _ _ _ _ _ _ _ r h => by simp [gamehallref3_Round.l1] at h, fun _ _ _ _ _ _ _ _ _ _ r h => by simp [gamehallref3_Round.j2] at h⟩
  | k + 1 => by
    obtain ⟨ih0, ih1, ih2, ih3⟩ := gamehallref3_Round.mono_l k
    refine ⟨?_, ?_, ?_, ?_⟩
    · intro y0 y1 y2
      unfold gamehallref3_Round.f
      repeat' first
      | (with_reducible exact ih0 _ _ _)
      | (with_reducible exact ih1 _ _ _ _ _)
      | (with_reducible exact ih2 _ _ _ _ _ _ _)
      | (with_reducible exact ih3 _ _ _ _ _ _ _ _ _ _)
      | (with_reducible exact LeO.refl _)
      | (with_reducible exact LeO.none _)
      | (with_reducible refine LeO.ite ?_ ?_)
      | (with_reducible refine LeO.bind ?_ (fun _ => ?_))
      | exact ih0 _ _ _
      | exact ih1 _ _ _ _ _
      | exact ih2 _ _ _ _ _ _ _
      | exact ih3 _ _ _ _ _ _ _ _ _ _
      | exact LeO.none _
      | refine LeO.ite ?_ ?_
      | refine LeO.bind ?_ (fun _ => ?_)
    · intro y0 y1 y2 y3 y4
      unfold gamehallref3_Round.l0
      repeat' first
      | (with_reducible exact ih0 _ _ _)
      | (with_reducible exact ih1 _ _ _ _ _)
      | (with_reducible exact ih2 _ _ _ _ _ _ _)
      | (with_reducible exact ih3 _ _ _ _ _ _ _ _ _ _)
      | (with_reducible exact LeO.refl _)
      | (with_reducible exact LeO.none _)
      | (with_reducible refine LeO.ite ?_ ?_)
      | (with_reducible refine LeO.bind ?_ (fun _ => ?_))
      | exact ih0 _ _ _
      | exact ih1 _ _ _ _ _
      | exact ih2 _ _ _ _ _ _ _
      | exact ih3 _ _ _ _ _ _ _ _ _ _
      | exact LeO.none _
      | refine LeO.ite ?_ ?_
      | refine LeO.bind ?_ (fun _ => ?_)
    · intro y0 y1 y2 y3 y4 y5 y6
      unfold gamehallref3_Round.l1
      repeat' first
      | (with_reducible exact ih0 _ _ _)
      | (with_reducible exact ih1 _ _ _ _ _)
      | (with_reducible exact ih2 _ _ _ _ _ _ _)
      | (with_reducible exact ih3 _ _ _ _ _ _ _ _ _ _)
      | (with_reducible exact LeO.refl _)
      | (with_reducible exact LeO.none _)
      | (with_reducible refine LeO.ite ?_ ?_)
      | (with_reducible refine LeO.bind ?_ (fun _ => ?_))
      | exact ih0 _ _ _
      | exact ih1 _ _ _ _ _
      | exact ih2 _ _ _ _ _ _ _
      | exact ih3 _ _ _ _ _ _ _ _ _ _
      | exact LeO.none _
      | refine LeO.ite ?_ ?_
      | refine LeO.bind ?_ (fun _ => ?_)
    · intro y0 y1 y2 y3 y4 y5 y6 y7 y8 y9
      unfold gamehallref3_Round.j2
      repeat' first
      | (with_reducible exact ih0 _ _ _)
      | (with_reducible exact ih1 _ _ _ _ _)
      | (with_reducible exact ih2 _ _ _ _ _ _ _)
      | (with_reducible exact ih3 _ _ _ _ _ _ _ _ _ _)
      | (with_reducible exact LeO.refl _)
      | (with_reducible exact LeO.none _)
      | (with_reducible refine LeO.ite ?_ ?_)
      | (with_reducible refine LeO.bind ?_ (fun _ => ?_))
      | exact ih0 _ _ _
      | exact ih1 _ _ _ _ _
      | exact ih2 _ _ _ _ _ _ _
      | exact ih3 _ _ _ _ _ _ _ _ _ _
      | exact LeO.none _
      | refine LeO.ite ?_ ?_
      | refine LeO.bind ?_ (fun _ => ?_)
theorem gamehallref3_Round.mono : ∀ a0 a1 a2 k, LeO (gamehallref3_Round.f k a0 a1 a2) (gamehallref3_Round.f (k + 1) a0 a1 a2) := by
  intro a0 a1 a2 k
  obtain ⟨ih0, ih1, ih2, ih3⟩ := gamehallref3_Round.mono_l k
  exact ih0 a0 a1 a2
set_option maxHeartbeats 8000000 in
set_option maxRecDepth 100000 in
theorem gamehallref3_Round.calls (k : Nat) : ∀ (a0 : Int) (a1 : Int) (a2 : Int) (r1 : Int) (r2 : Bool) (w : World) (h : gamehallref3_Round.f k a0 a1 a2 = some (r1, r2)),
    Calls Try.prog 34 #[.int .i64 a0, .int .i64 a1, .int .i64 a2] w fun e w' => e = .returned (.tuple #[.int .i64 r1, .bool r2]) ∧ Drawn0 w w' := by
 induction k using Nat.strongRecOn with
 | _ k ih =>
 intro a0 a1 a2 r1 r2 w h
 cases k with
 | zero => exact absurd h (by simp [gamehallref3_Round.f])
 | succ k =>
 simp only [gamehallref3_Round.f] at h
 have H : (if a1 = (wrap64 (a0 - 1)) then ((gamehallref3_Round.f k a0 a2 a1).bind fun bt144 => (some (bt144.1, !bt144.2))) else (gamehallref3_Round.l0 k a0 a1 a2 (wrap64 (a0 - 1)) 0)) = some (r1, r2) := h
 clear h
 by_cases c4 : a1 = (wrap64 (a0 - 1))
 ·rw [if_pos c4] at H
  have c4b0 : (a1 == (wrap64 (a0 - 1))) = true := beq_iff_eq.mpr c4
  have c4b1 : (a1 != (wrap64 (a0 - 1))) = false := bne_eq_false_iff_eq.mpr c4
  clear c4
  replace H := Option.bind_eq_some_iff.mp H
  obtain ⟨⟨t144, t145⟩, A50, H⟩ := H
  replace H : (some (t144, !t145)) = some (r1, r2) := H
  have A5 := Aside0.mk A50
  clear A50
  simp only [Option.some.injEq, Prod.mk.injEq] at H
  obtain ⟨rfl, rfl⟩ := H
  go_enter Try.func34, Try.ntmps34
  go_wp2_with (first | (go_at_call 34; (with_reducible refine (ih k (by omega) a0 a2 a1 t144 t145 _ A5.out).mono ?_); rintro e w' ⟨rfl, ⟨nd, rfl⟩⟩; (try first | exact ⟨rfl, _, World.drewN_drewN _ _ _⟩ | exact ⟨rfl, _, Eq.trans (World.drewN_drewN _ _ _) (congrArg (World.drewN _) (Nat.add_assoc _ _ _))⟩)))
  repeat (go_quiet (first | (go_at_call 34; (with_reducible refine (ih k (by omega) a0 a2 a1 t144 t145 _ A5.out).mono ?_); rintro e w' ⟨rfl, ⟨nd, rfl⟩⟩; (try first | exact ⟨rfl, _, World.drewN_drewN _ _ _⟩ | exact ⟨rfl, _, Eq.trans (World.drewN_drewN _ _ _) (congrArg (World.drewN _) (Nat.add_assoc _ _ _))⟩))); try go_wp2_with (first | (go_at_call 34; (with_reducible refine (ih k (by omega) a0 a2 a1 t144 t145 _ A5.out).mono ?_); rintro e w' ⟨rfl, ⟨nd, rfl⟩⟩; (try first | exact ⟨rfl, _, World.drewN_drewN _ _ _⟩ | exact ⟨rfl, _, Eq.trans (World.drewN_drewN _ _ _) (congrArg (World.drewN _) (Nat.add_assoc _ _ _))⟩))))
  go_ret2
  exact ⟨xrf, by repeat (first | exact Drawn0.refl _ | apply Drawn0.step)⟩
 ·rw [if_neg c4] at H
  have c4b0 : (a1 == (wrap64 (a0 - 1))) = false := beq_eq_false_iff_ne.mpr c4
  have c4b1 : (a1 != (wrap64 (a0 - 1))) = true := bne_iff_ne.mpr c4
  have H' := Aside0.mk H
  clear H
  go_enter Try.func34, Try.ntmps34
  go_wp2
  repeat (go_quiet (fail); try go_wp2)
  go_loopg [30] k (fun kq vs30 w' => ∃ (x30_1 : Int), vs30 = .int .i64 x30_1 ∧ Aside0 (gamehallref3_Round.l0 kq a0 a1 a2 (wrap64 (a0 - 1)) x30_1 = some (r1, r2)) ∧ Aside0 (kq ≤ k) ∧ Drawn0 w w')
  case atStart => exact ⟨(0), (xrf), H', ⟨Nat.le_refl _⟩, by repeat (first | exact Drawn0.refl _ | apply Drawn0.step)⟩
  case round =>
   clear H'
   try clear p2
   try clear c3
   try clear c4
   try clear c4b0
   try clear c4b1
   obtain ⟨x30_1, rfl, HA, HK1, ⟨m1, rfl⟩⟩ := hrel
   cases gk with
   | zero => exact absurd HA.out (by simp [gamehallref3_Round.l0])
   | succ k1 =>
    have H := HA.out
    clear HA
    simp only [gamehallref3_Round.l0] at H
    by_cases c6 : x30_1 < (wrap64 (a0 - 1))
    ·rw [if_pos c6] at H
     have c6b0 : decide (x30_1 < (wrap64 (a0 - 1))) = true := decide_eq_true c6
     clear c6
     by_cases c7 : a2 = (wrap64 (a0 - 1))
     ·rw [if_pos c7] at H
      have c7b0 : (a2 == (wrap64 (a0 - 1))) = true := beq_iff_eq.mpr c7
      have c7b1 : (a2 != (wrap64 (a0 - 1))) = false := bne_eq_false_iff_eq.mpr c7
      clear c7
      by_cases c8 : x30_1 = a1
      ·rw [if_pos c8] at H
       have c8b0 : (x30_1 == a1) = true := beq_iff_eq.mpr c8
       have c8b1 : (x30_1 != a1) = false := bne_eq_false_iff_eq.mpr c8
       clear c8
       simp only [Option.some.injEq, Prod.mk.injEq] at H
       obtain ⟨rfl, rfl⟩ := H
       go_wp2
       repeat (go_quiet (fail); try go_wp2)
       go_ret2
       exact ⟨xrf, by repeat (first | exact Drawn0.refl _ | apply Drawn0.step)⟩
      ·rw [if_neg c8] at H
       have c8b0 : (x30_1 == a1) = false := beq_eq_false_iff_ne.mpr c8
       have c8b1 : (x30_1 != a1) = true := bne_iff_ne.mpr c8
       have H' := Aside0.mk H
       clear H
       go_wp2
       repeat (go_quiet (fail); try go_wp2)
       go_roundg k1
       case measure => have := HK1.out; omega
       case rel => exact ⟨(wrap64 (x30_1 + 1)), (xrf), H', ⟨by have := HK1.out; omega⟩, by repeat (first | exact Drawn0.refl _ | apply Drawn0.step)⟩
     ·rw [if_neg c7] at H
      have c7b0 : (a2 == (wrap64 (a0 - 1))) = false := beq_eq_false_iff_ne.mpr c7
      have c7b1 : (a2 != (wrap64 (a0 - 1))) = true := bne_iff_ne.mpr c7
      have H' := Aside0.mk H
      clear H
      go_wp2
      repeat (go_quiet (fail); try go_wp2)
      go_loopg [11] k1 (fun kq vs11 w' => ∃ (x11_2 : Int), vs11 = .int .i64 x11_2 ∧ Aside0 (gamehallref3_Round.l1 kq a0 a1 a2 x30_1 x11_2 (wrap64 (a0 - 1)) x30_1 = some (r1, r2)) ∧ Aside0 (kq ≤ k1) ∧ Drawn0 w w')
      case atStart => exact ⟨(1), (xrf), H', ⟨Nat.le_refl _⟩, by repeat (first | exact Drawn0.refl _ | apply Drawn0.step)⟩
      case round =>
       clear H'
       try clear p2
       try clear c3
       try clear c4
       try clear c4b0
       try clear c4b1
       try clear c6
       try clear c6b0
       try clear p6
       try clear c7
       try clear c7b0
       try clear c7b1
       try clear c8
       try clear c8b0
       try clear c8b1
       try clear p2
       obtain ⟨x11_2, rfl, HA, HK2, ⟨m2, rfl⟩⟩ := hrel
       cases gk with
       | zero => exact absurd HA.out (by simp [gamehallref3_Round.l1])
       | succ k2 =>
        have H := HA.out
        clear HA
        simp only [gamehallref3_Round.l1] at H
        by_cases c9 : x11_2 < (wrap64 (Int.tdiv a0 2))
        ·rw [if_pos c9] at H
         have c9b0 : decide (x11_2 < (wrap64 (Int.tdiv a0 2))) = true := decide_eq_true c9
         clear c9
         by_cases c10 : (wrap64 (a0 - 1)) = 0
         ·rw [if_pos c10] at H
          exact absurd H (by simp)
         ·rw [if_neg c10] at H
          have c10b0 : ((wrap64 (a0 - 1)) == 0) = false := beq_eq_false_iff_ne.mpr c10
          have c10b1 : ((wrap64 (a0 - 1)) != 0) = true := bne_iff_ne.mpr c10
          have HC11 := Aside0.mk H
          clear H
          go_upto_region 14 with (fail)
          repeat (go_quiet (fail); go_upto_region 14 with (fail))
          go_cut [72] (fun vs72 wc => ∃ (kq : Nat) (x72_10 : Bool), vs72 = .bool x72_10 ∧ Aside0 (gamehallref3_Round.j2 kq a0 a1 a2 x30_1 x11_2 (Int.tmod (wrap64 (x30_1 + x11_2)) (wrap64 (a0 - 1))) (Int.tmod (wrap64 ((wrap64 ((wrap64 (x30_1 + a0)) - 1)) - x11_2)) (wrap64 (a0 - 1))) (wrap64 (a0 - 1)) x30_1 x72_10 = some (r1, r2)) ∧ Aside0 (kq ≤ k2) ∧ Drawn0 w wc)
          case first =>
           have H := HC11.out
           clear HC11
           by_cases c12 : (Int.tmod (wrap64 (x30_1 + x11_2)) (wrap64 (a0 - 1))) = a1
           ·rw [if_pos c12] at H
            have c12b0 : ((Int.tmod (wrap64 (x30_1 + x11_2)) (wrap64 (a0 - 1))) == a1) = true := beq_iff_eq.mpr c12
            have c12b1 : ((Int.tmod (wrap64 (x30_1 + x11_2)) (wrap64 (a0 - 1))) != a1) = false := bne_eq_false_iff_eq.mpr c12
            clear c12
            (first | rw [c12b0] | (simp only [i64_w, i32_w]; rw [c12b0]) | skip)
            have H' := Aside0.mk H
            clear H
            go_wp2
            repeat (go_quiet (fail); try go_wp2)
            go_meet
            case rel => exact ⟨_, (((Int.tmod (wrap64 ((wrap64 ((wrap64 (x30_1 + a0)) - 1)) - x11_2)) (wrap64 (a0 - 1))) == a2)), (xrf), H', ⟨by have := HK1.out; have := HK2.out; first | omega | exact Nat.le_refl _⟩, by repeat (first | exact Drawn0.refl _ | apply Drawn0.step)⟩
           ·rw [if_neg c12] at H
            have c12b0 : ((Int.tmod (wrap64 (x30_1 + x11_2)) (wrap64 (a0 - 1))) == a1) = false := beq_eq_false_iff_ne.mpr c12
            have c12b1 : ((Int.tmod (wrap64 (x30_1 + x11_2)) (wrap64 (a0 - 1))) != a1) = true := bne_iff_ne.mpr c12
            (first | rw [c12b0] | (simp only [i64_w, i32_w]; rw [c12b0]) | skip)
            have H' := Aside0.mk H
            clear H
            go_wp2
            repeat (go_quiet (fail); try go_wp2)
            go_meet
            case rel => exact ⟨_, (false), (xrf), H', ⟨by have := HK1.out; have := HK2.out; first | omega | exact Nat.le_refl _⟩, by repeat (first | exact Drawn0.refl _ | apply Drawn0.step)⟩
          case rest =>
           clear HC11
           try clear c1
           try clear p2
           try clear c3
           try clear c4
           try clear c4b0
           try clear c4b1
           try clear c6
           try clear c6b0
           try clear p6
           try clear c7
           try clear c7b0
           try clear c7b1
           try clear c8
           try clear c8b0
           try clear c8b1
           try clear c9
           try clear c9b0
           try clear c10
           try clear c10b0
           try clear c10b1
           try clear c12
           try clear c12b0
           try clear c12b1
           try clear p2
           try clear p6
           obtain ⟨kq, x72_10, rfl, HA, HJ10, ⟨mc10, rfl⟩⟩ := hcut
           cases kq with
           | zero => exact absurd HA.out (by simp [gamehallref3_Round.j2])
           | succ kj10 =>
            have H := HA.out
            clear HA
            simp only [gamehallref3_Round.j2] at H
            by_cases c13 : x72_10 = true
            ·subst c13
             have H1 : (some (x30_1, ((Int.tmod x11_2 2) == 0))) = some (r1, r2) := by rw [if_pos rfl] at H; exact H
             clear H
             have H := H1
             clear H1
             simp only [Option.some.injEq, Prod.mk.injEq] at H
             obtain ⟨rfl, rfl⟩ := H
             go_wp2
             repeat (go_quiet (fail); try go_wp2)
             go_ret2
             exact ⟨xrf, by repeat (first | exact Drawn0.refl _ | apply Drawn0.step)⟩
            ·replace c13 := Bool.eq_false_iff.mpr c13
             subst c13
             have H1 : (if (Int.tmod (wrap64 (x30_1 + x11_2)) (wrap64 (a0 - 1))) = a2 then (if (Int.tmod (wrap64 ((wrap64 ((wrap64 (x30_1 + a0)) - 1)) - x11_2)) (wrap64 (a0 - 1))) = a1 then (some (x30_1, ((Int.tmod x11_2 2) == 1))) else (gamehallref3_Round.l1 kj10 a0 a1 a2 x30_1 (wrap64 (x11_2 + 1)) (wrap64 (a0 - 1)) x30_1)) else (gamehallref3_Round.l1 kj10 a0 a1 a2 x30_1 (wrap64 (x11_2 + 1)) (wrap64 (a0 - 1)) x30_1)) = some (r1, r2) := by rw [if_neg (show ¬ (false = true) by decide)] at H; exact H
             clear H
             have H := H1
             clear H1
             by_cases c14 : (Int.tmod (wrap64 (x30_1 + x11_2)) (wrap64 (a0 - 1))) = a2
             ·rw [if_pos c14] at H
              have c14b0 : ((Int.tmod (wrap64 (x30_1 + x11_2)) (wrap64 (a0 - 1))) == a2) = true := beq_iff_eq.mpr c14
              have c14b1 : ((Int.tmod (wrap64 (x30_1 + x11_2)) (wrap64 (a0 - 1))) != a2) = false := bne_eq_false_iff_eq.mpr c14
              clear c14
              by_cases c15 : (Int.tmod (wrap64 ((wrap64 ((wrap64 (x30_1 + a0)) - 1)) - x11_2)) (wrap64 (a0 - 1))) = a1
              ·rw [if_pos c15] at H
               have c15b0 : ((Int.tmod (wrap64 ((wrap64 ((wrap64 (x30_1 + a0)) - 1)) - x11_2)) (wrap64 (a0 - 1))) == a1) = true := beq_iff_eq.mpr c15
               have c15b1 : ((Int.tmod (wrap64 ((wrap64 ((wrap64 (x30_1 + a0)) - 1)) - x11_2)) (wrap64 (a0 - 1))) != a1) = false := bne_eq_false_iff_eq.mpr c15
               clear c15
               simp only [Option.some.injEq, Prod.mk.injEq] at H
               obtain ⟨rfl, rfl⟩ := H
               go_wp2
               repeat (go_quiet (fail); try go_wp2)
               go_ret2
               exact ⟨xrf, by repeat (first | exact Drawn0.refl _ | apply Drawn0.step)⟩
              ·rw [if_neg c15] at H
               have c15b0 : ((Int.tmod (wrap64 ((wrap64 ((wrap64 (x30_1 + a0)) - 1)) - x11_2)) (wrap64 (a0 - 1))) == a1) = false := beq_eq_false_iff_ne.mpr c15
               have c15b1 : ((Int.tmod (wrap64 ((wrap64 ((wrap64 (x30_1 + a0)) - 1)) - x11_2)) (wrap64 (a0 - 1))) != a1) = true := bne_iff_ne.mpr c15
               have H' := Aside0.mk H
               clear H
               go_wp2
               repeat (go_quiet (fail); try go_wp2)
               go_roundg kj10
               case measure => have := HK1.out; have := HK2.out; have := HJ10.out; omega
               case rel => exact ⟨(wrap64 (x11_2 + 1)), (xrf), H', ⟨by have := HK1.out; have := HK2.out; have := HJ10.out; omega⟩, by repeat (first | exact Drawn0.refl _ | apply Drawn0.step)⟩
             ·rw [if_neg c14] at H
              have c14b0 : ((Int.tmod (wrap64 (x30_1 + x11_2)) (wrap64 (a0 - 1))) == a2) = false := beq_eq_false_iff_ne.mpr c14
              have c14b1 : ((Int.tmod (wrap64 (x30_1 + x11_2)) (wrap64 (a0 - 1))) != a2) = true := bne_iff_ne.mpr c14
              have H' := Aside0.mk H
              clear H
              go_wp2
              repeat (go_quiet (fail); try go_wp2)
              go_roundg kj10
              case measure => have := HK1.out; have := HK2.out; have := HJ10.out; omega
              case rel => exact ⟨(wrap64 (x11_2 + 1)), (xrf), H', ⟨by have := HK1.out; have := HK2.out; have := HJ10.out; omega⟩, by repeat (first | exact Drawn0.refl _ | apply Drawn0.step)⟩
        ·rw [if_neg c9] at H
         have c9b0 : decide (x11_2 < (wrap64 (Int.tdiv a0 2))) = false := decide_eq_false c9
         clear c9
         have H' := Aside0.mk H
         clear H
         go_wp2
         repeat (go_quiet (fail); try go_wp2)
         go_roundg k2
         case measure => have := HK1.out; have := HK2.out; omega
         case rel => exact ⟨(wrap64 (x30_1 + 1)), (xrf), H', ⟨by have := HK1.out; have := HK2.out; omega⟩, by repeat (first | exact Drawn0.refl _ | apply Drawn0.step)⟩
    ·rw [if_neg c6] at H
     have c6b0 : decide (x30_1 < (wrap64 (a0 - 1))) = false := decide_eq_false c6
     clear c6
     simp only [Option.some.injEq, Prod.mk.injEq] at H
     obtain ⟨rfl, rfl⟩ := H
     go_wp2
     repeat (go_quiet (fail); try go_wp2)
     go_ret2
     exact ⟨xrf, by repeat (first | exact Drawn0.refl _ | apply Drawn0.step)⟩

end Go.Proofs.Ytcncilipmekfhaa.PRobinMeets
