-- Printed by a program of this claim's writer (wip/ext): an extension of the kit's print.
import Derived.Test.YtcncilipmekfhaaDoorPRatingMovesx0
namespace Go.Proofs.YtcncilipmekfhaaDoor.PRatingMoves
open Go.RowKit Go.Proofs.YtcncilipmekfhaaDoorW.PrintWords Go.Proofs.YtcncilipmekfhaaDoorW.PrintLast Go.Proofs.YtcncilipmekfhaaDoorW.PrintMore
attribute [local go_sem] max2_int min2_int max_two min_two max_three min_three max_four min_four   -- for this text's walks alone
set_option linter.unusedVariables false
set_option linter.unusedSimpArgs false

/-! ### gamehalllaw3_rates: function 12 -/
def gamehalllaw3_rates.f (k : Nat)  : Option (Bool) := (rating_Expect.f k 0).bind fun t101 => (if t101 = 50 then ((rating_Expect.f k 400).bind fun t102 => (some (t102 == 51))) else (some false))
theorem gamehalllaw3_rates.mono : ∀ k, LeO (gamehalllaw3_rates.f k ) (gamehalllaw3_rates.f (k + 1) ) := by
  intro  k
  unfold gamehalllaw3_rates.f
  repeat' first
      | (with_reducible apply rating_Expect.mono)
      | (with_reducible exact LeO.refl _)
      | (with_reducible exact LeO.none _)
      | (with_reducible refine LeO.ite ?_ ?_)
      | (with_reducible refine LeO.bind ?_ (fun _ => ?_))
      | apply rating_Expect.mono
      | exact LeO.none _
      | refine LeO.ite ?_ ?_
      | refine LeO.bind ?_ (fun _ => ?_)
set_option maxHeartbeats 8000000 in
set_option maxRecDepth 100000 in
theorem gamehalllaw3_rates.calls (k : Nat)  (r : Bool) (w : World) (h : gamehalllaw3_rates.f k  = some r) (hlaid : LaidS w) :
    Calls Tryd.prog 12 #[] w fun e w' => e = .returned (.bool r) ∧ Drawn0 w w' := by
 have H : ((rating_Expect.f k 0).bind fun t101 => (if t101 = 50 then ((rating_Expect.f k 400).bind fun t102 => (some (t102 == 51))) else (some false))) = some r := h
 clear h; replace H := Option.bind_eq_some_iff.mp H
 obtain ⟨t101, A10, H⟩ := H
 try dsimp only at H
 have A1 := Aside0.mk A10; clear A10
 by_cases c2 : t101 = 50
 ·rw [if_pos c2] at H
  have c2b0 : (t101 == 50) = true := beq_iff_eq.mpr c2
  have c2b1 : (t101 != 50) = false := bne_eq_false_iff_eq.mpr c2
  clear c2; replace H := Option.bind_eq_some_iff.mp H
  obtain ⟨t102, A30, H⟩ := H
  replace H : (some (t102 == 51)) = some r := H
  have A3 := Aside0.mk A30; clear A30
  as_aux_lemma =>
   obtain rfl := Option.some.inj H
   go_enter Tryd.func12, Tryd.ntmps12
   go_wp2_with (first | ((with_reducible refine gate_callee (f := 13) rfl ?_); refine goesL_ (some 1) rfl rfl Tryd.func13 (by kernel_rfl) rfl #[.int .i64 0] rfl (by (try simp only [List.map_toArray, List.map_cons, List.map_nil]); first | done | rfl | (simp only [List.length_drop, List.length_take]; rfl)) ?_; (with_reducible refine (rating_Expect.calls k 0 t101 _ A1.out ?sideL).mono ?_); (case sideL => exact xL hlaid); rintro e w' ⟨rfl, ⟨nd, rfl⟩⟩; refine ⟨_, rfl, ?_⟩) | (go_at_call 13; (with_reducible refine (rating_Expect.calls k 400 t102 _ A3.out ?sideL).mono ?_); (case sideL => exact xL hlaid); rintro e w' ⟨rfl, ⟨nd, rfl⟩⟩))
   go_ret
   exact ⟨xrf, by repeat (first | exact Drawn0.refl _ | apply Drawn0.step)⟩
 ·rw [if_neg c2] at H
  have c2b0 : (t101 == 50) = false := beq_eq_false_iff_ne.mpr c2
  have c2b1 : (t101 != 50) = true := bne_iff_ne.mpr c2
  as_aux_lemma =>
   obtain rfl := Option.some.inj H
   go_enter Tryd.func12, Tryd.ntmps12
   go_wp2_with (first | ((with_reducible refine gate_callee (f := 13) rfl ?_); refine goesL_ (some 1) rfl rfl Tryd.func13 (by kernel_rfl) rfl #[.int .i64 0] rfl (by (try simp only [List.map_toArray, List.map_cons, List.map_nil]); first | done | rfl | (simp only [List.length_drop, List.length_take]; rfl)) ?_; (with_reducible refine (rating_Expect.calls k 0 t101 _ A1.out ?sideL).mono ?_); (case sideL => exact xL hlaid); rintro e w' ⟨rfl, ⟨nd, rfl⟩⟩; refine ⟨_, rfl, ?_⟩))
   go_ret
   exact ⟨xrf, by repeat (first | exact Drawn0.refl _ | apply Drawn0.step)⟩

/-! ### gamehallref3_Hundredths: function 14 -/
mutual
def gamehallref3_Hundredths.l0 : Nat → Int → Int → List (List Int) → Int → Int → Option (Int)
  | 0, _, _, _, _, _ => none
  | k + 1, x0, x3, x19, x20, x21 => if x21 < x20 then (if 0 ≤ x21 then (if x21 < (x19.length : Int) then (gamehallref3_Hundredths.l1 k x0 x3 x19 x20 x21 (rd_L1 x19 x21) ((rd_L1 x19 x21).length : Int) 0) else (none)) else (none)) else (some (wrap64 (50 + x3)))
def gamehallref3_Hundredths.l1 : Nat → Int → Int → List (List Int) → Int → Int → List Int → Int → Int → Option (Int)
  | 0, _, _, _, _, _, _, _, _ => none
  | k + 1, x0, x3, x19, x20, x21, x25, x26, x27 => if x27 < x26 then (if 0 ≤ x27 then (if x27 < (x25.length : Int) then (if (wrap64 (Int.tdiv x0 100)) ≥ (rd x25 x27) then (gamehallref3_Hundredths.l1 k x0 (wrap64 (x3 + 1)) x19 x20 x21 x25 x26 (wrap64 (x27 + 1))) else (gamehallref3_Hundredths.l1 k x0 x3 x19 x20 x21 x25 x26 (wrap64 (x27 + 1)))) else (none)) else (none)) else (gamehallref3_Hundredths.l0 k x0 x3 x19 x20 (wrap64 (x21 + 1)))
def gamehallref3_Hundredths.f : Nat → Int → Option (Int)
  | 0, _ => none
  | k + 1, a0 => if a0 < 0 then ((gamehallref3_Hundredths.f k (wrap64 (-a0))).bind fun t103 => (some (wrap64 (100 - t103)))) else ((some (([(([4, 11, 18, 26, 33, 40, 47, 54, 62, 69] : List Int)), (([77, 84, 92, 99, 107, 114, 122, 130, 138, 146] : List Int)), (([154, 163, 171, 180, 189, 198, 207, 216, 226, 236] : List Int)), (([246, 257, 268, 279, 291, 303, 316, 329, 345, 358] : List Int)), (([375, 392] : List Int))] : List (List Int)) : List (List Int))).bind fun y119 => (gamehallref3_Hundredths.l0 k a0 0 y119 (y119.length : Int) 0))
end
theorem gamehallref3_Hundredths.mono_l : ∀ k, (∀ y0, LeO (gamehallref3_Hundredths.f k y0) (gamehallref3_Hundredths.f (k + 1) y0)) ∧ (∀ y0 y1 y2 y3 y4, LeO (gamehallref3_Hundredths.l0 k y0 y1 y2 y3 y4) (gamehallref3_Hundredths.l0 (k + 1) y0 y1 y2 y3 y4)) ∧ (∀ y0 y1 y2 y3 y4 y5 y6 y7, LeO (gamehallref3_Hundredths.l1 k y0 y1 y2 y3 y4 y5 y6 y7) (gamehallref3_Hundredths.l1 (k + 1) y0 y1 y2 y3 y4 y5 y6 y7))
  | 0 => ⟨fun _ r h => by simp [gamehallref3_Hundredths.f] at h, fun _ _ _ _ _ r h => by simp [gamehallref3_Hundredths.l0] at h, fun _ _ _ _ _ _ _ _ r h => by simp [gamehallref3_Hundredths.l1] at h⟩
  | k + 1 => by
    obtain ⟨ih0, ih1, ih2⟩ := gamehallref3_Hundredths.mono_l k
    refine ⟨?_, ?_, ?_⟩
    · intros
      unfold gamehallref3_Hundredths.f
      repeat' first
      | (with_reducible apply ih0)
      | (with_reducible apply ih1)
      | (with_reducible apply ih2)
      | (with_reducible exact LeO.refl _)
      | (with_reducible exact LeO.none _)
      | (with_reducible refine LeO.ite ?_ ?_)
      | (with_reducible refine LeO.bind ?_ (fun _ => ?_))
      | apply ih0
      | apply ih1
      | apply ih2
      | exact LeO.none _
      | refine LeO.ite ?_ ?_
      | refine LeO.bind ?_ (fun _ => ?_)
    · intros
      unfold gamehallref3_Hundredths.l0
      repeat' first
      | (with_reducible apply ih0)
      | (with_reducible apply ih1)
      | (with_reducible apply ih2)
      | (with_reducible exact LeO.refl _)
      | (with_reducible exact LeO.none _)
      | (with_reducible refine LeO.ite ?_ ?_)
      | (with_reducible refine LeO.bind ?_ (fun _ => ?_))
      | apply ih0
      | apply ih1
      | apply ih2
      | exact LeO.none _
      | refine LeO.ite ?_ ?_
      | refine LeO.bind ?_ (fun _ => ?_)
    · intros
      unfold gamehallref3_Hundredths.l1
      repeat' first
      | (with_reducible apply ih0)
      | (with_reducible apply ih1)
      | (with_reducible apply ih2)
      | (with_reducible exact LeO.refl _)
      | (with_reducible exact LeO.none _)
      | (with_reducible refine LeO.ite ?_ ?_)
      | (with_reducible refine LeO.bind ?_ (fun _ => ?_))
      | apply ih0
      | apply ih1
      | apply ih2
      | exact LeO.none _
      | refine LeO.ite ?_ ?_
      | refine LeO.bind ?_ (fun _ => ?_)
theorem gamehallref3_Hundredths.mono : ∀ a0 k, LeO (gamehallref3_Hundredths.f k a0) (gamehallref3_Hundredths.f (k + 1) a0) := by
  intro a0 k
  obtain ⟨ih0, ih1, ih2⟩ := gamehallref3_Hundredths.mono_l k
  exact ih0 a0
set_option maxHeartbeats 8000000 in
set_option maxRecDepth 100000 in
theorem gamehallref3_Hundredths.calls (k : Nat) : ∀ (a0 : Int) (r : Int) (w : World) (h : gamehallref3_Hundredths.f k a0 = some r),
    Calls Tryd.prog 14 #[.int .i64 a0] w fun e w' => e = .returned (.int .i64 r) ∧ Below w.heap.size w w' := by
 induction k using Nat.strongRecOn with
 | _ k ih =>
 intro a0 r w h
 cases k with
 | zero => exact absurd h (by simp [gamehallref3_Hundredths.f])
 | succ k =>
 simp only [gamehallref3_Hundredths.f] at h
 have HB := Aside0.mk (Below.refl w.heap.size w); have hss_ := @isSome_setCell
 have H : (if a0 < 0 then ((gamehallref3_Hundredths.f k (wrap64 (-a0))).bind fun t103 => (some (wrap64 (100 - t103)))) else ((some (([(([4, 11, 18, 26, 33, 40, 47, 54, 62, 69] : List Int)), (([77, 84, 92, 99, 107, 114, 122, 130, 138, 146] : List Int)), (([154, 163, 171, 180, 189, 198, 207, 216, 226, 236] : List Int)), (([246, 257, 268, 279, 291, 303, 316, 329, 345, 358] : List Int)), (([375, 392] : List Int))] : List (List Int)) : List (List Int))).bind fun y119 => (gamehallref3_Hundredths.l0 k a0 0 y119 (y119.length : Int) 0))) = some r := h
 clear h
 by_cases c2 : a0 < 0
 ·rw [if_pos c2] at H
  have c2b0 : decide (a0 < 0) = true := decide_eq_true c2
  clear c2; replace H := Option.bind_eq_some_iff.mp H
  obtain ⟨t103, A30, H⟩ := H
  replace H : (some (wrap64 (100 - t103))) = some r := H
  have A3 := Aside0.mk A30; clear A30
  as_aux_lemma =>
   obtain rfl := Option.some.inj H
   go_enter Tryd.func14, Tryd.ntmps14
   go_wp2_with (first | ((with_reducible refine gate_callee (f := 14) rfl ?_); refine goesL_ (some 12) rfl rfl Tryd.func14 (by kernel_rfl) rfl #[.int .i64 (wrap64 (-a0))] rfl (by (try simp only [List.map_toArray, List.map_cons, List.map_nil]); first | done | rfl | (simp only [List.length_drop, List.length_take]; rfl)) ?_; (with_reducible refine (ih k (by omega) (wrap64 (-a0)) t103 _ A3.out).mono ?_); rintro e w4 ⟨rfl, hb⟩; refine ⟨_, rfl, ?_⟩; replace HB := Aside0.mk (xS HB hb); (try clear hb); (try clear hb2); (try clear hk); (try clear hi)))
   go_ret
   exact ⟨xer, xW HB⟩
 ·rw [if_neg c2] at H
  have c2b0 : decide (a0 < 0) = false := decide_eq_false c2
  clear c2
  obtain ⟨y104, hy104⟩ : ∃ y_ : List Int, y_ = (([4, 11, 18, 26, 33, 40, 47, 54, 62, 69] : List Int)) := ⟨_, rfl⟩
  replace H : ((some (([y104, (([77, 84, 92, 99, 107, 114, 122, 130, 138, 146] : List Int)), (([154, 163, 171, 180, 189, 198, 207, 216, 226, 236] : List Int)), (([246, 257, 268, 279, 291, 303, 316, 329, 345, 358] : List Int)), (([375, 392] : List Int))] : List (List Int)) : List (List Int))).bind fun y119 => (gamehallref3_Hundredths.l0 k a0 0 y119 (y119.length : Int) 0)) = some r := by first | (rw [hy104]; with_reducible exact H) | (have H2_ := (Option.bind_some _ _).symm.trans H; rw [hy104]; with_reducible exact H2_) | (have H2_ := (Option.bind_some _ _).symm.trans H; with_reducible exact H2_) | with_reducible exact H | (rw [hy104]; exact H) | exact H
  have Ny104 := Aside0.mk hy104; clear hy104
  obtain ⟨y107, hy107⟩ : ∃ y_ : List Int, y_ = (([77, 84, 92, 99, 107, 114, 122, 130, 138, 146] : List Int)) := ⟨_, rfl⟩
  replace H : ((some (([y104, y107, (([154, 163, 171, 180, 189, 198, 207, 216, 226, 236] : List Int)), (([246, 257, 268, 279, 291, 303, 316, 329, 345, 358] : List Int)), (([375, 392] : List Int))] : List (List Int)) : List (List Int))).bind fun y119 => (gamehallref3_Hundredths.l0 k a0 0 y119 (y119.length : Int) 0)) = some r := by first | (rw [hy107]; with_reducible exact H) | (have H2_ := (Option.bind_some _ _).symm.trans H; rw [hy107]; with_reducible exact H2_) | (have H2_ := (Option.bind_some _ _).symm.trans H; with_reducible exact H2_) | with_reducible exact H | (rw [hy107]; exact H) | exact H
  have Ny107 := Aside0.mk hy107; clear hy107
  obtain ⟨y110, hy110⟩ : ∃ y_ : List Int, y_ = (([154, 163, 171, 180, 189, 198, 207, 216, 226, 236] : List Int)) := ⟨_, rfl⟩
  replace H : ((some (([y104, y107, y110, (([246, 257, 268, 279, 291, 303, 316, 329, 345, 358] : List Int)), (([375, 392] : List Int))] : List (List Int)) : List (List Int))).bind fun y119 => (gamehallref3_Hundredths.l0 k a0 0 y119 (y119.length : Int) 0)) = some r := by first | (rw [hy110]; with_reducible exact H) | (have H2_ := (Option.bind_some _ _).symm.trans H; rw [hy110]; with_reducible exact H2_) | (have H2_ := (Option.bind_some _ _).symm.trans H; with_reducible exact H2_) | with_reducible exact H | (rw [hy110]; exact H) | exact H
  have Ny110 := Aside0.mk hy110; clear hy110
  obtain ⟨y113, hy113⟩ : ∃ y_ : List Int, y_ = (([246, 257, 268, 279, 291, 303, 316, 329, 345, 358] : List Int)) := ⟨_, rfl⟩
  replace H : ((some (([y104, y107, y110, y113, (([375, 392] : List Int))] : List (List Int)) : List (List Int))).bind fun y119 => (gamehallref3_Hundredths.l0 k a0 0 y119 (y119.length : Int) 0)) = some r := by first | (rw [hy113]; with_reducible exact H) | (have H2_ := (Option.bind_some _ _).symm.trans H; rw [hy113]; with_reducible exact H2_) | (have H2_ := (Option.bind_some _ _).symm.trans H; with_reducible exact H2_) | with_reducible exact H | (rw [hy113]; exact H) | exact H
  have Ny113 := Aside0.mk hy113; clear hy113
  obtain ⟨y116, hy116⟩ : ∃ y_ : List Int, y_ = (([375, 392] : List Int)) := ⟨_, rfl⟩
  replace H : ((some (([y104, y107, y110, y113, y116] : List (List Int)) : List (List Int))).bind fun y119 => (gamehallref3_Hundredths.l0 k a0 0 y119 (y119.length : Int) 0)) = some r := by first | (rw [hy116]; with_reducible exact H) | (have H2_ := (Option.bind_some _ _).symm.trans H; rw [hy116]; with_reducible exact H2_) | (have H2_ := (Option.bind_some _ _).symm.trans H; with_reducible exact H2_) | with_reducible exact H | (rw [hy116]; exact H) | exact H
  have Ny116 := Aside0.mk hy116; clear hy116
  obtain ⟨y119, hy119⟩ : ∃ y_ : List (List Int), y_ = (([y104, y107, y110, y113, y116] : List (List Int))) := ⟨_, rfl⟩
  replace H : (gamehallref3_Hundredths.l0 k a0 0 y119 (y119.length : Int) 0) = some r := by first | (rw [hy119]; with_reducible exact H) | (have H2_ := (Option.bind_some _ _).symm.trans H; rw [hy119]; with_reducible exact H2_) | (have H2_ := (Option.bind_some _ _).symm.trans H; with_reducible exact H2_) | with_reducible exact H | (rw [hy119]; exact H) | exact H
  have Ny119 := Aside0.mk hy119; clear hy119
  have H' := Aside0.mk H
  clear H
  go_enter Tryd.func14, Tryd.ntmps14
  go_wp2_with (first | ((with_reducible refine gate_dst (N := 14) rfl ?_); refine Kd.R_lit (Kd.int .i64) _ 3 ?hg (N := 14) ?hd (xs := ([4, 11, 18, 26, 33, 40, 47, 54, 62, 69] : List Int)) (inner := [.int .i64 4, .int .i64 11, .int .i64 18, .int .i64 26, .int .i64 33, .int .i64 40, .int .i64 47, .int .i64 54, .int .i64 62, .int .i64 69]) (ok := fun _ => True) (okp := fun _ => True) ?hr ?hp (fun _ hk => hk) trivial (Below.refl _ _) (Nat.le_refl _) (by simp) ?_; (case hd => rfl); (case hg => rfl); (case hr => first | (go_simp; done) | (go_simp; rfl)); (case hp => exact (Reps.one (show Kd.M (Kd.int .i64) _ _ _ 4 [.int .i64 4] from rfl) (Reps.one (show Kd.M (Kd.int .i64) _ _ _ 11 [.int .i64 11] from rfl) (Reps.one (show Kd.M (Kd.int .i64) _ _ _ 18 [.int .i64 18] from rfl) (Reps.one (show Kd.M (Kd.int .i64) _ _ _ 26 [.int .i64 26] from rfl) (Reps.one (show Kd.M (Kd.int .i64) _ _ _ 33 [.int .i64 33] from rfl) (Reps.one (show Kd.M (Kd.int .i64) _ _ _ 40 [.int .i64 40] from rfl) (Reps.one (show Kd.M (Kd.int .i64) _ _ _ 47 [.int .i64 47] from rfl) (Reps.one (show Kd.M (Kd.int .i64) _ _ _ 54 [.int .i64 54] from rfl) (Reps.one (show Kd.M (Kd.int .i64) _ _ _ 62 [.int .i64 62] from rfl) (Reps.one (show Kd.M (Kd.int .i64) _ _ _ 69 [.int .i64 69] from rfl) (Reps.none _ _)))))))))))); intro v105 w5 ho6 hb hg_ hnew_; clear hg_ hnew_; (first | rw [← Ny104.out] at ho6 | (simp only [Int.reduceToNat] at ho6; rw [← Ny104.out] at ho6)); have HO106 := Aside0.mk (Kd.R_lower ho6 (below_size (xW HB))); replace HB := Aside0.mk (xS HB hb); clear hb ho6) | ((with_reducible refine gate_dst (N := 15) rfl ?_); refine Kd.R_lit (Kd.int .i64) _ 3 ?hg (N := 15) ?hd (xs := ([77, 84, 92, 99, 107, 114, 122, 130, 138, 146] : List Int)) (inner := [.int .i64 77, .int .i64 84, .int .i64 92, .int .i64 99, .int .i64 107, .int .i64 114, .int .i64 122, .int .i64 130, .int .i64 138, .int .i64 146]) (ok := fun _ => True) (okp := fun _ => True) ?hr ?hp (fun _ hk => hk) trivial (Below.refl _ _) (Nat.le_refl _) (by simp) ?_; (case hd => rfl); (case hg => rfl); (case hr => first | (go_simp; done) | (go_simp; rfl)); (case hp => exact (Reps.one (show Kd.M (Kd.int .i64) _ _ _ 77 [.int .i64 77] from rfl) (Reps.one (show Kd.M (Kd.int .i64) _ _ _ 84 [.int .i64 84] from rfl) (Reps.one (show Kd.M (Kd.int .i64) _ _ _ 92 [.int .i64 92] from rfl) (Reps.one (show Kd.M (Kd.int .i64) _ _ _ 99 [.int .i64 99] from rfl) (Reps.one (show Kd.M (Kd.int .i64) _ _ _ 107 [.int .i64 107] from rfl) (Reps.one (show Kd.M (Kd.int .i64) _ _ _ 114 [.int .i64 114] from rfl) (Reps.one (show Kd.M (Kd.int .i64) _ _ _ 122 [.int .i64 122] from rfl) (Reps.one (show Kd.M (Kd.int .i64) _ _ _ 130 [.int .i64 130] from rfl) (Reps.one (show Kd.M (Kd.int .i64) _ _ _ 138 [.int .i64 138] from rfl) (Reps.one (show Kd.M (Kd.int .i64) _ _ _ 146 [.int .i64 146] from rfl) (Reps.none _ _)))))))))))); intro v108 w7 ho8 hb hg_ hnew_; clear hg_ hnew_; (first | rw [← Ny107.out] at ho8 | (simp only [Int.reduceToNat] at ho8; rw [← Ny107.out] at ho8)); have HO109 := Aside0.mk (Kd.R_lower (Kd.R_new' ho8 (Kd.R_lt (by (with_reducible repeat (first | apply Kd.R_alloc | apply Kd.R_drewN | apply Kd.R_drew)); exact HO106.out))) (below_size (xW HB))); replace HO106 := Aside0.mk (Kd.R_elder' (by (with_reducible repeat (first | apply Kd.R_alloc | apply Kd.R_drewN | apply Kd.R_drew)); exact HO106.out) (Kd.R_base ho8) hb); replace HB := Aside0.mk (xS HB hb); clear hb ho8) | ((with_reducible refine gate_dst (N := 16) rfl ?_); refine Kd.R_lit (Kd.int .i64) _ 3 ?hg (N := 16) ?hd (xs := ([154, 163, 171, 180, 189, 198, 207, 216, 226, 236] : List Int)) (inner := [.int .i64 154, .int .i64 163, .int .i64 171, .int .i64 180, .int .i64 189, .int .i64 198, .int .i64 207, .int .i64 216, .int .i64 226, .int .i64 236]) (ok := fun _ => True) (okp := fun _ => True) ?hr ?hp (fun _ hk => hk) trivial (Below.refl _ _) (Nat.le_refl _) (by simp) ?_; (case hd => rfl); (case hg => rfl); (case hr => first | (go_simp; done) | (go_simp; rfl)); (case hp => exact (Reps.one (show Kd.M (Kd.int .i64) _ _ _ 154 [.int .i64 154] from rfl) (Reps.one (show Kd.M (Kd.int .i64) _ _ _ 163 [.int .i64 163] from rfl) (Reps.one (show Kd.M (Kd.int .i64) _ _ _ 171 [.int .i64 171] from rfl) (Reps.one (show Kd.M (Kd.int .i64) _ _ _ 180 [.int .i64 180] from rfl) (Reps.one (show Kd.M (Kd.int .i64) _ _ _ 189 [.int .i64 189] from rfl) (Reps.one (show Kd.M (Kd.int .i64) _ _ _ 198 [.int .i64 198] from rfl) (Reps.one (show Kd.M (Kd.int .i64) _ _ _ 207 [.int .i64 207] from rfl) (Reps.one (show Kd.M (Kd.int .i64) _ _ _ 216 [.int .i64 216] from rfl) (Reps.one (show Kd.M (Kd.int .i64) _ _ _ 226 [.int .i64 226] from rfl) (Reps.one (show Kd.M (Kd.int .i64) _ _ _ 236 [.int .i64 236] from rfl) (Reps.none _ _)))))))))))); intro v111 w9 ho10 hb hg_ hnew_; clear hg_ hnew_; (first | rw [← Ny110.out] at ho10 | (simp only [Int.reduceToNat] at ho10; rw [← Ny110.out] at ho10)); have HO112 := Aside0.mk (Kd.R_lower (Kd.R_new' (Kd.R_new' ho10 (Kd.R_lt (by (with_reducible repeat (first | apply Kd.R_alloc | apply Kd.R_drewN | apply Kd.R_drew)); exact HO106.out))) (Kd.R_lt (by (with_reducible repeat (first | apply Kd.R_alloc | apply Kd.R_drewN | apply Kd.R_drew)); exact HO109.out))) (below_size (xW HB))); replace HO106 := Aside0.mk (Kd.R_elder' (by (with_reducible repeat (first | apply Kd.R_alloc | apply Kd.R_drewN | apply Kd.R_drew)); exact HO106.out) (Kd.R_base ho10) hb); replace HO109 := Aside0.mk (Kd.R_elder' (by (with_reducible repeat (first | apply Kd.R_alloc | apply Kd.R_drewN | apply Kd.R_drew)); exact HO109.out) (Kd.R_base ho10) hb); replace HB := Aside0.mk (xS HB hb); clear hb ho10) | ((with_reducible refine gate_dst (N := 17) rfl ?_); refine Kd.R_lit (Kd.int .i64) _ 3 ?hg (N := 17) ?hd (xs := ([246, 257, 268, 279, 291, 303, 316, 329, 345, 358] : List Int)) (inner := [.int .i64 246, .int .i64 257, .int .i64 268, .int .i64 279, .int .i64 291, .int .i64 303, .int .i64 316, .int .i64 329, .int .i64 345, .int .i64 358]) (ok := fun _ => True) (okp := fun _ => True) ?hr ?hp (fun _ hk => hk) trivial (Below.refl _ _) (Nat.le_refl _) (by simp) ?_; (case hd => rfl); (case hg => rfl); (case hr => first | (go_simp; done) | (go_simp; rfl)); (case hp => exact (Reps.one (show Kd.M (Kd.int .i64) _ _ _ 246 [.int .i64 246] from rfl) (Reps.one (show Kd.M (Kd.int .i64) _ _ _ 257 [.int .i64 257] from rfl) (Reps.one (show Kd.M (Kd.int .i64) _ _ _ 268 [.int .i64 268] from rfl) (Reps.one (show Kd.M (Kd.int .i64) _ _ _ 279 [.int .i64 279] from rfl) (Reps.one (show Kd.M (Kd.int .i64) _ _ _ 291 [.int .i64 291] from rfl) (Reps.one (show Kd.M (Kd.int .i64) _ _ _ 303 [.int .i64 303] from rfl) (Reps.one (show Kd.M (Kd.int .i64) _ _ _ 316 [.int .i64 316] from rfl) (Reps.one (show Kd.M (Kd.int .i64) _ _ _ 329 [.int .i64 329] from rfl) (Reps.one (show Kd.M (Kd.int .i64) _ _ _ 345 [.int .i64 345] from rfl) (Reps.one (show Kd.M (Kd.int .i64) _ _ _ 358 [.int .i64 358] from rfl) (Reps.none _ _)))))))))))); intro v114 w11 ho12 hb hg_ hnew_; clear hg_ hnew_; (first | rw [← Ny113.out] at ho12 | (simp only [Int.reduceToNat] at ho12; rw [← Ny113.out] at ho12)); have HO115 := Aside0.mk (Kd.R_lower (Kd.R_new' (Kd.R_new' (Kd.R_new' ho12 (Kd.R_lt (by (with_reducible repeat (first | apply Kd.R_alloc | apply Kd.R_drewN | apply Kd.R_drew)); exact HO106.out))) (Kd.R_lt (by (with_reducible repeat (first | apply Kd.R_alloc | apply Kd.R_drewN | apply Kd.R_drew)); exact HO109.out))) (Kd.R_lt (by (with_reducible repeat (first | apply Kd.R_alloc | apply Kd.R_drewN | apply Kd.R_drew)); exact HO112.out))) (below_size (xW HB))); replace HO106 := Aside0.mk (Kd.R_elder' (by (with_reducible repeat (first | apply Kd.R_alloc | apply Kd.R_drewN | apply Kd.R_drew)); exact HO106.out) (Kd.R_base ho12) hb); replace HO109 := Aside0.mk (Kd.R_elder' (by (with_reducible repeat (first | apply Kd.R_alloc | apply Kd.R_drewN | apply Kd.R_drew)); exact HO109.out) (Kd.R_base ho12) hb); replace HO112 := Aside0.mk (Kd.R_elder' (by (with_reducible repeat (first | apply Kd.R_alloc | apply Kd.R_drewN | apply Kd.R_drew)); exact HO112.out) (Kd.R_base ho12) hb); replace HB := Aside0.mk (xS HB hb); clear hb ho12) | ((with_reducible refine gate_dst (N := 18) rfl ?_); refine Kd.R_lit (Kd.int .i64) _ 3 ?hg (N := 18) ?hd (xs := ([375, 392] : List Int)) (inner := [.int .i64 375, .int .i64 392]) (ok := fun _ => True) (okp := fun _ => True) ?hr ?hp (fun _ hk => hk) trivial (Below.refl _ _) (Nat.le_refl _) (by simp) ?_; (case hd => rfl); (case hg => rfl); (case hr => first | (go_simp; done) | (go_simp; rfl)); (case hp => exact (Reps.one (show Kd.M (Kd.int .i64) _ _ _ 375 [.int .i64 375] from rfl) (Reps.one (show Kd.M (Kd.int .i64) _ _ _ 392 [.int .i64 392] from rfl) (Reps.none _ _)))); intro v117 w13 ho14 hb hg_ hnew_; clear hg_ hnew_; (first | rw [← Ny116.out] at ho14 | (simp only [Int.reduceToNat] at ho14; rw [← Ny116.out] at ho14)); have HO118 := Aside0.mk (Kd.R_lower (Kd.R_new' (Kd.R_new' (Kd.R_new' (Kd.R_new' ho14 (Kd.R_lt (by (with_reducible repeat (first | apply Kd.R_alloc | apply Kd.R_drewN | apply Kd.R_drew)); exact HO106.out))) (Kd.R_lt (by (with_reducible repeat (first | apply Kd.R_alloc | apply Kd.R_drewN | apply Kd.R_drew)); exact HO109.out))) (Kd.R_lt (by (with_reducible repeat (first | apply Kd.R_alloc | apply Kd.R_drewN | apply Kd.R_drew)); exact HO112.out))) (Kd.R_lt (by (with_reducible repeat (first | apply Kd.R_alloc | apply Kd.R_drewN | apply Kd.R_drew)); exact HO115.out))) (below_size (xW HB))); replace HO106 := Aside0.mk (Kd.R_elder' (by (with_reducible repeat (first | apply Kd.R_alloc | apply Kd.R_drewN | apply Kd.R_drew)); exact HO106.out) (Kd.R_base ho14) hb); replace HO109 := Aside0.mk (Kd.R_elder' (by (with_reducible repeat (first | apply Kd.R_alloc | apply Kd.R_drewN | apply Kd.R_drew)); exact HO109.out) (Kd.R_base ho14) hb); replace HO112 := Aside0.mk (Kd.R_elder' (by (with_reducible repeat (first | apply Kd.R_alloc | apply Kd.R_drewN | apply Kd.R_drew)); exact HO112.out) (Kd.R_base ho14) hb); replace HO115 := Aside0.mk (Kd.R_elder' (by (with_reducible repeat (first | apply Kd.R_alloc | apply Kd.R_drewN | apply Kd.R_drew)); exact HO115.out) (Kd.R_base ho14) hb); replace HB := Aside0.mk (xS HB hb); clear hb ho14; obtain ⟨Ao15, co15, eo15⟩ := Kd.R_slice HO106.out; subst eo15; obtain ⟨Ao16, co16, eo16⟩ := Kd.R_slice HO109.out; subst eo16; obtain ⟨Ao17, co17, eo17⟩ := Kd.R_slice HO112.out; subst eo17; obtain ⟨Ao18, co18, eo18⟩ := Kd.R_slice HO115.out; subst eo18; obtain ⟨Ao19, co19, eo19⟩ := Kd.R_slice HO118.out; subst eo19) | ((with_reducible refine gate_dst (N := 19) rfl ?_); refine Kd.N_lit (Kd.slice 3 (Kd.int .i64)) _ 22 ?hg (N' := 19) ?hd (xs := ([y104, y107, y110, y113, y116] : List (List Int))) (inner := [.slice Ao15 y104.length co15, .slice Ao16 y107.length co16, .slice Ao17 y110.length co17, .slice Ao18 y113.length co18, .slice Ao19 y116.length co19]) (ok := (fun _ => True)) (okp := (fun _ => True)) ?hr ?hp (fun _ hk => hk) ((show ∀ k_, w13.heap.size ≤ k_ → (fun _ => True) k_ from fun k_ hk => trivial) _ (Nat.le_refl _)) (Below.refl _ _) (Nat.le_refl _) (by simp) ?_; (case hd => rfl); (case hg => rfl); (case hr => first | (go_simp; done) | (go_simp; rfl)); (case hp => exact (Reps.one (show Kd.FK (Kd.slice 3 (Kd.int .i64)) _ _ y104 [.slice Ao15 y104.length co15] from (Kd.FK_slice_mk (Kd.R_reads' (Kd.R_mono (ok' := (fun _ => True)) (HO106.out) (fun k_ hk => trivial))).2.1 (Kd.R_F (Kd.R_mono (ok' := (fun _ => True)) (HO106.out) (fun k_ hk => trivial))))) (Reps.one (show Kd.FK (Kd.slice 3 (Kd.int .i64)) _ _ y107 [.slice Ao16 y107.length co16] from (Kd.FK_slice_mk (Kd.R_reads' (Kd.R_mono (ok' := (fun _ => True)) (HO109.out) (fun k_ hk => trivial))).2.1 (Kd.R_F (Kd.R_mono (ok' := (fun _ => True)) (HO109.out) (fun k_ hk => trivial))))) (Reps.one (show Kd.FK (Kd.slice 3 (Kd.int .i64)) _ _ y110 [.slice Ao17 y110.length co17] from (Kd.FK_slice_mk (Kd.R_reads' (Kd.R_mono (ok' := (fun _ => True)) (HO112.out) (fun k_ hk => trivial))).2.1 (Kd.R_F (Kd.R_mono (ok' := (fun _ => True)) (HO112.out) (fun k_ hk => trivial))))) (Reps.one (show Kd.FK (Kd.slice 3 (Kd.int .i64)) _ _ y113 [.slice Ao18 y113.length co18] from (Kd.FK_slice_mk (Kd.R_reads' (Kd.R_mono (ok' := (fun _ => True)) (HO115.out) (fun k_ hk => trivial))).2.1 (Kd.R_F (Kd.R_mono (ok' := (fun _ => True)) (HO115.out) (fun k_ hk => trivial))))) (Reps.one (show Kd.FK (Kd.slice 3 (Kd.int .i64)) _ _ y116 [.slice Ao19 y116.length co19] from (Kd.FK_slice_mk (Kd.R_reads' (Kd.R_mono (ok' := (fun _ => True)) (HO118.out) (fun k_ hk => trivial))).2.1 (Kd.R_F (Kd.R_mono (ok' := (fun _ => True)) (HO118.out) (fun k_ hk => trivial))))) (Reps.none _ _))))))); intro v120 w20 ho21 hb hg_ hnew_; clear hg_ hnew_; (first | rw [← Ny119.out] at ho21 | (simp only [Int.reduceToNat] at ho21; rw [← Ny119.out] at ho21)); have HO121 := Aside0.mk (Kd.N_lower ho21 (below_size (xW HB))); replace HB := Aside0.mk (xS HB hb); clear HO106 HO109 HO112 HO115 HO118; clear hb ho21; obtain ⟨Ao22, co22, eo22⟩ := Kd.N_slice HO121.out; subst eo22))
  go_loopg [3, 21] k (fun kq vs3 vs21 w' => ∃ (x3_1 : Int) (x21_1 : Int), vs3 = .int .i64 x3_1 ∧ vs21 = .int .i64 x21_1 ∧ Aside0 (gamehallref3_Hundredths.l0 kq a0 x3_1 y119 (y119.length : Int) x21_1 = some r) ∧ Aside0 (kq ≤ k) ∧ Aside0 (Kd.N (Kd.slice 3 (Kd.int .i64)) 22 w' w.heap.size (fun _ => True) (.slice Ao22 y119.length co22) y119) ∧ Aside0 (Below w.heap.size w w'))
  case atStart => exact ⟨(0), (0), (xrf), (xrf), H', ⟨Nat.le_refl _⟩, ⟨by (with_reducible repeat (first | apply Kd.N_alloc | apply Kd.N_drewN | apply Kd.N_drew)); exact HO121.out⟩, ⟨xW HB⟩⟩
  case round =>
   clear H'; (try clear p2); (try clear p6)
   obtain ⟨x3_1, x21_1, rfl, rfl, HA, HK1, HO_19, HB⟩ := hrel
   cases gk with
   | zero => exact absurd HA.out (by simp [gamehallref3_Hundredths.l0])
   | succ k1 =>
    have H := HA.out; clear HA
    simp only [gamehallref3_Hundredths.l0] at H
    by_cases c23 : x21_1 < (y119.length : Int)
    ·rw [if_pos c23] at H
     have c23b0 : decide (x21_1 < (y119.length : Int)) = true := decide_eq_true c23
     clear c23
     by_cases c24 : 0 ≤ x21_1
     ·rw [if_pos c24] at H
      have c24b0 : decide (0 ≤ x21_1) = true := decide_eq_true c24
      clear c24
      by_cases c25 : x21_1 < (y119.length : Int)
      ·rw [if_pos c25] at H
       have c25b0 : decide (x21_1 < (y119.length : Int)) = true := decide_eq_true c25
       clear c25
       have H' := Aside0.mk H
       clear H
       have p122 : 0 ≤ (x21_1 : Int) := of_decide_eq_true (by first | (with_reducible assumption) | assumption)
       have q122 : x21_1 < (y119.length : Int) := of_decide_eq_true (by first | (with_reducible assumption) | assumption)
       obtain ⟨ad122, A122_0, c122_0, e122, hx122_0, hl122_0, hi122_0⟩ := at_L1 (Kd.N_reads' HO_19.out).2.2 x21_1 p122 q122
       cases e122
       obtain ⟨ce122, hce122, hMe122, hcc122⟩ := Kd.N_get HO_19.out [] x21_1 p122 (by first | exact q122 | exact of_decide_eq_true (by first | (with_reducible assumption) | assumption) | (have e_ := (Kd.N_reads' HO_19.out).1; omega))
       obtain ⟨ua122_0, uc122_0, rfl, ul122_0, ge122_0⟩ := Kd.FK_slice_open hMe122
       have hv122_0 := hcc122 0 _ rfl
       rw [Nat.add_zero, show ((Kd.slice 3 (Kd.int .i64))).sz = 1 from rfl, Nat.mul_one] at hv122_0
       replace hv122_0 := Option.some.inj (hv122_0.symm.trans hx122_0)
       injection hv122_0 with hva_ hvn_ hvc_
       rw [hva_] at ge122_0
       rw [hvc_] at ul122_0
       have HL122_0 := Aside0.mk (show Kd.V (Kd.int .i64) 3 _ w.heap.size _ _ (rd_L1 y119 x21_1) from Kd.V_mk ul122_0 ge122_0); clear hva_ hvn_ hvc_ ge122_0 ul122_0; clear hcc122 hce122; have HR122_0 := Aside0.mk hi122_0; have HC122_0 := Aside0.mk hl122_0; clear hi122_0 hl122_0; replace p122 := eq_true p122; replace q122 := eq_true q122
       go_wp2
       go_loopg [3, 27] k1 (fun kq vs3 vs27 w' => ∃ (x3_2 : Int) (x27_2 : Int), vs3 = .int .i64 x3_2 ∧ vs27 = .int .i64 x27_2 ∧ Aside0 (gamehallref3_Hundredths.l1 kq a0 x3_2 y119 (y119.length : Int) x21_1 (rd_L1 y119 x21_1) ((rd_L1 y119 x21_1).length : Int) x27_2 = some r) ∧ Aside0 (kq ≤ k1) ∧ Aside0 (Kd.N (Kd.slice 3 (Kd.int .i64)) 22 w' w.heap.size (fun _ => True) (.slice (some ad122) y119.length co22) y119) ∧ Aside0 (Kd.C (Kd.int .i64) w' A122_0 (rd_L1 y119 x21_1).length (rd_L1 y119 x21_1)) ∧ Aside0 (Below w.heap.size w w'))
       case atStart => exact ⟨(x3_1), (0), (xrf), (xrf), H', ⟨Nat.le_refl _⟩, ⟨by (with_reducible repeat (first | apply Kd.N_alloc | apply Kd.N_drewN | apply Kd.N_drew)); exact HO_19.out⟩, ⟨by repeat (first | (with_reducible exact HR122_0.out) | (with_reducible refine Kd.C_alloc ?_ _) | (with_reducible refine Kd.C_drewN ?_ _) | (with_reducible refine Kd.C_drew ?_) | exact HR122_0.out)⟩, ⟨xW HB⟩⟩
       case round =>
        clear H'; (try clear p1); (try clear q1); (try clear hx1); (try clear p2); (try clear p6); (try clear p12); (try clear q12); (try clear hx12); (try clear hx122_0); (try clear p122); (try clear p2); (try clear p6); (try clear q122)
        obtain ⟨x3_2, x27_2, rfl, rfl, HA, HK2, HO_19, HR122_0, HB⟩ := hrel
        cases gk with
        | zero => exact absurd HA.out (by simp [gamehallref3_Hundredths.l1])
        | succ k2 =>
         have H := HA.out; clear HA
         simp only [gamehallref3_Hundredths.l1] at H
         by_cases c26 : x27_2 < ((rd_L1 y119 x21_1).length : Int)
         ·rw [if_pos c26] at H
          have c26b0 : decide (x27_2 < ((rd_L1 y119 x21_1).length : Int)) = true := decide_eq_true c26
          clear c26
          by_cases c27 : 0 ≤ x27_2
          ·rw [if_pos c27] at H
           have c27b0 : decide (0 ≤ x27_2) = true := decide_eq_true c27
           clear c27
           by_cases c28 : x27_2 < ((rd_L1 y119 x21_1).length : Int)
           ·rw [if_pos c28] at H
            have c28b0 : decide (x27_2 < ((rd_L1 y119 x21_1).length : Int)) = true := decide_eq_true c28
            clear c28
            by_cases c29 : (wrap64 (Int.tdiv a0 100)) ≥ (rd (rd_L1 y119 x21_1) x27_2)
            ·rw [if_pos c29] at H
             have c29b0 : decide ((rd (rd_L1 y119 x21_1) x27_2) ≤ (wrap64 (Int.tdiv a0 100))) = true := decide_eq_true c29
             clear c29
             as_aux_lemma =>
              have H' := Aside0.mk H
              clear H
              have p123 : 0 ≤ (x27_2 : Int) := of_decide_eq_true (by first | (with_reducible assumption) | assumption)
              have q123 : x27_2 < ((rd_L1 y119 x21_1).length : Int) := of_decide_eq_true (by first | (with_reducible assumption) | assumption)
              obtain ⟨ad123, e123, hx123_0⟩ := Kd.at_int HR122_0.out x27_2 p123 q123
              cases e123
              (first | replace hx123_0 := (HB.out.cell (World.block_lt_of_cell? w _ hx123_0)).trans hx123_0 | skip); replace p123 := eq_true p123; replace q123 := eq_true q123
              go_wp2
              go_roundg k2
              case measure => have := HK1.out; have := HK2.out; omega
              case rel => exact ⟨(wrap64 (x3_2 + 1)), (wrap64 (x27_2 + 1)), (xrf), (xrf), H', ⟨by have := HK1.out; have := HK2.out; omega⟩, ⟨by (with_reducible repeat (first | apply Kd.N_alloc | apply Kd.N_drewN | apply Kd.N_drew)); exact HO_19.out⟩, ⟨by repeat (first | (with_reducible exact HR122_0.out) | (with_reducible refine Kd.C_alloc ?_ _) | (with_reducible refine Kd.C_drewN ?_ _) | (with_reducible refine Kd.C_drew ?_) | exact HR122_0.out)⟩, ⟨xW HB⟩⟩
            ·rw [if_neg c29] at H
             have c29b0 : decide ((rd (rd_L1 y119 x21_1) x27_2) ≤ (wrap64 (Int.tdiv a0 100))) = false := decide_eq_false c29
             clear c29
             as_aux_lemma =>
              have H' := Aside0.mk H
              clear H
              have p123 : 0 ≤ (x27_2 : Int) := of_decide_eq_true (by first | (with_reducible assumption) | assumption)
              have q123 : x27_2 < ((rd_L1 y119 x21_1).length : Int) := of_decide_eq_true (by first | (with_reducible assumption) | assumption)
              obtain ⟨ad123, e123, hx123_0⟩ := Kd.at_int HR122_0.out x27_2 p123 q123
              cases e123
              (first | replace hx123_0 := (HB.out.cell (World.block_lt_of_cell? w _ hx123_0)).trans hx123_0 | skip); replace p123 := eq_true p123; replace q123 := eq_true q123
              go_wp2
              go_roundg k2
              case measure => have := HK1.out; have := HK2.out; omega
              case rel => exact ⟨(x3_2), (wrap64 (x27_2 + 1)), (xrf), (xrf), H', ⟨by have := HK1.out; have := HK2.out; omega⟩, ⟨by (with_reducible repeat (first | apply Kd.N_alloc | apply Kd.N_drewN | apply Kd.N_drew)); exact HO_19.out⟩, ⟨by repeat (first | (with_reducible exact HR122_0.out) | (with_reducible refine Kd.C_alloc ?_ _) | (with_reducible refine Kd.C_drewN ?_ _) | (with_reducible refine Kd.C_drew ?_) | exact HR122_0.out)⟩, ⟨xW HB⟩⟩
           ·rw [if_neg c28] at H
            exact absurd H (by simp)
          ·rw [if_neg c27] at H
           exact absurd H (by simp)
         ·rw [if_neg c26] at H
          have c26b0 : decide (x27_2 < ((rd_L1 y119 x21_1).length : Int)) = false := decide_eq_false c26
          clear c26
          as_aux_lemma =>
           have H' := Aside0.mk H
           clear H
           go_wp2
           go_roundg k2
           case measure => have := HK1.out; have := HK2.out; omega
           case rel => exact ⟨(x3_2), (wrap64 (x21_1 + 1)), (xrf), (xrf), H', ⟨by have := HK1.out; have := HK2.out; omega⟩, ⟨by (with_reducible repeat (first | apply Kd.N_alloc | apply Kd.N_drewN | apply Kd.N_drew)); exact HO_19.out⟩, ⟨xW HB⟩⟩
      ·rw [if_neg c25] at H
       exact absurd H (by simp)
     ·rw [if_neg c24] at H
      exact absurd H (by simp)
    ·rw [if_neg c23] at H
     have c23b0 : decide (x21_1 < (y119.length : Int)) = false := decide_eq_false c23
     clear c23
     as_aux_lemma =>
      obtain rfl := Option.some.inj H
      go_wp2
      go_ret
      exact ⟨xer, xW HB⟩

/-! ### rating_Check: function 16 -/
mutual
def rating_Check.j0 : Nat → List Int → Bool → Option (Int)
  | 0, _, _ => none
  | k + 1, x0, x12 => if x12 = true then (some 2) else (rating_Check.l0 k x0 (x0.length : Int) 0)
def rating_Check.l0 : Nat → List Int → Int → Int → Option (Int)
  | 0, _, _, _ => none
  | k + 1, x13, x14, x15 => if x15 < x14 then (if 0 ≤ x15 then (if x15 < (x13.length : Int) then (if (rd x13 x15) < (-1000000) then (some 4) else (if (rd x13 x15) > 1000000 then (some 4) else (rating_Check.l0 k x13 x14 (wrap64 (x15 + 1))))) else (none)) else (none)) else (some 0)
end
def rating_Check.f (k : Nat) (l0 : List Int) : Option (Int) := if (l0.length : Int) = 0 then (rating_Check.j0 k l0 true) else (rating_Check.j0 k l0 (decide ((l0.length : Int) > 64)))
theorem rating_Check.mono_l : ∀ k, (∀ y0 y1, LeO (rating_Check.j0 k y0 y1) (rating_Check.j0 (k + 1) y0 y1)) ∧ (∀ y0 y1 y2, LeO (rating_Check.l0 k y0 y1 y2) (rating_Check.l0 (k + 1) y0 y1 y2))
  | 0 => ⟨fun _ _ r h => by simp [rating_Check.j0] at h, fun _ _ _ r h => by simp [rating_Check.l0] at h⟩
  | k + 1 => by
    obtain ⟨ih0, ih1⟩ := rating_Check.mono_l k
    refine ⟨?_, ?_⟩
    · intros
      unfold rating_Check.j0
      repeat' first
      | (with_reducible apply ih0)
      | (with_reducible apply ih1)
      | (with_reducible exact LeO.refl _)
      | (with_reducible exact LeO.none _)
      | (with_reducible refine LeO.ite ?_ ?_)
      | (with_reducible refine LeO.bind ?_ (fun _ => ?_))
      | apply ih0
      | apply ih1
      | exact LeO.none _
      | refine LeO.ite ?_ ?_
      | refine LeO.bind ?_ (fun _ => ?_)
    · intros
      unfold rating_Check.l0
      repeat' first
      | (with_reducible apply ih0)
      | (with_reducible apply ih1)
      | (with_reducible exact LeO.refl _)
      | (with_reducible exact LeO.none _)
      | (with_reducible refine LeO.ite ?_ ?_)
      | (with_reducible refine LeO.bind ?_ (fun _ => ?_))
      | apply ih0
      | apply ih1
      | exact LeO.none _
      | refine LeO.ite ?_ ?_
      | refine LeO.bind ?_ (fun _ => ?_)
theorem rating_Check.mono : ∀ a0 k, LeO (rating_Check.f k a0) (rating_Check.f (k + 1) a0) := by
  intro a0 k
  obtain ⟨ih0, ih1⟩ := rating_Check.mono_l k
  unfold rating_Check.f
  repeat' first
      | (with_reducible apply ih0)
      | (with_reducible apply ih1)
      | (with_reducible exact LeO.refl _)
      | (with_reducible exact LeO.none _)
      | (with_reducible refine LeO.ite ?_ ?_)
      | (with_reducible refine LeO.bind ?_ (fun _ => ?_))
      | apply ih0
      | apply ih1
      | exact LeO.none _
      | refine LeO.ite ?_ ?_
      | refine LeO.bind ?_ (fun _ => ?_)
set_option maxHeartbeats 8000000 in
set_option maxRecDepth 100000 in
theorem rating_Check.calls (k : Nat) (A0 : Option Addr) (c0 : Nat) (l0 : List Int) (r : Int) (w : World) (hr0 : Kd.C (Kd.int .i64) w A0 l0.length l0) (hc0 : l0.length ≤ c0) (h : rating_Check.f k l0 = some r) :
    Calls Tryd.prog 16 #[.slice A0 l0.length c0] w fun e w' => e = .returned (.int .i64 r) ∧ Drawn0 w w' := by
 have HR0 := Aside0.mk hr0; have HC0 := Aside0.mk hc0; clear hr0 hc0
 have H : (if (l0.length : Int) = 0 then (rating_Check.j0 k l0 true) else (rating_Check.j0 k l0 (decide ((l0.length : Int) > 64)))) = some r := h
 clear h; have HC2 := Aside0.mk H; clear H
 go_enter Tryd.func16, Tryd.ntmps16
 go_upto_region 1 with (fail)
 go_cut [12] (fun vs12 wc => ∃ (kq : Nat) (x12_1 : Bool), vs12 = .bool x12_1 ∧ Aside0 (rating_Check.j0 kq l0 x12_1 = some r) ∧ Aside0 (kq ≤ k) ∧ Drawn0 w wc)
 case first =>
  have H := HC2.out; clear HC2
  by_cases c3 : (l0.length : Int) = 0
  ·rw [if_pos c3] at H
   have c3b0 : ((l0.length : Int) == 0) = true := beq_iff_eq.mpr c3
   have c3b1 : ((l0.length : Int) != 0) = false := bne_eq_false_iff_eq.mpr c3
   clear c3
   (first | rw [c3b0] | (simp only [i64_w, i32_w]; rw [c3b0]) | skip)
   as_aux_lemma =>
    have H' := Aside0.mk H
    clear H
    go_wp2
    go_meet
    case rel => exact ⟨_, (true), (xrf), H', ⟨by first | omega | exact Nat.le_refl _⟩, by repeat (first | exact Drawn0.refl _ | apply Drawn0.step)⟩
  ·rw [if_neg c3] at H
   have c3b0 : ((l0.length : Int) == 0) = false := beq_eq_false_iff_ne.mpr c3
   have c3b1 : ((l0.length : Int) != 0) = true := bne_iff_ne.mpr c3
   have c3b2 : ¬ (l0 = []) := fun h_ => c3 (by rw [h_]; rfl)
   (first | rw [c3b0] | (simp only [i64_w, i32_w]; rw [c3b0]) | skip)
   as_aux_lemma =>
    have H' := Aside0.mk H
    clear H
    go_wp2
    go_meet
    case rel => exact ⟨_, (decide ((l0.length : Int) > 64)), (xrf), H', ⟨by first | omega | exact Nat.le_refl _⟩, by repeat (first | exact Drawn0.refl _ | apply Drawn0.step)⟩
 case rest =>
  clear HC2; (try clear p2)
  obtain ⟨kq, x12_1, rfl, HA, HJ1, ⟨mc1, rfl⟩⟩ := hcut
  cases kq with
  | zero => exact absurd HA.out (by simp [rating_Check.j0])
  | succ kj1 =>
   have H := HA.out; clear HA
   simp only [rating_Check.j0] at H
   by_cases c4 : x12_1 = true
   ·subst c4
    rw [if_pos rfl] at H
    as_aux_lemma =>
     obtain rfl := Option.some.inj H
     go_wp2
     go_ret
     exact ⟨xrf, by repeat (first | exact Drawn0.refl _ | apply Drawn0.step)⟩
   ·replace c4 := Bool.eq_false_iff.mpr c4
    subst c4
    rw [if_neg (show ¬ (false = true) by decide)] at H
    have H' := Aside0.mk H
    clear H
    go_wp2
    go_loopg [15] kj1 (fun kq vs15 w' => ∃ (x15_2 : Int), vs15 = .int .i64 x15_2 ∧ Aside0 (rating_Check.l0 kq l0 (l0.length : Int) x15_2 = some r) ∧ Aside0 (kq ≤ kj1) ∧ Drawn0 w w')
    case atStart => exact ⟨(0), (xrf), H', ⟨Nat.le_refl _⟩, by repeat (first | exact Drawn0.refl _ | apply Drawn0.step)⟩
    case round =>
     clear H'; (try clear p2); (try clear p2)
     obtain ⟨x15_2, rfl, HA, HK2, ⟨m2, rfl⟩⟩ := hrel
     cases gk with
     | zero => exact absurd HA.out (by simp [rating_Check.l0])
     | succ k2 =>
      have H := HA.out; clear HA
      simp only [rating_Check.l0] at H
      by_cases c5 : x15_2 < (l0.length : Int)
      ·rw [if_pos c5] at H
       have c5b0 : decide (x15_2 < (l0.length : Int)) = true := decide_eq_true c5
       clear c5
       by_cases c6 : 0 ≤ x15_2
       ·rw [if_pos c6] at H
        have c6b0 : decide (0 ≤ x15_2) = true := decide_eq_true c6
        clear c6
        by_cases c7 : x15_2 < (l0.length : Int)
        ·rw [if_pos c7] at H
         have c7b0 : decide (x15_2 < (l0.length : Int)) = true := decide_eq_true c7
         clear c7
         by_cases c8 : (rd l0 x15_2) < (-1000000)
         ·rw [if_pos c8] at H
          have c8b0 : decide ((rd l0 x15_2) < (-1000000)) = true := decide_eq_true c8
          clear c8
          as_aux_lemma =>
           obtain rfl := Option.some.inj H
           have p124 : 0 ≤ (x15_2 : Int) := of_decide_eq_true (by first | (with_reducible assumption) | assumption)
           have q124 : x15_2 < (l0.length : Int) := of_decide_eq_true (by first | (with_reducible assumption) | assumption)
           obtain ⟨ad124, e124, hx124_0⟩ := Kd.at_int HR0.out x15_2 p124 q124
           cases e124
           replace p124 := eq_true p124; replace q124 := eq_true q124
           go_wp2
           go_ret
           exact ⟨xrf, by repeat (first | exact Drawn0.refl _ | apply Drawn0.step)⟩
         ·rw [if_neg c8] at H
          have c8b0 : decide ((rd l0 x15_2) < (-1000000)) = false := decide_eq_false c8
          clear c8
          by_cases c9 : (rd l0 x15_2) > 1000000
          ·rw [if_pos c9] at H
           have c9b0 : decide (1000000 < (rd l0 x15_2)) = true := decide_eq_true c9
           clear c9
           as_aux_lemma =>
            obtain rfl := Option.some.inj H
            have p124 : 0 ≤ (x15_2 : Int) := of_decide_eq_true (by first | (with_reducible assumption) | assumption)
            have q124 : x15_2 < (l0.length : Int) := of_decide_eq_true (by first | (with_reducible assumption) | assumption)
            obtain ⟨ad124, e124, hx124_0⟩ := Kd.at_int HR0.out x15_2 p124 q124
            cases e124
            replace p124 := eq_true p124; replace q124 := eq_true q124
            go_wp2
            go_ret
            exact ⟨xrf, by repeat (first | exact Drawn0.refl _ | apply Drawn0.step)⟩
          ·rw [if_neg c9] at H
           have c9b0 : decide (1000000 < (rd l0 x15_2)) = false := decide_eq_false c9
           clear c9
           as_aux_lemma =>
            have H' := Aside0.mk H
            clear H
            have p124 : 0 ≤ (x15_2 : Int) := of_decide_eq_true (by first | (with_reducible assumption) | assumption)
            have q124 : x15_2 < (l0.length : Int) := of_decide_eq_true (by first | (with_reducible assumption) | assumption)
            obtain ⟨ad124, e124, hx124_0⟩ := Kd.at_int HR0.out x15_2 p124 q124
            cases e124
            replace p124 := eq_true p124; replace q124 := eq_true q124
            go_wp2
            go_roundg k2
            case measure => have := HJ1.out; have := HK2.out; omega
            case rel => exact ⟨(wrap64 (x15_2 + 1)), (xrf), H', ⟨by have := HJ1.out; have := HK2.out; omega⟩, by repeat (first | exact Drawn0.refl _ | apply Drawn0.step)⟩
        ·rw [if_neg c7] at H
         exact absurd H (by simp)
       ·rw [if_neg c6] at H
        exact absurd H (by simp)
      ·rw [if_neg c5] at H
       have c5b0 : decide (x15_2 < (l0.length : Int)) = false := decide_eq_false c5
       clear c5
       as_aux_lemma =>
        obtain rfl := Option.some.inj H
        go_wp2
        go_ret
        exact ⟨xrf, by repeat (first | exact Drawn0.refl _ | apply Drawn0.step)⟩

/-! ### rating_Change: function 18 -/
def rating_Change.j0 : Nat → Int → Int → Int → Int → Bool → Option (Int × Int)
  | 0, _, _, _, _, _ => none
  | k + 1, x0, x1, x2, x3, x23 => if x23 = true then (some (0, 1)) else (if x3 < 1 then (some (0, 4)) else (if x3 > 64 then (some (0, 4)) else ((rating_Expect.f k (wrap64 (x0 - x1))).bind fun t129 => (some (wrap64 (x3 * (wrap64 ((wrap64 (50 * x2)) - t129))), 0)))))
def rating_Change.f (k : Nat) (a0 : Int) (a1 : Int) (a2 : Int) (a3 : Int) : Option (Int × Int) := (rating_Check.f k (([a0, a1] : List Int))).bind fun t128 => (if t128 = 0 then (if a2 < 0 then (rating_Change.j0 k a0 a1 a2 a3 true) else (rating_Change.j0 k a0 a1 a2 a3 (decide (a2 > 2)))) else (some (0, t128)))
theorem rating_Change.mono_l : ∀ k, (∀ y0 y1 y2 y3 y4, LeO (rating_Change.j0 k y0 y1 y2 y3 y4) (rating_Change.j0 (k + 1) y0 y1 y2 y3 y4))
  | 0 => fun _ _ _ _ _ r h => by simp [rating_Change.j0] at h
  | k + 1 => by
    have ih0 := rating_Change.mono_l k
    · intros
      unfold rating_Change.j0
      repeat' first
      | (with_reducible apply ih0)
      | (with_reducible apply rating_Check.mono)
      | (with_reducible apply rating_Expect.mono)
      | (with_reducible exact LeO.refl _)
      | (with_reducible exact LeO.none _)
      | (with_reducible refine LeO.ite ?_ ?_)
      | (with_reducible refine LeO.bind ?_ (fun _ => ?_))
      | apply ih0
      | apply rating_Check.mono
      | apply rating_Expect.mono
      | exact LeO.none _
      | refine LeO.ite ?_ ?_
      | refine LeO.bind ?_ (fun _ => ?_)
theorem rating_Change.mono : ∀ a0 a1 a2 a3 k, LeO (rating_Change.f k a0 a1 a2 a3) (rating_Change.f (k + 1) a0 a1 a2 a3) := by
  intro a0 a1 a2 a3 k
  have ih0 := rating_Change.mono_l k
  unfold rating_Change.f
  repeat' first
      | (with_reducible apply ih0)
      | (with_reducible apply rating_Check.mono)
      | (with_reducible apply rating_Expect.mono)
      | (with_reducible exact LeO.refl _)
      | (with_reducible exact LeO.none _)
      | (with_reducible refine LeO.ite ?_ ?_)
      | (with_reducible refine LeO.bind ?_ (fun _ => ?_))
      | apply ih0
      | apply rating_Check.mono
      | apply rating_Expect.mono
      | exact LeO.none _
      | refine LeO.ite ?_ ?_
      | refine LeO.bind ?_ (fun _ => ?_)
set_option maxHeartbeats 8000000 in
set_option maxRecDepth 100000 in
theorem rating_Change.calls (k : Nat) (a0 : Int) (a1 : Int) (a2 : Int) (a3 : Int) (r1 : Int) (r2 : Int) (w : World) (h : rating_Change.f k a0 a1 a2 a3 = some (r1, r2)) (hlaid : LaidS w) :
    Calls Tryd.prog 18 #[.int .i64 a0, .int .i64 a1, .int .i64 a2, .int .i64 a3] w fun e w' => e = .returned (.tuple #[.int .i64 r1, .int .i64 r2]) ∧ Below w.heap.size w w' := by
 have HB := Aside0.mk (Below.refl w.heap.size w); have hss_ := @isSome_setCell
 have H : ((rating_Check.f k (([a0, a1] : List Int))).bind fun t128 => (if t128 = 0 then (if a2 < 0 then (rating_Change.j0 k a0 a1 a2 a3 true) else (rating_Change.j0 k a0 a1 a2 a3 (decide (a2 > 2)))) else (some (0, t128)))) = some (r1, r2) := h
 clear h
 obtain ⟨y125, hy125⟩ : ∃ y_ : List Int, y_ = (([a0, a1] : List Int)) := ⟨_, rfl⟩
 replace H : ((rating_Check.f k y125).bind fun t128 => (if t128 = 0 then (if a2 < 0 then (rating_Change.j0 k a0 a1 a2 a3 true) else (rating_Change.j0 k a0 a1 a2 a3 (decide (a2 > 2)))) else (some (0, t128)))) = some (r1, r2) := by first | (rw [hy125]; with_reducible exact H) | (have H2_ := (Option.bind_some _ _).symm.trans H; rw [hy125]; with_reducible exact H2_) | (have H2_ := (Option.bind_some _ _).symm.trans H; with_reducible exact H2_) | with_reducible exact H | (rw [hy125]; exact H) | exact H
 have Ny125 := Aside0.mk hy125; clear hy125; replace H := Option.bind_eq_some_iff.mp H
 obtain ⟨t128, A50, H⟩ := H
 try dsimp only at H
 have A5 := Aside0.mk A50; clear A50
 by_cases c6 : t128 = 0
 ·rw [if_pos c6] at H
  have c6b0 : (t128 == 0) = true := beq_iff_eq.mpr c6
  have c6b1 : (t128 != 0) = false := bne_eq_false_iff_eq.mpr c6
  clear c6; have HC7 := Aside0.mk H; clear H
  go_enter Tryd.func18, Tryd.ntmps18
  go_upto_region 4 with (first | ((with_reducible refine gate_dst (N := 13) rfl ?_); refine Kd.R_lit (Kd.int .i64) _ 3 ?hg (N := 13) ?hd (xs := ([a0, a1] : List Int)) (inner := [.int .i64 a0, .int .i64 a1]) (ok := fun _ => True) (okp := fun _ => True) ?hr ?hp (fun _ hk => hk) trivial (Below.refl _ _) (Nat.le_refl _) (by simp) ?_; (case hd => rfl); (case hg => rfl); (case hr => first | (go_simp; done) | (go_simp; rfl)); (case hp => exact (Reps.one (show Kd.M (Kd.int .i64) _ _ _ a0 [.int .i64 a0] from rfl) (Reps.one (show Kd.M (Kd.int .i64) _ _ _ a1 [.int .i64 a1] from rfl) (Reps.none _ _)))); intro v126 w8 ho9 hb hg_ hnew_; clear hg_ hnew_; (first | rw [← Ny125.out] at ho9 | (simp only [Int.reduceToNat] at ho9; rw [← Ny125.out] at ho9)); have HO127 := Aside0.mk (Kd.R_lower ho9 (below_size (xW HB))); replace HB := Aside0.mk (xS HB hb); clear hb ho9; obtain ⟨Ao10, co10, eo10⟩ := Kd.R_slice HO127.out; subst eo10) | ((with_reducible refine gate_callee (f := 16) rfl ?_); refine goesL_ (some 14) rfl rfl Tryd.func16 (by kernel_rfl) rfl #[.slice Ao10 y125.length co10] rfl (by (try simp only [List.map_toArray, List.map_cons, List.map_nil]); first | done | rfl | (simp only [List.length_drop, List.length_take]; rfl)) ?_; (with_reducible refine (rating_Check.calls k _ _ y125 t128 _ ?side1 ?side2 A5.out).mono ?_); (case side1 => repeat (first | exact (Kd.R_reads' HO127.out).2.2 | (with_reducible refine Kd.C_alloc ?_ _) | (with_reducible refine Kd.C_drewN ?_ _) | (with_reducible refine Kd.C_drew ?_))); (case side2 => exact (Kd.R_reads' HO127.out).2.1); rintro e w' ⟨rfl, ⟨nd, rfl⟩⟩; refine ⟨_, rfl, ?_⟩))
  (try simp only [Act.put, List.setIfInBounds_toArray, List.set_cons_zero, List.set_cons_succ])
  go_cut [23] (fun vs23 wc => ∃ (kq : Nat) (x23_6 : Bool), vs23 = .bool x23_6 ∧ Aside0 (rating_Change.j0 kq a0 a1 a2 a3 x23_6 = some (r1, r2)) ∧ Aside0 (kq ≤ k) ∧ Aside0 (Below w.heap.size w wc))
  case first =>
   have H := HC7.out; clear HC7
   by_cases c11 : a2 < 0
   ·rw [if_pos c11] at H
    have c11b0 : decide (a2 < 0) = true := decide_eq_true c11
    clear c11
    (first | rw [c11b0] | (simp only [i64_w, i32_w]; rw [c11b0]) | skip)
    as_aux_lemma =>
     have H' := Aside0.mk H
     clear H
     go_wp2
     go_meet
     case rel => exact ⟨_, (true), (xrf), H', ⟨by first | omega | exact Nat.le_refl _⟩, ⟨xW HB⟩⟩
   ·rw [if_neg c11] at H
    have c11b0 : decide (a2 < 0) = false := decide_eq_false c11
    clear c11
    (first | rw [c11b0] | (simp only [i64_w, i32_w]; rw [c11b0]) | skip)
    as_aux_lemma =>
     have H' := Aside0.mk H
     clear H
     go_wp2
     go_meet
     case rel => exact ⟨_, (decide (a2 > 2)), (xrf), H', ⟨by first | omega | exact Nat.le_refl _⟩, ⟨xW HB⟩⟩
  case rest =>
   clear HC7; (try clear p2)
   obtain ⟨kq, x23_6, rfl, HA, HJ6, HB⟩ := hcut
   cases kq with
   | zero => exact absurd HA.out (by simp [rating_Change.j0])
   | succ kj6 =>
    have H := HA.out; clear HA
    simp only [rating_Change.j0] at H
    by_cases c12 : x23_6 = true
    ·subst c12
     rw [if_pos rfl] at H
     as_aux_lemma =>
      simp only [Option.some.injEq, Prod.mk.injEq] at H
      obtain ⟨rfl, rfl⟩ := H
      go_wp2
      go_ret2
      exact ⟨xer, xW HB⟩
    ·replace c12 := Bool.eq_false_iff.mpr c12
     subst c12
     rw [if_neg (show ¬ (false = true) by decide)] at H
     by_cases c13 : a3 < 1
     ·rw [if_pos c13] at H
      have c13b0 : decide (a3 < 1) = true := decide_eq_true c13
      clear c13
      as_aux_lemma =>
       simp only [Option.some.injEq, Prod.mk.injEq] at H
       obtain ⟨rfl, rfl⟩ := H
       go_wp2
       go_ret2
       exact ⟨xer, xW HB⟩
     ·rw [if_neg c13] at H
      have c13b0 : decide (a3 < 1) = false := decide_eq_false c13
      clear c13
      by_cases c14 : a3 > 64
      ·rw [if_pos c14] at H
       have c14b0 : decide (64 < a3) = true := decide_eq_true c14
       clear c14
       as_aux_lemma =>
        simp only [Option.some.injEq, Prod.mk.injEq] at H
        obtain ⟨rfl, rfl⟩ := H
        go_wp2
        go_ret2
        exact ⟨xer, xW HB⟩
      ·rw [if_neg c14] at H
       have c14b0 : decide (64 < a3) = false := decide_eq_false c14
       clear c14; replace H := Option.bind_eq_some_iff.mp H
       obtain ⟨t129, A150, H⟩ := H
       replace H : (some (wrap64 (a3 * (wrap64 ((wrap64 (50 * a2)) - t129))), 0)) = some (r1, r2) := H
       have A15 := Aside0.mk A150; clear A150
       as_aux_lemma =>
        simp only [Option.some.injEq, Prod.mk.injEq] at H
        obtain ⟨rfl, rfl⟩ := H
        go_wp2_with (first | ((with_reducible refine gate_callee (f := 13) rfl ?_); refine goesL_ (some 36) rfl rfl Tryd.func13 (by kernel_rfl) rfl #[.int .i64 (wrap64 (a0 - a1))] rfl (by (try simp only [List.map_toArray, List.map_cons, List.map_nil]); first | done | rfl | (simp only [List.length_drop, List.length_take]; rfl)) ?_; (with_reducible refine (rating_Expect.calls kj6 (wrap64 (a0 - a1)) t129 _ A15.out ?sideL).mono ?_); (case sideL => exact xL hlaid); rintro e w' ⟨rfl, ⟨nd, rfl⟩⟩; refine ⟨_, rfl, ?_⟩))
        go_ret2
        exact ⟨xer, xW HB⟩
 ·rw [if_neg c6] at H
  have c6b0 : (t128 == 0) = false := beq_eq_false_iff_ne.mpr c6
  have c6b1 : (t128 != 0) = true := bne_iff_ne.mpr c6
  as_aux_lemma =>
   simp only [Option.some.injEq, Prod.mk.injEq] at H
   obtain ⟨rfl, rfl⟩ := H
   go_enter Tryd.func18, Tryd.ntmps18
   go_wp2_with (first | ((with_reducible refine gate_dst (N := 13) rfl ?_); refine Kd.R_lit (Kd.int .i64) _ 3 ?hg (N := 13) ?hd (xs := ([a0, a1] : List Int)) (inner := [.int .i64 a0, .int .i64 a1]) (ok := fun _ => True) (okp := fun _ => True) ?hr ?hp (fun _ hk => hk) trivial (Below.refl _ _) (Nat.le_refl _) (by simp) ?_; (case hd => rfl); (case hg => rfl); (case hr => first | (go_simp; done) | (go_simp; rfl)); (case hp => exact (Reps.one (show Kd.M (Kd.int .i64) _ _ _ a0 [.int .i64 a0] from rfl) (Reps.one (show Kd.M (Kd.int .i64) _ _ _ a1 [.int .i64 a1] from rfl) (Reps.none _ _)))); intro v126 w16 ho17 hb hg_ hnew_; clear hg_ hnew_; (first | rw [← Ny125.out] at ho17 | (simp only [Int.reduceToNat] at ho17; rw [← Ny125.out] at ho17)); have HO127 := Aside0.mk (Kd.R_lower ho17 (below_size (xW HB))); replace HB := Aside0.mk (xS HB hb); clear hb ho17; obtain ⟨Ao18, co18, eo18⟩ := Kd.R_slice HO127.out; subst eo18) | ((with_reducible refine gate_callee (f := 16) rfl ?_); refine goesL_ (some 14) rfl rfl Tryd.func16 (by kernel_rfl) rfl #[.slice Ao18 y125.length co18] rfl (by (try simp only [List.map_toArray, List.map_cons, List.map_nil]); first | done | rfl | (simp only [List.length_drop, List.length_take]; rfl)) ?_; (with_reducible refine (rating_Check.calls k _ _ y125 t128 _ ?side1 ?side2 A5.out).mono ?_); (case side1 => repeat (first | exact (Kd.R_reads' HO127.out).2.2 | (with_reducible refine Kd.C_alloc ?_ _) | (with_reducible refine Kd.C_drewN ?_ _) | (with_reducible refine Kd.C_drew ?_))); (case side2 => exact (Kd.R_reads' HO127.out).2.1); rintro e w' ⟨rfl, ⟨nd, rfl⟩⟩; refine ⟨_, rfl, ?_⟩))
   go_ret2
   exact ⟨xer, xW HB⟩

end Go.Proofs.YtcncilipmekfhaaDoor.PRatingMoves
