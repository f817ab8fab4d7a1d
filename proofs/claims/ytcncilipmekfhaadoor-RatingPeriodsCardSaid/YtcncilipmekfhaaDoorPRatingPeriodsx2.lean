-- Printed by a program of this claim's writer (wip/ext): an extension of the kit's print.
import Derived.Test.YtcncilipmekfhaaDoorPRatingPeriodsx0
import Derived.Test.YtcncilipmekfhaaDoorPRatingPeriodsx1
namespace Go.Proofs.YtcncilipmekfhaaDoor.PRatingPeriods
open Go.RowKit Go.Proofs.YtcncilipmekfhaaDoorW.PrintWords Go.Proofs.YtcncilipmekfhaaDoorW.PrintLast Go.Proofs.YtcncilipmekfhaaDoorW.PrintMore
attribute [local go_sem] max2_int min2_int max_two min_two max_three min_three max_four min_four   -- for this text's walks alone
set_option linter.unusedVariables false
set_option linter.unusedSimpArgs false

/-! ### rating_Change: function 18 -/
def rating_Change.j0 : Nat → Int → Int → Int → Int → Bool → Option (Int × Int)
  | 0, _, _, _, _, _ => none
  | k + 1, x0, x1, x2, x3, x23 => if x23 = true then (some (0, 1)) else (if x3 < 1 then (some (0, 4)) else (if x3 > 64 then (some (0, 4)) else ((rating_Expect.f k (wrap64 (x0 - x1))).bind fun t131 => (some (wrap64 (x3 * (wrap64 ((wrap64 (50 * x2)) - t131))), 0)))))
def rating_Change.f (k : Nat) (a0 : Int) (a1 : Int) (a2 : Int) (a3 : Int) : Option (Int × Int) := (rating_Check.f k (([a0, a1] : List Int))).bind fun t130 => (if t130 = 0 then (if a2 < 0 then (rating_Change.j0 k a0 a1 a2 a3 true) else (rating_Change.j0 k a0 a1 a2 a3 (decide (a2 > 2)))) else (some (0, t130)))
theorem rating_Change.mono_l : ∀ k, (∀ y0 y1 y2 y3 y4, LeO (rating_Change.j0 k y0 y1 y2 y3 y4) (rating_Change.j0 (k + 1) y0 y1 y2 y3 y4))
  | 0 => fun _ _ _ _ _ r h => by simp [rating_Change.j0] at h
  | k + 1 => by
    have ih0 := rating_Change.mono_l k
    · intro y0 y1 y2 y3 y4
      unfold rating_Change.j0
      repeat' first
      | (with_reducible exact ih0 _ _ _ _ _)
      | (with_reducible exact rating_Check.mono _ _)
      | (with_reducible exact rating_Expect.mono _ _)
      | (with_reducible exact LeO.refl _)
      | (with_reducible exact LeO.none _)
      | (with_reducible refine LeO.ite ?_ ?_)
      | (with_reducible refine LeO.bind ?_ (fun _ => ?_))
      | exact ih0 _ _ _ _ _
      | exact rating_Check.mono _ _
      | exact rating_Expect.mono _ _
      | exact LeO.none _
      | refine LeO.ite ?_ ?_
      | refine LeO.bind ?_ (fun _ => ?_)
theorem rating_Change.mono : ∀ a0 a1 a2 a3 k, LeO (rating_Change.f k a0 a1 a2 a3) (rating_Change.f (k + 1) a0 a1 a2 a3) := by
  intro a0 a1 a2 a3 k
  have ih0 := rating_Change.mono_l k
  unfold rating_Change.f
  repeat' first
      | (with_reducible exact ih0 _ _ _ _ _)
      | (with_reducible exact rating_Check.mono _ _)
      | (with_reducible exact rating_Expect.mono _ _)
      | (with_reducible exact LeO.refl _)
      | (with_reducible exact LeO.none _)
      | (with_reducible refine LeO.ite ?_ ?_)
      | (with_reducible refine LeO.bind ?_ (fun _ => ?_))
      | exact ih0 _ _ _ _ _
      | exact rating_Check.mono _ _
      | exact rating_Expect.mono _ _
      | exact LeO.none _
      | refine LeO.ite ?_ ?_
      | refine LeO.bind ?_ (fun _ => ?_)
set_option maxHeartbeats 8000000 in
set_option maxRecDepth 100000 in
theorem rating_Change.calls (k : Nat) (a0 : Int) (a1 : Int) (a2 : Int) (a3 : Int) (r1 : Int) (r2 : Int) (w : World) (h : rating_Change.f k a0 a1 a2 a3 = some (r1, r2)) (hlaid : LaidS w) :
    Calls Tryd.prog 18 #[.int .i64 a0, .int .i64 a1, .int .i64 a2, .int .i64 a3] w fun e w' => e = .returned (.tuple #[.int .i64 r1, .int .i64 r2]) ∧ Below w.heap.size w w' := by
 have HB := Aside0.mk (Below.refl w.heap.size w)
 have hss_ := @isSome_setCell
 have H : ((rating_Check.f k (([a0, a1] : List Int))).bind fun t130 => (if t130 = 0 then (if a2 < 0 then (rating_Change.j0 k a0 a1 a2 a3 true) else (rating_Change.j0 k a0 a1 a2 a3 (decide (a2 > 2)))) else (some (0, t130)))) = some (r1, r2) := h
 clear h
 obtain ⟨y127, hy127⟩ : ∃ y_ : List Int, y_ = (([a0, a1] : List Int)) := ⟨_, rfl⟩
 replace H : ((rating_Check.f k y127).bind fun t130 => (if t130 = 0 then (if a2 < 0 then (rating_Change.j0 k a0 a1 a2 a3 true) else (rating_Change.j0 k a0 a1 a2 a3 (decide (a2 > 2)))) else (some (0, t130)))) = some (r1, r2) := by first | (rw [hy127]; with_reducible exact H) | (have H2_ := (Option.bind_some _ _).symm.trans H; rw [hy127]; with_reducible exact H2_) | (have H2_ := (Option.bind_some _ _).symm.trans H; with_reducible exact H2_) | with_reducible exact H | (rw [hy127]; exact H) | exact H
 have Ny127 := Aside0.mk hy127
 clear hy127
 replace H := Option.bind_eq_some_iff.mp H
 obtain ⟨t130, A50, H⟩ := H
 replace H : (if t130 = 0 then (if a2 < 0 then (rating_Change.j0 k a0 a1 a2 a3 true) else (rating_Change.j0 k a0 a1 a2 a3 (decide (a2 > 2)))) else (some (0, t130))) = some (r1, r2) := H
 have A5 := Aside0.mk A50
 clear A50
 by_cases c6 : t130 = 0
 ·rw [if_pos c6] at H
  have c6b0 : (t130 == 0) = true := beq_iff_eq.mpr c6
  have c6b1 : (t130 != 0) = false := bne_eq_false_iff_eq.mpr c6
  clear c6
  have HC7 := Aside0.mk H
  clear H
  go_enter Tryd.func18, Tryd.ntmps18
  go_upto_region 4 with (first | ((with_reducible refine gate_dst (N := 13) rfl ?_); refine Kd.R_lit (Kd.int .i64) _ 3 ?hg (N := 13) ?hd (xs := ([a0, a1] : List Int)) (inner := [.int .i64 a0, .int .i64 a1]) (ok := fun _ => True) (okp := fun _ => True) ?hr ?hp (fun _ hk => hk) trivial (Below.refl _ _) (Nat.le_refl _) (by simp) ?_; (case hd => rfl); (case hg => rfl); (case hr => first | (go_simp; done) | (go_simp; rfl)); (case hp => exact (Reps.one (show Kd.M (Kd.int .i64) _ _ _ a0 [.int .i64 a0] from rfl) (Reps.one (show Kd.M (Kd.int .i64) _ _ _ a1 [.int .i64 a1] from rfl) (Reps.none _ _)))); intro v128 w8 ho9 hb hg_ hnew_; clear hg_ hnew_; (first | rw [← Ny127.out] at ho9 | (simp only [Int.reduceToNat] at ho9; rw [← Ny127.out] at ho9)); have HO129 := Aside0.mk (Kd.R_lower ho9 (below_size (xW HB))); replace HB := Aside0.mk (xS HB hb); clear hb ho9; obtain ⟨Ao10, co10, eo10⟩ := Kd.R_slice HO129.out; subst eo10) | ((with_reducible refine gate_callee (f := 16) rfl ?_); refine goesL_ (some 14) rfl rfl Tryd.func16 (by kernel_rfl) rfl #[.slice Ao10 y127.length co10] rfl (by (try simp only [List.map_toArray, List.map_cons, List.map_nil]); first | done | rfl | (simp only [List.length_drop, List.length_take]; rfl)) ?_; (with_reducible refine (rating_Check.calls k _ _ y127 t130 _ ?side1 ?side2 A5.out).mono ?_); (case side1 => repeat (first | exact (Kd.R_reads' HO129.out).2.2 | (with_reducible refine Kd.C_alloc ?_ _) | (with_reducible refine Kd.C_drewN ?_ _) | (with_reducible refine Kd.C_drew ?_))); (case side2 => exact (Kd.R_reads' HO129.out).2.1); rintro e w' ⟨rfl, ⟨nd, rfl⟩⟩; refine ⟨_, rfl, ?_⟩))
  (try simp only [Act.put, List.setIfInBounds_toArray, List.set_cons_zero, List.set_cons_succ])
  go_cut [23] (fun vs23 wc => ∃ (kq : Nat) (x23_6 : Bool), vs23 = .bool x23_6 ∧ Aside0 (rating_Change.j0 kq a0 a1 a2 a3 x23_6 = some (r1, r2)) ∧ Aside0 (kq ≤ k) ∧ Aside0 (Below w.heap.size w wc))
  case first =>
   have H := HC7.out
   clear HC7
   by_cases c11 : a2 < 0
   ·rw [if_pos c11] at H
    have c11b0 : decide (a2 < 0) = true := decide_eq_true c11
    clear c11
    (first | rw [c11b0] | (simp only [i64_w, i32_w]; rw [c11b0]) | skip)
    as_aux_lemma =>
     have H' := Aside0.mk H
     clear H
     go_wp2
     go_meet
     case rel => exact ⟨_, (true), (xrf), H', ⟨by first | omega | exact Nat.le_refl _⟩, ⟨xW HB⟩⟩
   ·rw [if_neg c11] at H
    have c11b0 : decide (a2 < 0) = false := decide_eq_false c11
    clear c11
    (first | rw [c11b0] | (simp only [i64_w, i32_w]; rw [c11b0]) | skip)
    as_aux_lemma =>
     have H' := Aside0.mk H
     clear H
     go_wp2
     go_meet
     case rel => exact ⟨_, (decide (a2 > 2)), (xrf), H', ⟨by first | omega | exact Nat.le_refl _⟩, ⟨xW HB⟩⟩
  case rest =>
   clear HC7
   try clear c1
   try clear p2
   try clear c6
   try clear c6b0
   try clear c6b1
   try clear c11
   try clear c11b0
   obtain ⟨kq, x23_6, rfl, HA, HJ6, HB⟩ := hcut
   cases kq with
   | zero => exact absurd HA.out (by simp [rating_Change.j0])
   | succ kj6 =>
    have H := HA.out
    clear HA
    simp only [rating_Change.j0] at H
    by_cases c12 : x23_6 = true
    ·subst c12
     have H1 : (some (0, 1)) = some (r1, r2) := by rw [if_pos rfl] at H; exact H
     clear H
     have H := H1
     clear H1
     as_aux_lemma =>
      simp only [Option.some.injEq, Prod.mk.injEq] at H
      obtain ⟨rfl, rfl⟩ := H
      go_wp2
      go_ret2
      exact ⟨xer, xW HB⟩
    ·replace c12 := Bool.eq_false_iff.mpr c12
     subst c12
     have H1 : (if a3 < 1 then (some (0, 4)) else (if a3 > 64 then (some (0, 4)) else ((rating_Expect.f kj6 (wrap64 (a0 - a1))).bind fun t131 => (some (wrap64 (a3 * (wrap64 ((wrap64 (50 * a2)) - t131))), 0))))) = some (r1, r2) := by rw [if_neg (show ¬ (false = true) by decide)] at H; exact H
     clear H
     have H := H1
     clear H1
     by_cases c13 : a3 < 1
     ·rw [if_pos c13] at H
      have c13b0 : decide (a3 < 1) = true := decide_eq_true c13
      clear c13
      as_aux_lemma =>
       simp only [Option.some.injEq, Prod.mk.injEq] at H
       obtain ⟨rfl, rfl⟩ := H
       go_wp2
       go_ret2
       exact ⟨xer, xW HB⟩
     ·rw [if_neg c13] at H
      have c13b0 : decide (a3 < 1) = false := decide_eq_false c13
      clear c13
      by_cases c14 : a3 > 64
      ·rw [if_pos c14] at H
       have c14b0 : decide (64 < a3) = true := decide_eq_true c14
       clear c14
       as_aux_lemma =>
        simp only [Option.some.injEq, Prod.mk.injEq] at H
        obtain ⟨rfl, rfl⟩ := H
        go_wp2
        go_ret2
        exact ⟨xer, xW HB⟩
      ·rw [if_neg c14] at H
       have c14b0 : decide (64 < a3) = false := decide_eq_false c14
       clear c14
       replace H := Option.bind_eq_some_iff.mp H
       obtain ⟨t131, A150, H⟩ := H
       replace H : (some (wrap64 (a3 * (wrap64 ((wrap64 (50 * a2)) - t131))), 0)) = some (r1, r2) := H
       have A15 := Aside0.mk A150
       clear A150
       as_aux_lemma =>
        simp only [Option.some.injEq, Prod.mk.injEq] at H
        obtain ⟨rfl, rfl⟩ := H
        go_wp2_with (first | ((with_reducible refine gate_callee (f := 13) rfl ?_); refine goesL_ (some 36) rfl rfl Tryd.func13 (by kernel_rfl) rfl #[.int .i64 (wrap64 (a0 - a1))] rfl (by (try simp only [List.map_toArray, List.map_cons, List.map_nil]); first | done | rfl | (simp only [List.length_drop, List.length_take]; rfl)) ?_; (with_reducible refine (rating_Expect.calls kj6 (wrap64 (a0 - a1)) t131 _ A15.out ?sideL).mono ?_); (case sideL => exact xL hlaid); rintro e w' ⟨rfl, ⟨nd, rfl⟩⟩; refine ⟨_, rfl, ?_⟩))
        go_ret2
        exact ⟨xer, xW HB⟩
 ·rw [if_neg c6] at H
  have c6b0 : (t130 == 0) = false := beq_eq_false_iff_ne.mpr c6
  have c6b1 : (t130 != 0) = true := bne_iff_ne.mpr c6
  as_aux_lemma =>
   simp only [Option.some.injEq, Prod.mk.injEq] at H
   obtain ⟨rfl, rfl⟩ := H
   go_enter Tryd.func18, Tryd.ntmps18
   go_wp2_with (first | ((with_reducible refine gate_dst (N := 13) rfl ?_); refine Kd.R_lit (Kd.int .i64) _ 3 ?hg (N := 13) ?hd (xs := ([a0, a1] : List Int)) (inner := [.int .i64 a0, .int .i64 a1]) (ok := fun _ => True) (okp := fun _ => True) ?hr ?hp (fun _ hk => hk) trivial (Below.refl _ _) (Nat.le_refl _) (by simp) ?_; (case hd => rfl); (case hg => rfl); (case hr => first | (go_simp; done) | (go_simp; rfl)); (case hp => exact (Reps.one (show Kd.M (Kd.int .i64) _ _ _ a0 [.int .i64 a0] from rfl) (Reps.one (show Kd.M (Kd.int .i64) _ _ _ a1 [.int .i64 a1] from rfl) (Reps.none _ _)))); intro v128 w16 ho17 hb hg_ hnew_; clear hg_ hnew_; (first | rw [← Ny127.out] at ho17 | (simp only [Int.reduceToNat] at ho17; rw [← Ny127.out] at ho17)); have HO129 := Aside0.mk (Kd.R_lower ho17 (below_size (xW HB))); replace HB := Aside0.mk (xS HB hb); clear hb ho17; obtain ⟨Ao18, co18, eo18⟩ := Kd.R_slice HO129.out; subst eo18) | ((with_reducible refine gate_callee (f := 16) rfl ?_); refine goesL_ (some 14) rfl rfl Tryd.func16 (by kernel_rfl) rfl #[.slice Ao18 y127.length co18] rfl (by (try simp only [List.map_toArray, List.map_cons, List.map_nil]); first | done | rfl | (simp only [List.length_drop, List.length_take]; rfl)) ?_; (with_reducible refine (rating_Check.calls k _ _ y127 t130 _ ?side1 ?side2 A5.out).mono ?_); (case side1 => repeat (first | exact (Kd.R_reads' HO129.out).2.2 | (with_reducible refine Kd.C_alloc ?_ _) | (with_reducible refine Kd.C_drewN ?_ _) | (with_reducible refine Kd.C_drew ?_))); (case side2 => exact (Kd.R_reads' HO129.out).2.1); rintro e w' ⟨rfl, ⟨nd, rfl⟩⟩; refine ⟨_, rfl, ?_⟩))
   go_ret2
   exact ⟨xer, xW HB⟩

end Go.Proofs.YtcncilipmekfhaaDoor.PRatingPeriods
