-- Printed by a program of this claim's writer (wip/ext): an extension of the kit's print.
import Derived.Test.YtcncilipmekfhaaPNimsumTakesx0
import Derived.Test.YtcncilipmekfhaaPNimsumTakesx1
namespace Go.Proofs.Ytcncilipmekfhaa.PNimsumTakes
open Go.RowKit Go.Proofs.YtcncilipmekfhaaW.PrintWords Go.Proofs.YtcncilipmekfhaaW.PrintLast Go.Proofs.YtcncilipmekfhaaW.PrintMore
attribute [local go_sem] max2_int min2_int max_two min_two max_three min_three max_four min_four   -- for this text's walks alone
set_option linter.unusedVariables false
set_option linter.unusedSimpArgs false

/-! ### gamehalllaw1_NimsumTakes: function 4 -/
mutual
def gamehalllaw1_NimsumTakes.j0 : Nat → List Int → Bool → Option (Bool)
  | 0, _, _ => none
  | k + 1, x0, x36 => if x36 = true then (some false) else ((nimsum_Take.f k x0).bind fun bt115 => (if (x0.length : Int) > 256 then (gamehalllaw1_NimsumTakes.j1 k x0 bt115.1 bt115.2.1 bt115.2.2 2) else (gamehalllaw1_NimsumTakes.j1 k x0 bt115.1 bt115.2.1 bt115.2.2 0)))
def gamehalllaw1_NimsumTakes.j1 : Nat → List Int → Int → Int → Int → Int → Option (Bool)
  | 0, _, _, _, _, _ => none
  | k + 1, x0, x6, x7, x8, x9 => gamehalllaw1_NimsumTakes.l0 k x0 x6 x7 x8 x9 0 x0 (x0.length : Int) 0
def gamehalllaw1_NimsumTakes.l0 : Nat → List Int → Int → Int → Int → Int → Int → List Int → Int → Int → Option (Bool)
  | 0, _, _, _, _, _, _, _, _, _ => none
  | k + 1, x0, x6, x7, x8, x9, x10, x46, x47, x48 => if x48 < x47 then (if 0 ≤ x48 then (if x48 < (x46.length : Int) then (if x9 = 0 then ((gamehallref1_In.f (rd x46 x48) 0 100000000).bind fun t119 => (if t119 = true then (gamehalllaw1_NimsumTakes.l0 k x0 x6 x7 x8 x9 (Go.bits .xor .i64 x10 (rd x46 x48)) x46 x47 (wrap64 (x48 + 1))) else (gamehalllaw1_NimsumTakes.l0 k x0 x6 x7 x8 4 (Go.bits .xor .i64 x10 (rd x46 x48)) x46 x47 (wrap64 (x48 + 1))))) else (gamehalllaw1_NimsumTakes.l0 k x0 x6 x7 x8 x9 (Go.bits .xor .i64 x10 (rd x46 x48)) x46 x47 (wrap64 (x48 + 1)))) else (none)) else (none)) else (if x9 = 0 then ((nimsum_Sum.f k x0).bind fun t120 => (if t120 = x10 then (gamehalllaw1_NimsumTakes.l1 k x6 x7 x8 x10 x0 (x0.length : Int) 0) else (some false))) else (if x8 = x9 then (if x6 = 0 then (some (x7 == 0)) else (some false)) else (some false)))
def gamehalllaw1_NimsumTakes.l1 : Nat → Int → Int → Int → Int → List Int → Int → Int → Option (Bool)
  | 0, _, _, _, _, _, _, _ => none
  | k + 1, x6, x7, x8, x10, x80, x81, x82 => if x82 < x81 then (if 0 ≤ x82 then (if x82 < (x80.length : Int) then (if (Go.bits .xor .i64 x10 (rd x80 x82)) < (rd x80 x82) then (if x8 = 0 then (if x6 = x82 then (some (x7 == (Go.bits .xor .i64 x10 (rd x80 x82)))) else (some false)) else (some false)) else (gamehalllaw1_NimsumTakes.l1 k x6 x7 x8 x10 x80 x81 (wrap64 (x82 + 1)))) else (none)) else (none)) else (if x8 = 8 then (if x6 = 0 then (some (x7 == 0)) else (some false)) else (some false))
end
def gamehalllaw1_NimsumTakes.f (k : Nat) (l0 : List Int) : Option (Bool) := (nimsum_Take.f k (([1, 4] : List Int))).bind fun bt108 => (if bt108.2.2 = 0 then (if bt108.1 = 1 then (if bt108.2.1 = 1 then ((nimsum_Sum.f k (([5, 3] : List Int))).bind fun t114 => (gamehalllaw1_NimsumTakes.j0 k l0 (t114 != 6))) else (gamehalllaw1_NimsumTakes.j0 k l0 true)) else (gamehalllaw1_NimsumTakes.j0 k l0 true)) else (gamehalllaw1_NimsumTakes.j0 k l0 true))
theorem gamehalllaw1_NimsumTakes.mono_l : ∀ k, (∀ y0 y1, LeO (gamehalllaw1_NimsumTakes.j0 k y0 y1) (gamehalllaw1_NimsumTakes.j0 (k + 1) y0 y1)) ∧ (∀ y0 y1 y2 y3 y4, LeO (gamehalllaw1_NimsumTakes.j1 k y0 y1 y2 y3 y4) (gamehalllaw1_NimsumTakes.j1 (k + 1) y0 y1 y2 y3 y4)) ∧ (∀ y0 y1 y2 y3 y4 y5 y6 y7 y8, LeO (gamehalllaw1_NimsumTakes.l0 k y0 y1 y2 y3 y4 y5 y6 y7 y8) (gamehalllaw1_NimsumTakes.l0 (k + 1) y0 y1 y2 y3 y4 y5 y6 y7 y8)) ∧ (∀ y0 y1 y2 y3 y4 y5 y6, LeO (gamehalllaw1_NimsumTakes.l1 k y0 y1 y2 y3 y4 y5 y6) (gamehalllaw1_NimsumTakes.l1 (k + 1) y0 y1 y2 y3 y4 y5 y6))
  | 0 => ⟨fun _ _ r h => by simp [gamehalllaw1_NimsumTakes.j0] at h, fun _ _ _ _ _ r h => by simp [gamehalllaw1_NimsumTakes.j1] at h, fun _ _ _ _ _ _ _ _ _ r h => by simp [gamehalllaw1_NimsumTakes.l0] at h, fun _ _ _ _ _ _ _ r h => by simp [gamehalllaw1_NimsumTakes.l1] at h⟩
  | k + 1 => by
    obtain ⟨ih0, ih1, ih2, ih3⟩ := gamehalllaw1_NimsumTakes.mono_l k
    refine ⟨?_, ?_, ?_, ?_⟩
    · intro y0 y1
      unfold gamehalllaw1_NimsumTakes.j0
      repeat' first
      | (with_reducible exact ih0 _ _)
      | (with_reducible exact ih1 _ _ _ _ _)
      | (with_reducible exact ih2 _ _ _ _ _ _ _ _ _)
      | (with_reducible exact ih3 _ _ _ _ _ _ _)
      | (with_reducible exact nimsum_Sum.mono _ _)
      | (with_reducible exact nimsum_Take.mono _ _)
      | (with_reducible exact LeO.refl _)
      | (with_reducible exact LeO.none _)
      | (with_reducible refine LeO.ite ?_ ?_)
      | (with_reducible refine LeO.bind ?_ (fun _ => ?_))
      | exact ih0 _ _
      | exact ih1 _ _ _ _ _
      | exact ih2 _ _ _ _ _ _ _ _ _
      | exact ih3 _ _ _ _ _ _ _
      | exact nimsum_Sum.mono _ _
      | exact nimsum_Take.mono _ _
      | exact LeO.none _
      | refine LeO.ite ?_ ?_
      | refine LeO.bind ?_ (fun _ => ?_)
    · intro y0 y1 y2 y3 y4
      unfold gamehalllaw1_NimsumTakes.j1
      repeat' first
      | (with_reducible exact ih0 _ _)
      | (with_reducible exact ih1 _ _ _ _ _)
      | (with_reducible exact ih2 _ _ _ _ _ _ _ _ _)
      | (with_reducible exact ih3 _ _ _ _ _ _ _)
      | (with_reducible exact nimsum_Sum.mono _ _)
      | (with_reducible exact nimsum_Take.mono _ _)
      | (with_reducible exact LeO.refl _)
      | (with_reducible exact LeO.none _)
      | (with_reducible refine LeO.ite ?_ ?_)
      | (with_reducible refine LeO.bind ?_ (fun _ => ?_))
      | exact ih0 _ _
      | exact ih1 _ _ _ _ _
      | exact ih2 _ _ _ _ _ _ _ _ _
      | exact ih3 _ _ _ _ _ _ _
      | exact nimsum_Sum.mono _ _
      | exact nimsum_Take.mono _ _
      | exact LeO.none _
      | refine LeO.ite ?_ ?_
      | refine LeO.bind ?_ (fun _ => ?_)
    · intro y0 y1 y2 y3 y4 y5 y6 y7 y8
      unfold gamehalllaw1_NimsumTakes.l0
      repeat' first
      | (with_reducible exact ih0 _ _)
      | (with_reducible exact ih1 _ _ _ _ _)
      | (with_reducible exact ih2 _ _ _ _ _ _ _ _ _)
      | (with_reducible exact ih3 _ _ _ _ _ _ _)
      | (with_reducible exact nimsum_Sum.mono _ _)
      | (with_reducible exact nimsum_Take.mono _ _)
      | (with_reducible exact LeO.refl _)
      | (with_reducible exact LeO.none _)
      | (with_reducible refine LeO.ite ?_ ?_)
      | (with_reducible refine LeO.bind ?_ (fun _ => ?_))
      | exact ih0 _ _
      | exact ih1 _ _ _ _ _
      | exact ih2 _ _ _ _ _ _ _ _ _
      | exact ih3 _ _ _ _ _ _ _
      | exact nimsum_Sum.mono _ _
      | exact nimsum_Take.mono _ _
      | exact LeO.none _
      | refine LeO.ite ?_ ?_
      | refine LeO.bind ?_ (fun _ => ?_)
    · intro y0 y1 y2 y3 y4 y5 y6
      unfold gamehalllaw1_NimsumTakes.l1
      repeat' first
      | (with_reducible exact ih0 _ _)
      | (with_reducible exact ih1 _ _ _ _ _)
      | (with_reducible exact ih2 _ _ _ _ _ _ _ _ _)
      | (with_reducible exact ih3 _ _ _ _ _ _ _)
      | (with_reducible exact nimsum_Sum.mono _ _)
      | (with_reducible exact nimsum_Take.mono _ _)
      | (with_reducible exact LeO.refl _)
      | (with_reducible exact LeO.none _)
      | (with_reducible refine LeO.ite ?_ ?_)
      | (with_reducible refine LeO.bind ?_ (fun _ => ?_))
      | exact ih0 _ _
      | exact ih1 _ _ _ _ _
      | exact ih2 _ _ _ _ _ _ _ _ _
      | exact ih3 _ _ _ _ _ _ _
      | exact nimsum_Sum.mono _ _
      | exact nimsum_Take.mono _ _
      | exact LeO.none _
      | refine LeO.ite ?_ ?_
      | refine LeO.bind ?_ (fun _ => ?_)
theorem gamehalllaw1_NimsumTakes.mono : ∀ a0 k, LeO (gamehalllaw1_NimsumTakes.f k a0) (gamehalllaw1_NimsumTakes.f (k + 1) a0) := by
  intro a0 k
  obtain ⟨ih0, ih1, ih2, ih3⟩ := gamehalllaw1_NimsumTakes.mono_l k
  unfold gamehalllaw1_NimsumTakes.f
  repeat' first
      | (with_reducible exact ih0 _ _)
      | (with_reducible exact ih1 _ _ _ _ _)
      | (with_reducible exact ih2 _ _ _ _ _ _ _ _ _)
      | (with_reducible exact ih3 _ _ _ _ _ _ _)
      | (with_reducible exact nimsum_Sum.mono _ _)
      | (with_reducible exact nimsum_Take.mono _ _)
      | (with_reducible exact LeO.refl _)
      | (with_reducible exact LeO.none _)
      | (with_reducible refine LeO.ite ?_ ?_)
      | (with_reducible refine LeO.bind ?_ (fun _ => ?_))
      | exact ih0 _ _
      | exact ih1 _ _ _ _ _
      | exact ih2 _ _ _ _ _ _ _ _ _
      | exact ih3 _ _ _ _ _ _ _
      | exact nimsum_Sum.mono _ _
      | exact nimsum_Take.mono _ _
      | exact LeO.none _
      | refine LeO.ite ?_ ?_
      | refine LeO.bind ?_ (fun _ => ?_)
set_option maxHeartbeats 8000000 in
set_option maxRecDepth 100000 in
theorem gamehalllaw1_NimsumTakes.calls (k : Nat) (A0 : Option Addr) (c0 : Nat) (l0 : List Int) (r : Bool) (w : World) (hr0 : Kd.C (Kd.int .i64) w A0 l0.length l0) (hc0 : l0.length ≤ c0) (h : gamehalllaw1_NimsumTakes.f k l0 = some r) :
    Calls Try.prog 4 #[.slice A0 l0.length c0] w fun e w' => e = .returned (.bool r) ∧ Below w.heap.size w w' := by
  have HR0 := Aside0.mk hr0
  have HC0 := Aside0.mk hc0
  clear hr0 hc0
  have HB := Aside0.mk (Below.refl w.heap.size w)
  have H : ((nimsum_Take.f k (([1, 4] : List Int))).bind fun bt108 => (if bt108.2.2 = 0 then (if bt108.1 = 1 then (if bt108.2.1 = 1 then ((nimsum_Sum.f k (([5, 3] : List Int))).bind fun t114 => (gamehalllaw1_NimsumTakes.j0 k l0 (t114 != 6))) else (gamehalllaw1_NimsumTakes.j0 k l0 true)) else (gamehalllaw1_NimsumTakes.j0 k l0 true)) else (gamehalllaw1_NimsumTakes.j0 k l0 true))) = some r := h
  clear h
  obtain ⟨y105, hy105⟩ : ∃ y_ : List Int, y_ = (([1, 4] : List Int)) := ⟨_, rfl⟩
  replace H : ((nimsum_Take.f k y105).bind fun bt108 => (if bt108.2.2 = 0 then (if bt108.1 = 1 then (if bt108.2.1 = 1 then ((nimsum_Sum.f k (([5, 3] : List Int))).bind fun t114 => (gamehalllaw1_NimsumTakes.j0 k l0 (t114 != 6))) else (gamehalllaw1_NimsumTakes.j0 k l0 true)) else (gamehalllaw1_NimsumTakes.j0 k l0 true)) else (gamehalllaw1_NimsumTakes.j0 k l0 true))) = some r := by first | (rw [hy105]; with_reducible exact H) | (have H2_ := (Option.bind_some _ _).symm.trans H; rw [hy105]; with_reducible exact H2_) | (have H2_ := (Option.bind_some _ _).symm.trans H; with_reducible exact H2_) | with_reducible exact H | (rw [hy105]; exact H) | exact H
  have Ny105 := Aside0.mk hy105
  clear hy105
  replace H := Option.bind_eq_some_iff.mp H
  obtain ⟨⟨t108, t109, t110⟩, A20, H⟩ := H
  replace H : (if t110 = 0 then (if t108 = 1 then (if t109 = 1 then ((nimsum_Sum.f k (([5, 3] : List Int))).bind fun t114 => (gamehalllaw1_NimsumTakes.j0 k l0 (t114 != 6))) else (gamehalllaw1_NimsumTakes.j0 k l0 true)) else (gamehalllaw1_NimsumTakes.j0 k l0 true)) else (gamehalllaw1_NimsumTakes.j0 k l0 true)) = some r := H
  have A2 := Aside0.mk A20
  clear A20
  have HC3 := Aside0.mk H
  clear H
  go_enter Try.func4, Try.ntmps4
  go_upto_region 2 with (first | ((with_reducible refine gate_dst (N := 17) rfl ?_); (try (refine gate_guard (by rfl) ?_; dsimp only)); refine Kd.R_lit (Kd.int .i64) _ 3 ?hg (N := 17) ?hd (xs := ([1, 4] : List Int)) (inner := [.int .i64 1, .int .i64 4]) (ok := fun _ => True) (okp := fun _ => True) ?hr ?hp (fun _ hk => hk) trivial (Below.refl _ _) (Nat.le_refl _) (by simp) ?_; (case hd => rfl); (case hg => rfl); (case hr => first | (go_simp; done) | (go_simp; rfl)); (case hp => exact (Reps.one (show Kd.M (Kd.int .i64) _ _ _ 1 [.int .i64 1] from rfl) (Reps.one (show Kd.M (Kd.int .i64) _ _ _ 4 [.int .i64 4] from rfl) (Reps.none _ _)))); intro v106 w4 ho5 hb hg_ hnew_; clear hg_ hnew_; (first | rw [← Ny105.out] at ho5 | (simp only [Int.reduceToNat] at ho5; rw [← Ny105.out] at ho5)); have n0_ := Aside0.mk (Kd.R_lower ho5 (below_size (by repeat (first | (with_reducible first | exact HB.out | apply below_alloc | apply pw_below_drewN | apply below_drew1) | exact HB.out)))); have n1_ := Aside0.mk (below_step (by repeat (first | (with_reducible first | exact HB.out | apply below_alloc | apply pw_below_drewN | apply below_drew1) | exact HB.out)) hb); clear HB; have HO107 := n0_; have HB := n1_; clear n0_ n1_; clear hb ho5; obtain ⟨Ao6, co6, eo6⟩ := Kd.R_slice HO107.out; subst eo6) | ((with_reducible refine gate_callee (f := 13) rfl ?_); refine goesL_ (some 18) rfl rfl Try.func13 (by kernel_rfl) rfl #[.slice Ao6 y105.length co6] rfl (by (try simp only [List.map_toArray, List.map_cons, List.map_nil]); first | done | rfl | (simp only [List.length_drop, List.length_take]; rfl)) ?_; (with_reducible refine (nimsum_Take.calls k _ _ y105 t108 t109 t110 _ ?side1 ?side2 A2.out).mono ?_); (case side1 => repeat (first | exact (Kd.R_reads' HO107.out).2.2 | (with_reducible refine Kd.C_alloc ?_ _) | (with_reducible refine Kd.C_drewN ?_ _) | (with_reducible refine Kd.C_drew ?_))); (case side2 => exact (Kd.R_reads' HO107.out).2.1); rintro e w' ⟨rfl, ⟨nd, rfl⟩⟩; refine ⟨_, rfl, ?_⟩))
  (try simp only [Act.put, List.setIfInBounds_toArray, List.set_cons_zero, List.set_cons_succ])
  go_cut [36] (fun v36 wc => ∃ (kq : Nat) (x36_2 : Bool), v36 = .bool x36_2 ∧ Aside0 (gamehalllaw1_NimsumTakes.j0 kq l0 x36_2 = some r) ∧ Aside0 (kq ≤ k) ∧ Aside0 (Below w.heap.size w wc))
  case first =>
    have H := HC3.out
    clear HC3
    by_cases c7 : t110 = 0
    · rw [if_pos c7] at H
      have c7b0 : (t110 == 0) = true := beq_iff_eq.mpr c7
      have c7b1 : (t110 != 0) = false := bne_eq_false_iff_eq.mpr c7
      clear c7
      (first | rw [c7b0] | (simp only [i64_w, i32_w]; rw [c7b0]) | skip)
      by_cases c8 : t108 = 1
      · rw [if_pos c8] at H
        have c8b0 : (t108 == 1) = true := beq_iff_eq.mpr c8
        have c8b1 : (t108 != 1) = false := bne_eq_false_iff_eq.mpr c8
        clear c8
        by_cases c9 : t109 = 1
        · rw [if_pos c9] at H
          have c9b0 : (t109 == 1) = true := beq_iff_eq.mpr c9
          have c9b1 : (t109 != 1) = false := bne_eq_false_iff_eq.mpr c9
          clear c9
          obtain ⟨y111, hy111⟩ : ∃ y_ : List Int, y_ = (([5, 3] : List Int)) := ⟨_, rfl⟩
          replace H : ((nimsum_Sum.f k y111).bind fun t114 => (gamehalllaw1_NimsumTakes.j0 k l0 (t114 != 6))) = some r := by first | (rw [hy111]; with_reducible exact H) | (have H2_ := (Option.bind_some _ _).symm.trans H; rw [hy111]; with_reducible exact H2_) | (have H2_ := (Option.bind_some _ _).symm.trans H; with_reducible exact H2_) | with_reducible exact H | (rw [hy111]; exact H) | exact H
          have Ny111 := Aside0.mk hy111
          clear hy111
          replace H := Option.bind_eq_some_iff.mp H
          obtain ⟨t114, A100, H⟩ := H
          replace H : (gamehalllaw1_NimsumTakes.j0 k l0 (t114 != 6)) = some r := H
          have A10 := Aside0.mk A100
          clear A100
          have H' := Aside0.mk H
          clear H
          go_wp2_with (first | ((with_reducible refine gate_dst (N := 33) rfl ?_); (try (refine gate_guard (by rfl) ?_; dsimp only)); refine Kd.R_lit (Kd.int .i64) _ 3 ?hg (N := 33) ?hd (xs := ([5, 3] : List Int)) (inner := [.int .i64 5, .int .i64 3]) (ok := fun _ => True) (okp := fun _ => True) ?hr ?hp (fun _ hk => hk) trivial (Below.refl _ _) (Nat.le_refl _) (by simp) ?_; (case hd => rfl); (case hg => rfl); (case hr => first | (go_simp; done) | (go_simp; rfl)); (case hp => exact (Reps.one (show Kd.M (Kd.int .i64) _ _ _ 5 [.int .i64 5] from rfl) (Reps.one (show Kd.M (Kd.int .i64) _ _ _ 3 [.int .i64 3] from rfl) (Reps.none _ _)))); intro v112 w11 ho12 hb hg_ hnew_; clear hg_ hnew_; (first | rw [← Ny111.out] at ho12 | (simp only [Int.reduceToNat] at ho12; rw [← Ny111.out] at ho12)); have n0_ := Aside0.mk (Kd.R_elder' (by (with_reducible repeat (first | apply Kd.R_alloc | apply Kd.R_drewN | apply Kd.R_drew)); exact HO107.out) (Kd.R_base ho12) hb); have n1_ := Aside0.mk (Kd.R_lower (Kd.R_new' ho12 (Kd.R_lt (by (with_reducible repeat (first | apply Kd.R_alloc | apply Kd.R_drewN | apply Kd.R_drew)); exact HO107.out))) (below_size (by repeat (first | (with_reducible first | exact HB.out | apply below_alloc | apply pw_below_drewN | apply below_drew1) | exact HB.out)))); have n2_ := Aside0.mk (below_step (by repeat (first | (with_reducible first | exact HB.out | apply below_alloc | apply pw_below_drewN | apply below_drew1) | exact HB.out)) hb); clear HO107; clear HB; have HO107 := n0_; have HO113 := n1_; have HB := n2_; clear n0_ n1_ n2_; clear hb ho12; obtain ⟨Ao13, co13, eo13⟩ := Kd.R_slice HO113.out; subst eo13) | (go_at_call 14; (with_reducible refine (nimsum_Sum.calls k _ _ y111 t114 _ ?side1 ?side2 A10.out).mono ?_); (case side1 => repeat (first | exact (Kd.R_reads' HO113.out).2.2 | (with_reducible refine Kd.C_alloc ?_ _) | (with_reducible refine Kd.C_drewN ?_ _) | (with_reducible refine Kd.C_drew ?_))); (case side2 => exact (Kd.R_reads' HO113.out).2.1); rintro e w' ⟨rfl, ⟨nd, rfl⟩⟩))
          go_meet
          case rel => exact ⟨_, ((t114 != 6)), (by first | rfl | (simp; done) | (simp [*]; done)), H', ⟨by first | omega | exact Nat.le_refl _⟩, ⟨by repeat (first | (with_reducible first | exact HB.out | apply below_alloc | apply pw_below_drewN | apply below_drew1) | exact HB.out)⟩⟩
        · rw [if_neg c9] at H
          have c9b0 : (t109 == 1) = false := beq_eq_false_iff_ne.mpr c9
          have c9b1 : (t109 != 1) = true := bne_iff_ne.mpr c9
          have H' := Aside0.mk H
          clear H
          go_wp2
          go_meet
          case rel => exact ⟨_, (true), (by first | rfl | (simp; done) | (simp [*]; done)), H', ⟨by first | omega | exact Nat.le_refl _⟩, ⟨by repeat (first | (with_reducible first | exact HB.out | apply below_alloc | apply pw_below_drewN | apply below_drew1) | exact HB.out)⟩⟩
      · rw [if_neg c8] at H
        have c8b0 : (t108 == 1) = false := beq_eq_false_iff_ne.mpr c8
        have c8b1 : (t108 != 1) = true := bne_iff_ne.mpr c8
        have H' := Aside0.mk H
        clear H
        go_wp2
        go_meet
        case rel => exact ⟨_, (true), (by first | rfl | (simp; done) | (simp [*]; done)), H', ⟨by first | omega | exact Nat.le_refl _⟩, ⟨by repeat (first | (with_reducible first | exact HB.out | apply below_alloc | apply pw_below_drewN | apply below_drew1) | exact HB.out)⟩⟩
    · rw [if_neg c7] at H
      have c7b0 : (t110 == 0) = false := beq_eq_false_iff_ne.mpr c7
      have c7b1 : (t110 != 0) = true := bne_iff_ne.mpr c7
      (first | rw [c7b0] | (simp only [i64_w, i32_w]; rw [c7b0]) | skip)
      have H' := Aside0.mk H
      clear H
      go_wp2
      go_meet
      case rel => exact ⟨_, (true), (by first | rfl | (simp; done) | (simp [*]; done)), H', ⟨by first | omega | exact Nat.le_refl _⟩, ⟨by repeat (first | (with_reducible first | exact HB.out | apply below_alloc | apply pw_below_drewN | apply below_drew1) | exact HB.out)⟩⟩
  case rest =>
    clear HC3
    try clear c1
    try clear p2
    try clear c4
    try clear c7
    try clear c7b0
    try clear c7b1
    try clear c8
    try clear c8b0
    try clear c8b1
    try clear c9
    try clear c9b0
    try clear c9b1
    try clear c13
    obtain ⟨kq, x36_2, rfl, HA, HJ2, HB⟩ := hcut
    cases kq with
    | zero => exact absurd HA.out (by simp [gamehalllaw1_NimsumTakes.j0])
    | succ kj2 =>
      have H := HA.out
      clear HA
      simp only [gamehalllaw1_NimsumTakes.j0] at H
      by_cases c14 : x36_2 = true
      · subst c14
        have H1 : (some false) = some r := by rw [if_pos rfl] at H; exact H
        clear H
        have H := H1
        clear H1
        obtain rfl := Option.some.inj H
        go_wp2
        go_ret
        exact ⟨by first | rfl | (simp [errW_none, errW_some] <;> rfl) | (simp [*, errW_none, errW_some] <;> rfl), by repeat (first | (with_reducible first | exact HB.out | apply below_alloc | apply pw_below_drewN | apply below_drew1) | exact HB.out)⟩
      · replace c14 := Bool.eq_false_iff.mpr c14
        subst c14
        have H1 : ((nimsum_Take.f kj2 l0).bind fun bt115 => (if (l0.length : Int) > 256 then (gamehalllaw1_NimsumTakes.j1 kj2 l0 bt115.1 bt115.2.1 bt115.2.2 2) else (gamehalllaw1_NimsumTakes.j1 kj2 l0 bt115.1 bt115.2.1 bt115.2.2 0))) = some r := by rw [if_neg (show ¬ (false = true) by decide)] at H; exact H
        clear H
        have H := H1
        clear H1
        replace H := Option.bind_eq_some_iff.mp H
        obtain ⟨⟨t115, t116, t117⟩, A150, H⟩ := H
        replace H : (if (l0.length : Int) > 256 then (gamehalllaw1_NimsumTakes.j1 kj2 l0 t115 t116 t117 2) else (gamehalllaw1_NimsumTakes.j1 kj2 l0 t115 t116 t117 0)) = some r := H
        have A15 := Aside0.mk A150
        clear A150
        have HC16 := Aside0.mk H
        clear H
        go_upto_if 45 with (first | ((with_reducible refine gate_callee (f := 13) rfl ?_); refine goesL_ (some 39) rfl rfl Try.func13 (by kernel_rfl) rfl #[.slice A0 l0.length c0] rfl (by (try simp only [List.map_toArray, List.map_cons, List.map_nil]); first | done | rfl | (simp only [List.length_drop, List.length_take]; rfl)) ?_; (with_reducible refine (nimsum_Take.calls kj2 _ _ l0 t115 t116 t117 _ ?side1 ?side2 A15.out).mono ?_); (case side1 => repeat (first | exact (Kd.C_below HR0.out HB.out) | (with_reducible refine Kd.C_alloc ?_ _) | (with_reducible refine Kd.C_drewN ?_ _) | (with_reducible refine Kd.C_drew ?_))); (case side2 => exact HC0.out); rintro e w' ⟨rfl, ⟨nd, rfl⟩⟩; refine ⟨_, rfl, ?_⟩))
        (try simp only [Act.put, List.setIfInBounds_toArray, List.set_cons_zero, List.set_cons_succ])
        go_cut [9] (fun v9 wc => ∃ (kq : Nat) (x9_15 : Int), v9 = .int .i64 x9_15 ∧ Aside0 (gamehalllaw1_NimsumTakes.j1 kq l0 t115 t116 t117 x9_15 = some r) ∧ Aside0 (kq ≤ kj2) ∧ Aside0 (Below w.heap.size w wc))
        case first =>
          have H := HC16.out
          clear HC16
          by_cases c17 : (l0.length : Int) > 256
          · rw [if_pos c17] at H
            have c17b0 : decide (256 < (l0.length : Int)) = true := decide_eq_true c17
            have c17b1 : decide (256 < l0.length) = true := decide_eq_true (by omega)
            clear c17
            (first | rw [c17b0] | (simp only [i64_w, i32_w]; rw [c17b0]) | skip)
            have H' := Aside0.mk H
            clear H
            go_wp2
            go_meet
            case rel => exact ⟨_, (2), (by first | rfl | (simp; done) | (simp [*]; done)), H', ⟨by have := HJ2.out; first | omega | exact Nat.le_refl _⟩, ⟨by repeat (first | (with_reducible first | exact HB.out | apply below_alloc | apply pw_below_drewN | apply below_drew1) | exact HB.out)⟩⟩
          · rw [if_neg c17] at H
            have c17b0 : decide (256 < (l0.length : Int)) = false := decide_eq_false c17
            have c17b1 : decide (256 < l0.length) = false := decide_eq_false (by omega)
            clear c17
            (first | rw [c17b0] | (simp only [i64_w, i32_w]; rw [c17b0]) | skip)
            have H' := Aside0.mk H
            clear H
            go_wp2
            go_meet
            case rel => exact ⟨_, (0), (by first | rfl | (simp; done) | (simp [*]; done)), H', ⟨by have := HJ2.out; first | omega | exact Nat.le_refl _⟩, ⟨by repeat (first | (with_reducible first | exact HB.out | apply below_alloc | apply pw_below_drewN | apply below_drew1) | exact HB.out)⟩⟩
        case rest =>
          clear HC16
          try clear c1
          try clear p2
          try clear c4
          try clear c7
          try clear c7b0
          try clear c7b1
          try clear c8
          try clear c8b0
          try clear c8b1
          try clear c9
          try clear c9b0
          try clear c9b1
          try clear c13
          try clear c14
          try clear c17
          try clear c17b0
          try clear c17b1
          try clear p2
          obtain ⟨kq, x9_15, rfl, HA, HJ15, HB⟩ := hcut
          cases kq with
          | zero => exact absurd HA.out (by simp [gamehalllaw1_NimsumTakes.j1])
          | succ kj15 =>
            have H := HA.out
            clear HA
            simp only [gamehalllaw1_NimsumTakes.j1] at H
            have H' := Aside0.mk H
            clear H
            go_wp2
            go_loopg [9, 10, 48] kj15 (fun kq v9 v10 v48 w' => ∃ (x9_3 : Int) (x10_3 : Int) (x48_3 : Int), v9 = .int .i64 x9_3 ∧ v10 = .int .i64 x10_3 ∧ v48 = .int .i64 x48_3 ∧ Aside0 (gamehalllaw1_NimsumTakes.l0 kq l0 t115 t116 t117 x9_3 x10_3 l0 (l0.length : Int) x48_3 = some r) ∧ Aside0 (kq ≤ kj15) ∧ Aside0 (Below w.heap.size w w'))
            case atStart => exact ⟨(x9_15), (0), (0), (by first | rfl | (simp; done) | (simp [*]; done)), (by first | rfl | (simp; done) | (simp [*]; done)), (by first | rfl | (simp; done) | (simp [*]; done)), H', ⟨Nat.le_refl _⟩, ⟨by repeat (first | (with_reducible first | exact HB.out | apply below_alloc | apply pw_below_drewN | apply below_drew1) | exact HB.out)⟩⟩
            case round =>
              clear H'
              try clear c1
              try clear p2
              try clear c4
              try clear c7
              try clear c7b0
              try clear c7b1
              try clear c8
              try clear c8b0
              try clear c8b1
              try clear c9
              try clear c9b0
              try clear c9b1
              try clear c13
              try clear c14
              try clear c17
              try clear c17b0
              try clear c17b1
              try clear p2
              obtain ⟨x9_3, x10_3, x48_3, rfl, rfl, rfl, HA, HK3, HB⟩ := hrel
              cases gk with
              | zero => exact absurd HA.out (by simp [gamehalllaw1_NimsumTakes.l0])
              | succ k3 =>
                have H := HA.out
                clear HA
                simp only [gamehalllaw1_NimsumTakes.l0] at H
                by_cases c18 : x48_3 < (l0.length : Int)
                · rw [if_pos c18] at H
                  have c18b0 : decide (x48_3 < (l0.length : Int)) = true := decide_eq_true c18
                  clear c18
                  by_cases c19 : 0 ≤ x48_3
                  · rw [if_pos c19] at H
                    have c19b0 : decide (0 ≤ x48_3) = true := decide_eq_true c19
                    clear c19
                    by_cases c20 : x48_3 < (l0.length : Int)
                    · rw [if_pos c20] at H
                      have c20b0 : decide (x48_3 < (l0.length : Int)) = true := decide_eq_true c20
                      clear c20
                      by_cases c21 : x9_3 = 0
                      · rw [if_pos c21] at H
                        have c21b0 : (x9_3 == 0) = true := beq_iff_eq.mpr c21
                        have c21b1 : (x9_3 != 0) = false := bne_eq_false_iff_eq.mpr c21
                        clear c21
                        replace H := Option.bind_eq_some_iff.mp H
                        obtain ⟨t119, A220, H⟩ := H
                        replace H : (if t119 = true then (gamehalllaw1_NimsumTakes.l0 k3 l0 t115 t116 t117 x9_3 (Go.bits .xor .i64 x10_3 (rd l0 x48_3)) l0 (l0.length : Int) (wrap64 (x48_3 + 1))) else (gamehalllaw1_NimsumTakes.l0 k3 l0 t115 t116 t117 4 (Go.bits .xor .i64 x10_3 (rd l0 x48_3)) l0 (l0.length : Int) (wrap64 (x48_3 + 1)))) = some r := H
                        have A22 := Aside0.mk A220
                        clear A220
                        by_cases c23 : t119 = true
                        · subst c23
                          have H1 : (gamehalllaw1_NimsumTakes.l0 k3 l0 t115 t116 t117 x9_3 (Go.bits .xor .i64 x10_3 (rd l0 x48_3)) l0 (l0.length : Int) (wrap64 (x48_3 + 1))) = some r := by rw [if_pos rfl] at H; exact H
                          clear H
                          have H := H1
                          clear H1
                          have H' := Aside0.mk H
                          clear H
                          have p118 : 0 ≤ (x48_3 : Int) := of_decide_eq_true (by first | (with_reducible assumption) | assumption)
                          have q118 : x48_3 < (l0.length : Int) := of_decide_eq_true (by first | (with_reducible assumption) | assumption)
                          obtain ⟨ad118, e118, hx118_0⟩ := Kd.at_int HR0.out x48_3 p118 q118
                          cases e118
                          replace hx118_0 := (HB.out.cell (World.block_lt_of_cell? w _ hx118_0)).trans hx118_0
                          replace p118 := eq_true p118
                          replace q118 := eq_true q118
                          go_wp2_with (first | (go_at_call 15; (with_reducible refine (gamehallref1_In.calls (rd l0 x48_3) 0 100000000 true _ A22.out).mono ?_); rintro e w' ⟨rfl, ⟨nd, rfl⟩⟩))
                          go_roundg k3
                          case measure => have := HJ2.out; have := HJ15.out; have := HK3.out; omega
                          case rel => exact ⟨(x9_3), (Go.bits .xor .i64 x10_3 (rd l0 x48_3)), (wrap64 (x48_3 + 1)), (by first | rfl | (simp; done) | (simp [*]; done)), (by first | rfl | (simp; done) | (simp [*]; done)), (by first | rfl | (simp; done) | (simp [*]; done)), H', ⟨by have := HJ2.out; have := HJ15.out; have := HK3.out; omega⟩, ⟨by repeat (first | (with_reducible first | exact HB.out | apply below_alloc | apply pw_below_drewN | apply below_drew1) | exact HB.out)⟩⟩
                        · replace c23 := Bool.eq_false_iff.mpr c23
                          subst c23
                          have H1 : (gamehalllaw1_NimsumTakes.l0 k3 l0 t115 t116 t117 4 (Go.bits .xor .i64 x10_3 (rd l0 x48_3)) l0 (l0.length : Int) (wrap64 (x48_3 + 1))) = some r := by rw [if_neg (show ¬ (false = true) by decide)] at H; exact H
                          clear H
                          have H := H1
                          clear H1
                          have H' := Aside0.mk H
                          clear H
                          have p118 : 0 ≤ (x48_3 : Int) := of_decide_eq_true (by first | (with_reducible assumption) | assumption)
                          have q118 : x48_3 < (l0.length : Int) := of_decide_eq_true (by first | (with_reducible assumption) | assumption)
                          obtain ⟨ad118, e118, hx118_0⟩ := Kd.at_int HR0.out x48_3 p118 q118
                          cases e118
                          replace hx118_0 := (HB.out.cell (World.block_lt_of_cell? w _ hx118_0)).trans hx118_0
                          replace p118 := eq_true p118
                          replace q118 := eq_true q118
                          go_wp2_with (first | (go_at_call 15; (with_reducible refine (gamehallref1_In.calls (rd l0 x48_3) 0 100000000 false _ A22.out).mono ?_); rintro e w' ⟨rfl, ⟨nd, rfl⟩⟩))
                          go_roundg k3
                          case measure => have := HJ2.out; have := HJ15.out; have := HK3.out; omega
                          case rel => exact ⟨(4), (Go.bits .xor .i64 x10_3 (rd l0 x48_3)), (wrap64 (x48_3 + 1)), (by first | rfl | (simp; done) | (simp [*]; done)), (by first | rfl | (simp; done) | (simp [*]; done)), (by first | rfl | (simp; done) | (simp [*]; done)), H', ⟨by have := HJ2.out; have := HJ15.out; have := HK3.out; omega⟩, ⟨by repeat (first | (with_reducible first | exact HB.out | apply below_alloc | apply pw_below_drewN | apply below_drew1) | exact HB.out)⟩⟩
                      · rw [if_neg c21] at H
                        have c21b0 : (x9_3 == 0) = false := beq_eq_false_iff_ne.mpr c21
                        have c21b1 : (x9_3 != 0) = true := bne_iff_ne.mpr c21
                        have H' := Aside0.mk H
                        clear H
                        have p118 : 0 ≤ (x48_3 : Int) := of_decide_eq_true (by first | (with_reducible assumption) | assumption)
                        have q118 : x48_3 < (l0.length : Int) := of_decide_eq_true (by first | (with_reducible assumption) | assumption)
                        obtain ⟨ad118, e118, hx118_0⟩ := Kd.at_int HR0.out x48_3 p118 q118
                        cases e118
                        replace hx118_0 := (HB.out.cell (World.block_lt_of_cell? w _ hx118_0)).trans hx118_0
                        replace p118 := eq_true p118
                        replace q118 := eq_true q118
                        go_wp2
                        go_roundg k3
                        case measure => have := HJ2.out; have := HJ15.out; have := HK3.out; omega
                        case rel => exact ⟨(x9_3), (Go.bits .xor .i64 x10_3 (rd l0 x48_3)), (wrap64 (x48_3 + 1)), (by first | rfl | (simp; done) | (simp [*]; done)), (by first | rfl | (simp; done) | (simp [*]; done)), (by first | rfl | (simp; done) | (simp [*]; done)), H', ⟨by have := HJ2.out; have := HJ15.out; have := HK3.out; omega⟩, ⟨by repeat (first | (with_reducible first | exact HB.out | apply below_alloc | apply pw_below_drewN | apply below_drew1) | exact HB.out)⟩⟩
                    · rw [if_neg c20] at H
                      exact absurd H (by simp)
                  · rw [if_neg c19] at H
                    exact absurd H (by simp)
                · rw [if_neg c18] at H
                  have c18b0 : decide (x48_3 < (l0.length : Int)) = false := decide_eq_false c18
                  clear c18
                  by_cases c24 : x9_3 = 0
                  · rw [if_pos c24] at H
                    have c24b0 : (x9_3 == 0) = true := beq_iff_eq.mpr c24
                    have c24b1 : (x9_3 != 0) = false := bne_eq_false_iff_eq.mpr c24
                    clear c24
                    replace H := Option.bind_eq_some_iff.mp H
                    obtain ⟨t120, A250, H⟩ := H
                    replace H : (if t120 = x10_3 then (gamehalllaw1_NimsumTakes.l1 k3 t115 t116 t117 x10_3 l0 (l0.length : Int) 0) else (some false)) = some r := H
                    have A25 := Aside0.mk A250
                    clear A250
                    by_cases c26 : t120 = x10_3
                    · rw [if_pos c26] at H
                      have c26b0 : (t120 == x10_3) = true := beq_iff_eq.mpr c26
                      have c26b1 : (t120 != x10_3) = false := bne_eq_false_iff_eq.mpr c26
                      clear c26
                      have H' := Aside0.mk H
                      clear H
                      go_wp2_with (first | ((with_reducible refine gate_callee (f := 14) rfl ?_); refine goesL_ (some 77) rfl rfl Try.func14 (by kernel_rfl) rfl #[.slice A0 l0.length c0] rfl (by (try simp only [List.map_toArray, List.map_cons, List.map_nil]); first | done | rfl | (simp only [List.length_drop, List.length_take]; rfl)) ?_; (with_reducible refine (nimsum_Sum.calls k3 _ _ l0 t120 _ ?side1 ?side2 A25.out).mono ?_); (case side1 => repeat (first | exact (Kd.C_below HR0.out HB.out) | (with_reducible refine Kd.C_alloc ?_ _) | (with_reducible refine Kd.C_drewN ?_ _) | (with_reducible refine Kd.C_drew ?_))); (case side2 => exact HC0.out); rintro e w' ⟨rfl, ⟨nd, rfl⟩⟩; refine ⟨_, rfl, ?_⟩))
                      go_loopg [82] k3 (fun kq v82 w' => ∃ (x82_4 : Int), v82 = .int .i64 x82_4 ∧ Aside0 (gamehalllaw1_NimsumTakes.l1 kq t115 t116 t117 x10_3 l0 (l0.length : Int) x82_4 = some r) ∧ Aside0 (kq ≤ k3) ∧ Aside0 (Below w.heap.size w w'))
                      case atStart => exact ⟨(0), (by first | rfl | (simp; done) | (simp [*]; done)), H', ⟨Nat.le_refl _⟩, ⟨by repeat (first | (with_reducible first | exact HB.out | apply below_alloc | apply pw_below_drewN | apply below_drew1) | exact HB.out)⟩⟩
                      case round =>
                        clear H'
                        try clear c1
                        try clear p1
                        try clear q1
                        try clear hx1
                        try clear c2
                        try clear p2
                        try clear c4
                        try clear p6
                        try clear c7
                        try clear c7b0
                        try clear c7b1
                        try clear c8
                        try clear c8b0
                        try clear c8b1
                        try clear c9
                        try clear c9b0
                        try clear c9b1
                        try clear p11
                        try clear q11
                        try clear hx11
                        try clear c13
                        try clear c14
                        try clear c17
                        try clear c17b0
                        try clear c17b1
                        try clear c18
                        try clear c18b0
                        try clear c19
                        try clear c19b0
                        try clear c20
                        try clear c20b0
                        try clear c21
                        try clear c21b0
                        try clear c21b1
                        try clear c23
                        try clear c24
                        try clear c24b0
                        try clear c24b1
                        try clear c26
                        try clear c26b0
                        try clear c26b1
                        try clear hx118_0
                        try clear p118
                        try clear p2
                        try clear q118
                        obtain ⟨x82_4, rfl, HA, HK4, HB⟩ := hrel
                        cases gk with
                        | zero => exact absurd HA.out (by simp [gamehalllaw1_NimsumTakes.l1])
                        | succ k4 =>
                          have H := HA.out
                          clear HA
                          simp only [gamehalllaw1_NimsumTakes.l1] at H
                          by_cases c27 : x82_4 < (l0.length : Int)
                          · rw [if_pos c27] at H
                            have c27b0 : decide (x82_4 < (l0.length : Int)) = true := decide_eq_true c27
                            clear c27
                            by_cases c28 : 0 ≤ x82_4
                            · rw [if_pos c28] at H
                              have c28b0 : decide (0 ≤ x82_4) = true := decide_eq_true c28
                              clear c28
                              by_cases c29 : x82_4 < (l0.length : Int)
                              · rw [if_pos c29] at H
                                have c29b0 : decide (x82_4 < (l0.length : Int)) = true := decide_eq_true c29
                                clear c29
                                by_cases c30 : (Go.bits .xor .i64 x10_3 (rd l0 x82_4)) < (rd l0 x82_4)
                                · rw [if_pos c30] at H
                                  have c30b0 : decide ((Go.bits .xor .i64 x10_3 (rd l0 x82_4)) < (rd l0 x82_4)) = true := decide_eq_true c30
                                  clear c30
                                  by_cases c31 : t117 = 0
                                  · rw [if_pos c31] at H
                                    have c31b0 : (t117 == 0) = true := beq_iff_eq.mpr c31
                                    have c31b1 : (t117 != 0) = false := bne_eq_false_iff_eq.mpr c31
                                    clear c31
                                    by_cases c32 : t115 = x82_4
                                    · rw [if_pos c32] at H
                                      have c32b0 : (t115 == x82_4) = true := beq_iff_eq.mpr c32
                                      have c32b1 : (t115 != x82_4) = false := bne_eq_false_iff_eq.mpr c32
                                      clear c32
                                      obtain rfl := Option.some.inj H
                                      have p121 : 0 ≤ (x82_4 : Int) := of_decide_eq_true (by first | (with_reducible assumption) | assumption)
                                      have q121 : x82_4 < (l0.length : Int) := of_decide_eq_true (by first | (with_reducible assumption) | assumption)
                                      obtain ⟨ad121, e121, hx121_0⟩ := Kd.at_int HR0.out x82_4 p121 q121
                                      cases e121
                                      replace hx121_0 := (HB.out.cell (World.block_lt_of_cell? w _ hx121_0)).trans hx121_0
                                      replace p121 := eq_true p121
                                      replace q121 := eq_true q121
                                      go_wp2
                                      go_ret
                                      exact ⟨by first | rfl | (simp [errW_none, errW_some] <;> rfl) | (simp [*, errW_none, errW_some] <;> rfl), by repeat (first | (with_reducible first | exact HB.out | apply below_alloc | apply pw_below_drewN | apply below_drew1) | exact HB.out)⟩
                                    · rw [if_neg c32] at H
                                      have c32b0 : (t115 == x82_4) = false := beq_eq_false_iff_ne.mpr c32
                                      have c32b1 : (t115 != x82_4) = true := bne_iff_ne.mpr c32
                                      obtain rfl := Option.some.inj H
                                      have p121 : 0 ≤ (x82_4 : Int) := of_decide_eq_true (by first | (with_reducible assumption) | assumption)
                                      have q121 : x82_4 < (l0.length : Int) := of_decide_eq_true (by first | (with_reducible assumption) | assumption)
                                      obtain ⟨ad121, e121, hx121_0⟩ := Kd.at_int HR0.out x82_4 p121 q121
                                      cases e121
                                      replace hx121_0 := (HB.out.cell (World.block_lt_of_cell? w _ hx121_0)).trans hx121_0
                                      replace p121 := eq_true p121
                                      replace q121 := eq_true q121
                                      go_wp2
                                      go_ret
                                      exact ⟨by first | rfl | (simp [errW_none, errW_some] <;> rfl) | (simp [*, errW_none, errW_some] <;> rfl), by repeat (first | (with_reducible first | exact HB.out | apply below_alloc | apply pw_below_drewN | apply below_drew1) | exact HB.out)⟩
                                  · rw [if_neg c31] at H
                                    have c31b0 : (t117 == 0) = false := beq_eq_false_iff_ne.mpr c31
                                    have c31b1 : (t117 != 0) = true := bne_iff_ne.mpr c31
                                    obtain rfl := Option.some.inj H
                                    have p121 : 0 ≤ (x82_4 : Int) := of_decide_eq_true (by first | (with_reducible assumption) | assumption)
                                    have q121 : x82_4 < (l0.length : Int) := of_decide_eq_true (by first | (with_reducible assumption) | assumption)
                                    obtain ⟨ad121, e121, hx121_0⟩ := Kd.at_int HR0.out x82_4 p121 q121
                                    cases e121
                                    replace hx121_0 := (HB.out.cell (World.block_lt_of_cell? w _ hx121_0)).trans hx121_0
                                    replace p121 := eq_true p121
                                    replace q121 := eq_true q121
                                    go_wp2
                                    go_ret
                                    exact ⟨by first | rfl | (simp [errW_none, errW_some] <;> rfl) | (simp [*, errW_none, errW_some] <;> rfl), by repeat (first | (with_reducible first | exact HB.out | apply below_alloc | apply pw_below_drewN | apply below_drew1) | exact HB.out)⟩
                                · rw [if_neg c30] at H
                                  have c30b0 : decide ((Go.bits .xor .i64 x10_3 (rd l0 x82_4)) < (rd l0 x82_4)) = false := decide_eq_false c30
                                  clear c30
                                  have H' := Aside0.mk H
                                  clear H
                                  have p121 : 0 ≤ (x82_4 : Int) := of_decide_eq_true (by first | (with_reducible assumption) | assumption)
                                  have q121 : x82_4 < (l0.length : Int) := of_decide_eq_true (by first | (with_reducible assumption) | assumption)
                                  obtain ⟨ad121, e121, hx121_0⟩ := Kd.at_int HR0.out x82_4 p121 q121
                                  cases e121
                                  replace hx121_0 := (HB.out.cell (World.block_lt_of_cell? w _ hx121_0)).trans hx121_0
                                  replace p121 := eq_true p121
                                  replace q121 := eq_true q121
                                  go_wp2
                                  go_roundg k4
                                  case measure => have := HJ2.out; have := HJ15.out; have := HK3.out; have := HK4.out; omega
                                  case rel => exact ⟨(wrap64 (x82_4 + 1)), (by first | rfl | (simp; done) | (simp [*]; done)), H', ⟨by have := HJ2.out; have := HJ15.out; have := HK3.out; have := HK4.out; omega⟩, ⟨by repeat (first | (with_reducible first | exact HB.out | apply below_alloc | apply pw_below_drewN | apply below_drew1) | exact HB.out)⟩⟩
                              · rw [if_neg c29] at H
                                exact absurd H (by simp)
                            · rw [if_neg c28] at H
                              exact absurd H (by simp)
                          · rw [if_neg c27] at H
                            have c27b0 : decide (x82_4 < (l0.length : Int)) = false := decide_eq_false c27
                            clear c27
                            by_cases c33 : t117 = 8
                            · rw [if_pos c33] at H
                              have c33b0 : (t117 == 8) = true := beq_iff_eq.mpr c33
                              have c33b1 : (t117 != 8) = false := bne_eq_false_iff_eq.mpr c33
                              clear c33
                              by_cases c34 : t115 = 0
                              · rw [if_pos c34] at H
                                have c34b0 : (t115 == 0) = true := beq_iff_eq.mpr c34
                                have c34b1 : (t115 != 0) = false := bne_eq_false_iff_eq.mpr c34
                                clear c34
                                obtain rfl := Option.some.inj H
                                go_wp2
                                go_ret
                                exact ⟨by first | rfl | (simp [errW_none, errW_some] <;> rfl) | (simp [*, errW_none, errW_some] <;> rfl), by repeat (first | (with_reducible first | exact HB.out | apply below_alloc | apply pw_below_drewN | apply below_drew1) | exact HB.out)⟩
                              · rw [if_neg c34] at H
                                have c34b0 : (t115 == 0) = false := beq_eq_false_iff_ne.mpr c34
                                have c34b1 : (t115 != 0) = true := bne_iff_ne.mpr c34
                                obtain rfl := Option.some.inj H
                                go_wp2
                                go_ret
                                exact ⟨by first | rfl | (simp [errW_none, errW_some] <;> rfl) | (simp [*, errW_none, errW_some] <;> rfl), by repeat (first | (with_reducible first | exact HB.out | apply below_alloc | apply pw_below_drewN | apply below_drew1) | exact HB.out)⟩
                            · rw [if_neg c33] at H
                              have c33b0 : (t117 == 8) = false := beq_eq_false_iff_ne.mpr c33
                              have c33b1 : (t117 != 8) = true := bne_iff_ne.mpr c33
                              obtain rfl := Option.some.inj H
                              go_wp2
                              go_ret
                              exact ⟨by first | rfl | (simp [errW_none, errW_some] <;> rfl) | (simp [*, errW_none, errW_some] <;> rfl), by repeat (first | (with_reducible first | exact HB.out | apply below_alloc | apply pw_below_drewN | apply below_drew1) | exact HB.out)⟩
                    · rw [if_neg c26] at H
                      have c26b0 : (t120 == x10_3) = false := beq_eq_false_iff_ne.mpr c26
                      have c26b1 : (t120 != x10_3) = true := bne_iff_ne.mpr c26
                      obtain rfl := Option.some.inj H
                      go_wp2_with (first | ((with_reducible refine gate_callee (f := 14) rfl ?_); refine goesL_ (some 77) rfl rfl Try.func14 (by kernel_rfl) rfl #[.slice A0 l0.length c0] rfl (by (try simp only [List.map_toArray, List.map_cons, List.map_nil]); first | done | rfl | (simp only [List.length_drop, List.length_take]; rfl)) ?_; (with_reducible refine (nimsum_Sum.calls k3 _ _ l0 t120 _ ?side1 ?side2 A25.out).mono ?_); (case side1 => repeat (first | exact (Kd.C_below HR0.out HB.out) | (with_reducible refine Kd.C_alloc ?_ _) | (with_reducible refine Kd.C_drewN ?_ _) | (with_reducible refine Kd.C_drew ?_))); (case side2 => exact HC0.out); rintro e w' ⟨rfl, ⟨nd, rfl⟩⟩; refine ⟨_, rfl, ?_⟩))
                      go_ret
                      exact ⟨by first | rfl | (simp [errW_none, errW_some] <;> rfl) | (simp [*, errW_none, errW_some] <;> rfl), by repeat (first | (with_reducible first | exact HB.out | apply below_alloc | apply pw_below_drewN | apply below_drew1) | exact HB.out)⟩
                  · rw [if_neg c24] at H
                    have c24b0 : (x9_3 == 0) = false := beq_eq_false_iff_ne.mpr c24
                    have c24b1 : (x9_3 != 0) = true := bne_iff_ne.mpr c24
                    by_cases c35 : t117 = x9_3
                    · rw [if_pos c35] at H
                      have c35b0 : (t117 == x9_3) = true := beq_iff_eq.mpr c35
                      have c35b1 : (t117 != x9_3) = false := bne_eq_false_iff_eq.mpr c35
                      clear c35
                      by_cases c36 : t115 = 0
                      · rw [if_pos c36] at H
                        have c36b0 : (t115 == 0) = true := beq_iff_eq.mpr c36
                        have c36b1 : (t115 != 0) = false := bne_eq_false_iff_eq.mpr c36
                        clear c36
                        obtain rfl := Option.some.inj H
                        go_wp2
                        go_ret
                        exact ⟨by first | rfl | (simp [errW_none, errW_some] <;> rfl) | (simp [*, errW_none, errW_some] <;> rfl), by repeat (first | (with_reducible first | exact HB.out | apply below_alloc | apply pw_below_drewN | apply below_drew1) | exact HB.out)⟩
                      · rw [if_neg c36] at H
                        have c36b0 : (t115 == 0) = false := beq_eq_false_iff_ne.mpr c36
                        have c36b1 : (t115 != 0) = true := bne_iff_ne.mpr c36
                        obtain rfl := Option.some.inj H
                        go_wp2
                        go_ret
                        exact ⟨by first | rfl | (simp [errW_none, errW_some] <;> rfl) | (simp [*, errW_none, errW_some] <;> rfl), by repeat (first | (with_reducible first | exact HB.out | apply below_alloc | apply pw_below_drewN | apply below_drew1) | exact HB.out)⟩
                    · rw [if_neg c35] at H
                      have c35b0 : (t117 == x9_3) = false := beq_eq_false_iff_ne.mpr c35
                      have c35b1 : (t117 != x9_3) = true := bne_iff_ne.mpr c35
                      obtain rfl := Option.some.inj H
                      go_wp2
                      go_ret
                      exact ⟨by first | rfl | (simp [errW_none, errW_some] <;> rfl) | (simp [*, errW_none, errW_some] <;> rfl), by repeat (first | (with_reducible first | exact HB.out | apply below_alloc | apply pw_below_drewN | apply below_drew1) | exact HB.out)⟩

/-- THE ONE PURE STATEMENT of gamehalllaw1_NimsumTakes: yours. -/
def gamehalllaw1_NimsumTakes.Pure : Prop := ∀ (l0 : List Int), l0.length ≤ maxLen → l0.length * 8 ≤ 140737488351232 → (∀ x ∈ l0, (Lit.int .i64 x).wf = true) → ∃ k, gamehalllaw1_NimsumTakes.f k l0 = some true
theorem gamehalllaw1_NimsumTakes.walk (P : gamehalllaw1_NimsumTakes.Pure) (a0 : Option Addr) (len0 cap0 : Nat) (z0 : List Int) (w : World) (w0 : (a0 = none ∧ len0 = 0 ∧ cap0 = 0 ∧ z0 = []) ∨ ∃ x, a0 = some x ∧ len0 ≤ cap0 ∧ cap0 ≤ maxLen ∧ z0.length = cap0 ∧ (∀ i, i < z0.length → w.cell? (x.add i) = some (.int .i64 (z0.getD i 0))) ∧ ∀ n ∈ z0, (Lit.int .i64 n).wf = true) (y0 : len0 * 8 ≤ 140737488351232) :
    Calls Try.prog 4 #[.slice a0 len0 cap0] w fun e w' => e = .returned (.bool true) ∧ Below w.heap.size w w' := by
  obtain ⟨l0, rfl, hr0, hm0, hw0, hc0⟩ := ReadsInt.ofRowC w0
  obtain ⟨k, h⟩ := P l0 hm0 y0 hw0
  refine (gamehalllaw1_NimsumTakes.calls k _ _ l0 true w (Kd.C_of_reads (d := (0 : Int)) (h1 := fun _ => rfl) hr0) hc0 h).mono ?_
  rintro e w' ⟨rfl, hd⟩
  exact ⟨rfl, hd⟩

end Go.Proofs.Ytcncilipmekfhaa.PNimsumTakes
