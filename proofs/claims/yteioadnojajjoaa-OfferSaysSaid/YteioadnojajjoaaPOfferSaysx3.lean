-- Printed by a program of this claim's writer (wip/ext): an extension of the kit's print.
import Derived.Test.YteioadnojajjoaaPOfferSaysx0
namespace Go.Proofs.Yteioadnojajjoaa.POfferSays
open Go.RowKit Go.Proofs.YteioadnojajjoaaW.PrintWords Go.Proofs.YteioadnojajjoaaW.PrintLast Go.Proofs.YteioadnojajjoaaW.PrintMore
attribute [local go_sem] max2_int min2_int max_two min_two max_three min_three max_four min_four   -- for this text's walks alone
set_option linter.unusedVariables false
set_option linter.unusedSimpArgs false

/-! ### offer_Turn: function 14 -/
def offer_Turn.f (a0 : Int) : Option (Int) := if a0 < 0 then (some 0) else (some (Int.tmod a0 2))
set_option maxHeartbeats 8000000 in
set_option maxRecDepth 100000 in
theorem offer_Turn.calls (a0 : Int) (r : Int) (w : World) (h : offer_Turn.f a0 = some r) :
    Calls Try.prog 14 #[.int .i64 a0] w fun e w' => e = .returned (.int .i64 r) ∧ Drawn0 w w' := by
 have H : (if a0 < 0 then (some 0) else (some (Int.tmod a0 2))) = some r := h
 clear h
 by_cases c2 : a0 < 0
 ·rw [if_pos c2] at H
  have c2b0 : decide (a0 < 0) = true := decide_eq_true c2
  clear c2
  obtain rfl := Option.some.inj H
  go_enter Try.func14, Try.ntmps14
  go_wp2
  go_ret
  exact ⟨xrf, by repeat (first | exact Drawn0.refl _ | apply Drawn0.step)⟩
 ·rw [if_neg c2] at H
  have c2b0 : decide (a0 < 0) = false := decide_eq_false c2
  clear c2
  obtain rfl := Option.some.inj H
  go_enter Try.func14, Try.ntmps14
  go_wp2
  go_ret
  exact ⟨xrf, by repeat (first | exact Drawn0.refl _ | apply Drawn0.step)⟩

/-! ### offer_Plies: function 11 -/
def offer_Plies.j0 : Nat → Int → Int → Bool → Option (Int)
  | 0, _, _, _ => none
  | k + 1, x0, x1, x15 => if x15 = true then (some 0) else ((offer_Turn.f x1).bind fun t101 => (if t101 = x0 then (if 2 > x1 then (some 0) else (some 2)) else (if 1 > x1 then (some 0) else (some 1))))
def offer_Plies.f (k : Nat) (a0 : Int) (a1 : Int) : Option (Int) := if a0 < 0 then (offer_Plies.j0 k a0 a1 true) else (if a0 > 1 then (offer_Plies.j0 k a0 a1 true) else (offer_Plies.j0 k a0 a1 (decide (a1 < 1))))
theorem offer_Plies.mono_l : ∀ k, (∀ y0 y1 y2, LeO (offer_Plies.j0 k y0 y1 y2) (offer_Plies.j0 (k + 1) y0 y1 y2))
  | 0 => fun _ _ _ r h => by simp [offer_Plies.j0] at h
  | k + 1 => by
    have ih0 := offer_Plies.mono_l k
    · intros
      unfold offer_Plies.j0
      repeat' first
      | (with_reducible apply ih0)
      | (with_reducible exact LeO.refl _)
      | (with_reducible exact LeO.none _)
      | (with_reducible refine LeO.ite ?_ ?_)
      | (with_reducible refine LeO.bind ?_ (fun _ => ?_))
      | apply ih0
      | exact LeO.none _
      | refine LeO.ite ?_ ?_
      | refine LeO.bind ?_ (fun _ => ?_)
theorem offer_Plies.mono : ∀ a0 a1 k, LeO (offer_Plies.f k a0 a1) (offer_Plies.f (k + 1) a0 a1) := by
  intro a0 a1 k
  have ih0 := offer_Plies.mono_l k
  unfold offer_Plies.f
  repeat' first
      | (with_reducible apply ih0)
      | (with_reducible exact LeO.refl _)
      | (with_reducible exact LeO.none _)
      | (with_reducible refine LeO.ite ?_ ?_)
      | (with_reducible refine LeO.bind ?_ (fun _ => ?_))
      | apply ih0
      | exact LeO.none _
      | refine LeO.ite ?_ ?_
      | refine LeO.bind ?_ (fun _ => ?_)
set_option maxHeartbeats 8000000 in
set_option maxRecDepth 100000 in
theorem offer_Plies.calls (k : Nat) (a0 : Int) (a1 : Int) (r : Int) (w : World) (h : offer_Plies.f k a0 a1 = some r) :
    Calls Try.prog 11 #[.int .i64 a0, .int .i64 a1] w fun e w' => e = .returned (.int .i64 r) ∧ Drawn0 w w' := by
 have H : (if a0 < 0 then (offer_Plies.j0 k a0 a1 true) else (if a0 > 1 then (offer_Plies.j0 k a0 a1 true) else (offer_Plies.j0 k a0 a1 (decide (a1 < 1))))) = some r := h
 clear h; have HC3 := Aside0.mk H; clear H
 go_enter Try.func11, Try.ntmps11
 go_upto_region 1 with (fail)
 go_cut [15] (fun vs15 wc => ∃ (kq : Nat) (x15_2 : Bool), vs15 = .bool x15_2 ∧ Aside0 (offer_Plies.j0 kq a0 a1 x15_2 = some r) ∧ Aside0 (kq ≤ k) ∧ Drawn0 w wc)
 case first =>
  have H := HC3.out; clear HC3
  by_cases c4 : a0 < 0
  ·rw [if_pos c4] at H
   have c4b0 : decide (a0 < 0) = true := decide_eq_true c4
   clear c4
   (first | rw [c4b0] | (simp only [i64_w, i32_w]; rw [c4b0]) | skip)
   have H' := Aside0.mk H
   clear H
   go_wp2
   go_meet
   case rel => exact ⟨_, (true), (xrf), H', ⟨by first | omega | exact Nat.le_refl _⟩, by repeat (first | exact Drawn0.refl _ | apply Drawn0.step)⟩
  ·rw [if_neg c4] at H
   have c4b0 : decide (a0 < 0) = false := decide_eq_false c4
   clear c4
   (first | rw [c4b0] | (simp only [i64_w, i32_w]; rw [c4b0]) | skip)
   by_cases c5 : a0 > 1
   ·rw [if_pos c5] at H
    have c5b0 : decide (1 < a0) = true := decide_eq_true c5
    clear c5
    have H' := Aside0.mk H
    clear H
    go_wp2
    go_meet
    case rel => exact ⟨_, (true), (xrf), H', ⟨by first | omega | exact Nat.le_refl _⟩, by repeat (first | exact Drawn0.refl _ | apply Drawn0.step)⟩
   ·rw [if_neg c5] at H
    have c5b0 : decide (1 < a0) = false := decide_eq_false c5
    clear c5
    have H' := Aside0.mk H
    clear H
    go_wp2
    go_meet
    case rel => exact ⟨_, (decide (a1 < 1)), (xrf), H', ⟨by first | omega | exact Nat.le_refl _⟩, by repeat (first | exact Drawn0.refl _ | apply Drawn0.step)⟩
 case rest =>
  clear HC3; (try clear p2)
  obtain ⟨kq, x15_2, rfl, HA, HJ2, ⟨mc2, rfl⟩⟩ := hcut
  cases kq with
  | zero => exact absurd HA.out (by simp [offer_Plies.j0])
  | succ kj2 =>
   have H := HA.out; clear HA
   simp only [offer_Plies.j0] at H
   by_cases c6 : x15_2 = true
   ·subst c6
    rw [if_pos rfl] at H
    obtain rfl := Option.some.inj H
    go_wp2
    go_ret
    exact ⟨xrf, by repeat (first | exact Drawn0.refl _ | apply Drawn0.step)⟩
   ·replace c6 := Bool.eq_false_iff.mpr c6
    subst c6
    rw [if_neg (show ¬ (false = true) by decide)] at H
    replace H := Option.bind_eq_some_iff.mp H
    obtain ⟨t101, A70, H⟩ := H
    try dsimp only at H
    have A7 := Aside0.mk A70; clear A70
    by_cases c8 : t101 = a0
    ·rw [if_pos c8] at H
     have c8b0 : (t101 == a0) = true := beq_iff_eq.mpr c8
     have c8b1 : (t101 != a0) = false := bne_eq_false_iff_eq.mpr c8
     clear c8
     by_cases c9 : 2 > a1
     ·rw [if_pos c9] at H
      have c9b0 : decide (a1 < 2) = true := decide_eq_true c9
      clear c9
      obtain rfl := Option.some.inj H
      go_wp2_with (first | ((with_reducible refine gate_callee (f := 14) rfl ?_); refine goesL_ (some 17) rfl rfl Try.func14 (by kernel_rfl) rfl #[.int .i64 a1] rfl (by (try simp only [List.map_toArray, List.map_cons, List.map_nil]); first | done | rfl | (simp only [List.length_drop, List.length_take]; rfl)) ?_; (with_reducible refine (offer_Turn.calls a1 t101 _ A7.out).mono ?_); rintro e w' ⟨rfl, ⟨nd, rfl⟩⟩; refine ⟨_, rfl, ?_⟩))
      go_ret
      exact ⟨xrf, by repeat (first | exact Drawn0.refl _ | apply Drawn0.step)⟩
     ·rw [if_neg c9] at H
      have c9b0 : decide (a1 < 2) = false := decide_eq_false c9
      clear c9
      obtain rfl := Option.some.inj H
      go_wp2_with (first | ((with_reducible refine gate_callee (f := 14) rfl ?_); refine goesL_ (some 17) rfl rfl Try.func14 (by kernel_rfl) rfl #[.int .i64 a1] rfl (by (try simp only [List.map_toArray, List.map_cons, List.map_nil]); first | done | rfl | (simp only [List.length_drop, List.length_take]; rfl)) ?_; (with_reducible refine (offer_Turn.calls a1 t101 _ A7.out).mono ?_); rintro e w' ⟨rfl, ⟨nd, rfl⟩⟩; refine ⟨_, rfl, ?_⟩))
      go_ret
      exact ⟨xrf, by repeat (first | exact Drawn0.refl _ | apply Drawn0.step)⟩
    ·rw [if_neg c8] at H
     have c8b0 : (t101 == a0) = false := beq_eq_false_iff_ne.mpr c8
     have c8b1 : (t101 != a0) = true := bne_iff_ne.mpr c8
     by_cases c10 : 1 > a1
     ·rw [if_pos c10] at H
      have c10b0 : decide (a1 < 1) = true := decide_eq_true c10
      clear c10
      obtain rfl := Option.some.inj H
      go_wp2_with (first | ((with_reducible refine gate_callee (f := 14) rfl ?_); refine goesL_ (some 17) rfl rfl Try.func14 (by kernel_rfl) rfl #[.int .i64 a1] rfl (by (try simp only [List.map_toArray, List.map_cons, List.map_nil]); first | done | rfl | (simp only [List.length_drop, List.length_take]; rfl)) ?_; (with_reducible refine (offer_Turn.calls a1 t101 _ A7.out).mono ?_); rintro e w' ⟨rfl, ⟨nd, rfl⟩⟩; refine ⟨_, rfl, ?_⟩))
      go_ret
      exact ⟨xrf, by repeat (first | exact Drawn0.refl _ | apply Drawn0.step)⟩
     ·rw [if_neg c10] at H
      have c10b0 : decide (a1 < 1) = false := decide_eq_false c10
      clear c10
      obtain rfl := Option.some.inj H
      go_wp2_with (first | ((with_reducible refine gate_callee (f := 14) rfl ?_); refine goesL_ (some 17) rfl rfl Try.func14 (by kernel_rfl) rfl #[.int .i64 a1] rfl (by (try simp only [List.map_toArray, List.map_cons, List.map_nil]); first | done | rfl | (simp only [List.length_drop, List.length_take]; rfl)) ?_; (with_reducible refine (offer_Turn.calls a1 t101 _ A7.out).mono ?_); rintro e w' ⟨rfl, ⟨nd, rfl⟩⟩; refine ⟨_, rfl, ?_⟩))
      go_ret
      exact ⟨xrf, by repeat (first | exact Drawn0.refl _ | apply Drawn0.step)⟩

/-! ### offer_Check: function 15 -/
mutual
def offer_Check.l0 : Nat → Int → Int → Int → Int → Int → Int → Int → Option (Int)
  | 0, _, _, _, _, _, _, _ => none
  | k + 1, x6, z103a, z103b, z103c, z103d, z103e, z103f => if x6 < 2 then (if 0 ≤ x6 then (if x6 = 0 then (if z103a < (-1) then (offer_Check.j1 k x6 x6 true z103a z103b z103c z103d z103e z103f) else (offer_Check.j1 k x6 x6 (decide (z103a > 1)) z103a z103b z103c z103d z103e z103f)) else (if z103b < (-1) then (offer_Check.j1 k x6 x6 true z103a z103b z103c z103d z103e z103f) else (offer_Check.j1 k x6 x6 (decide (z103b > 1)) z103a z103b z103c z103d z103e z103f))) else (none)) else (some 0)
def offer_Check.j1 : Nat → Int → Int → Bool → Int → Int → Int → Int → Int → Int → Option (Int)
  | 0, _, _, _, _, _, _, _, _, _ => none
  | k + 1, x3, x6, x20, z103a, z103b, z103c, z103d, z103e, z103f => if x20 = true then (some 4) else (offer_Check.l1 k x3 x6 0 z103a z103b z103c z103d z103e z103f)
def offer_Check.l1 : Nat → Int → Int → Int → Int → Int → Int → Int → Int → Int → Option (Int)
  | 0, _, _, _, _, _, _, _, _, _ => none
  | k + 1, x3, x6, x21, z103a, z103b, z103c, z103d, z103e, z103f => if x21 < 2 then (if 0 ≤ x3 then (if x3 < 2 then (if x3 = 0 then (if 0 ≤ x21 then (if x21 = 0 then (if z103c < (-1) then (some 4) else (if z103c > 400 then (some 4) else (offer_Check.l1 k x3 x6 (wrap64 (x21 + 1)) z103a z103b z103c z103d z103e z103f))) else (if z103d < (-1) then (some 4) else (if z103d > 400 then (some 4) else (offer_Check.l1 k x3 x6 (wrap64 (x21 + 1)) z103a z103b z103c z103d z103e z103f)))) else (none)) else (if 0 ≤ x21 then (if x21 = 0 then (if z103e < (-1) then (some 4) else (if z103e > 400 then (some 4) else (offer_Check.l1 k x3 x6 (wrap64 (x21 + 1)) z103a z103b z103c z103d z103e z103f))) else (if z103f < (-1) then (some 4) else (if z103f > 400 then (some 4) else (offer_Check.l1 k x3 x6 (wrap64 (x21 + 1)) z103a z103b z103c z103d z103e z103f)))) else (none))) else (none)) else (none)) else (if 0 ≤ x3 then (if x3 < 2 then (if x3 = 0 then (if z103a ≥ 0 then (if 0 ≤ z103a then (if z103a < 2 then (if z103a = 0 then (if z103c < 0 then (some 3) else (offer_Check.l0 k (wrap64 (x6 + 1)) z103a z103b z103c z103d z103e z103f)) else (if z103d < 0 then (some 3) else (offer_Check.l0 k (wrap64 (x6 + 1)) z103a z103b z103c z103d z103e z103f))) else (none)) else (none)) else (offer_Check.l0 k (wrap64 (x6 + 1)) z103a z103b z103c z103d z103e z103f)) else (if z103b ≥ 0 then (if 0 ≤ z103b then (if z103b < 2 then (if z103b = 0 then (if z103e < 0 then (some 3) else (offer_Check.l0 k (wrap64 (x6 + 1)) z103a z103b z103c z103d z103e z103f)) else (if z103f < 0 then (some 3) else (offer_Check.l0 k (wrap64 (x6 + 1)) z103a z103b z103c z103d z103e z103f))) else (none)) else (none)) else (offer_Check.l0 k (wrap64 (x6 + 1)) z103a z103b z103c z103d z103e z103f))) else (none)) else (none))
end
def offer_Check.f (k : Nat) (a0_0 : Int) (a0_1 : Int) (a0_2 : Int) (a0_3 : Int) (a0_4 : Int) (a0_5 : Int) : Option (Int) := offer_Check.l0 k 0 a0_0 a0_1 a0_2 a0_3 a0_4 a0_5
theorem offer_Check.mono_l : ∀ k, (∀ y0 y1 y2 y3 y4 y5 y6, LeO (offer_Check.l0 k y0 y1 y2 y3 y4 y5 y6) (offer_Check.l0 (k + 1) y0 y1 y2 y3 y4 y5 y6)) ∧ (∀ y0 y1 y2 y3 y4 y5 y6 y7 y8, LeO (offer_Check.j1 k y0 y1 y2 y3 y4 y5 y6 y7 y8) (offer_Check.j1 (k + 1) y0 y1 y2 y3 y4 y5 y6 y7 y8)) ∧ (∀ y0 y1 y2 y3 y4 y5 y6 y7 y8, LeO (offer_Check.l1 k y0 y1 y2 y3 y4 y5 y6 y7 y8) (offer_Check.l1 (k + 1) y0 y1 y2 y3 y4 y5 y6 y7 y8))
  | 0 => ⟨fun _ _ _ _ _ _ _ r h => by simp [offer_Check.l0] at h, fun _ _ _ _ _ _ _ _ _ r h => by simp [offer_Check.j1] at h, fun _ _ _ _ _ _ _ _ _ r h => by simp [offer_Check.l1] at h⟩
  | k + 1 => by
    obtain ⟨ih0, ih1, ih2⟩ := offer_Check.mono_l k
    refine ⟨?_, ?_, ?_⟩
    · intros
      unfold offer_Check.l0
      repeat' first
      | (with_reducible apply ih0)
      | (with_reducible apply ih1)
      | (with_reducible apply ih2)
      | (with_reducible exact LeO.refl _)
      | (with_reducible exact LeO.none _)
      | (with_reducible refine LeO.ite ?_ ?_)
      | (with_reducible refine LeO.bind ?_ (fun _ => ?_))
      | apply ih0
      | apply ih1
      | apply ih2
      | exact LeO.none _
      | refine LeO.ite ?_ ?_
      | refine LeO.bind ?_ (fun _ => ?_)
    · intros
      unfold offer_Check.j1
      repeat' first
      | (with_reducible apply ih0)
      | (with_reducible apply ih1)
      | (with_reducible apply ih2)
      | (with_reducible exact LeO.refl _)
      | (with_reducible exact LeO.none _)
      | (with_reducible refine LeO.ite ?_ ?_)
      | (with_reducible refine LeO.bind ?_ (fun _ => ?_))
      | apply ih0
      | apply ih1
      | apply ih2
      | exact LeO.none _
      | refine LeO.ite ?_ ?_
      | refine LeO.bind ?_ (fun _ => ?_)
    · intros
      unfold offer_Check.l1
      repeat' first
      | (with_reducible apply ih0)
      | (with_reducible apply ih1)
      | (with_reducible apply ih2)
      | (with_reducible exact LeO.refl _)
      | (with_reducible exact LeO.none _)
      | (with_reducible refine LeO.ite ?_ ?_)
      | (with_reducible refine LeO.bind ?_ (fun _ => ?_))
      | apply ih0
      | apply ih1
      | apply ih2
      | exact LeO.none _
      | refine LeO.ite ?_ ?_
      | refine LeO.bind ?_ (fun _ => ?_)
theorem offer_Check.mono : ∀ a0 a1 a2 a3 a4 a5 k, LeO (offer_Check.f k a0 a1 a2 a3 a4 a5) (offer_Check.f (k + 1) a0 a1 a2 a3 a4 a5) := by
  intro a0 a1 a2 a3 a4 a5 k
  obtain ⟨ih0, ih1, ih2⟩ := offer_Check.mono_l k
  unfold offer_Check.f
  repeat' first
      | (with_reducible apply ih0)
      | (with_reducible apply ih1)
      | (with_reducible apply ih2)
      | (with_reducible exact LeO.refl _)
      | (with_reducible exact LeO.none _)
      | (with_reducible refine LeO.ite ?_ ?_)
      | (with_reducible refine LeO.bind ?_ (fun _ => ?_))
      | apply ih0
      | apply ih1
      | apply ih2
      | exact LeO.none _
      | refine LeO.ite ?_ ?_
      | refine LeO.bind ?_ (fun _ => ?_)
set_option maxHeartbeats 8000000 in
set_option maxRecDepth 100000 in
theorem offer_Check.calls (k : Nat) (a0_0 : Int) (a0_1 : Int) (a0_2 : Int) (a0_3 : Int) (a0_4 : Int) (a0_5 : Int) (r : Int) (w : World) (h : offer_Check.f k a0_0 a0_1 a0_2 a0_3 a0_4 a0_5 = some r) :
    Calls Try.prog 15 #[.agg #[.int .i64 a0_0, .int .i64 a0_1, .int .i64 a0_2, .int .i64 a0_3, .int .i64 a0_4, .int .i64 a0_5]] w fun e w' => e = .returned (.int .i64 r) ∧ Below w.heap.size w w' := by
 have hu25 := Try.underlying25; have HB := Aside0.mk (Below.refl w.heap.size w); have hss_ := @isSome_setCell
 have H : (offer_Check.l0 k 0 a0_0 a0_1 a0_2 a0_3 a0_4 a0_5) = some r := h
 clear h
 have H' := Aside0.mk H
 clear H
 go_enter Try.func15, Try.ntmps15
 go_wp2_with (first | ((with_reducible refine gate_dst (N := 1) rfl ?_); refine box_event ?hg (N := 1) ?hd (cs := #[.int .i64 a0_0, .int .i64 a0_1, .int .i64 a0_2, .int .i64 a0_3, .int .i64 a0_4, .int .i64 a0_5]) (t := 25) ?hr ?_; (case hd => rfl); (case hg => rfl); (case hr => first | (go_simp; done) | (go_simp; rfl)); intro gb102 hg w2 hbox hb; have BK102 := Aside0.mk (hbox); have GW102 := Aside0.mk (xZ HB hg); have GE102 := Aside0.mk (xZ HB hg); replace HB := Aside0.mk (xS HB hb); clear hb hbox hg))
 go_loopg [6] k (fun kq vs6 w' => ∃ (x6_1 : Int), vs6 = .int .i64 x6_1 ∧ Aside0 (offer_Check.l0 kq x6_1 a0_0 a0_1 a0_2 a0_3 a0_4 a0_5 = some r) ∧ Aside0 (kq ≤ k) ∧ Aside0 (w'.heap[gb102]? = some (.cells #[.int .i64 a0_0, .int .i64 a0_1, .int .i64 a0_2, .int .i64 a0_3, .int .i64 a0_4, .int .i64 a0_5] 25 (0, 0))) ∧ Aside0 (Below w.heap.size w w'))
 case atStart => exact ⟨(0), (xrf), H', ⟨Nat.le_refl _⟩, ⟨xK BK102⟩, ⟨xW HB⟩⟩
 case round =>
  clear H'; (try clear p2)
  obtain ⟨x6_1, rfl, HA, HK1, BK102, HB⟩ := hrel
  cases gk with
  | zero => exact absurd HA.out (by simp [offer_Check.l0])
  | succ k1 =>
   have H := HA.out; clear HA
   simp only [offer_Check.l0] at H
   by_cases c3 : x6_1 < 2
   ·rw [if_pos c3] at H
    have c3b0 : decide (x6_1 < 2) = true := decide_eq_true c3
    clear c3; have HC4 := Aside0.mk H; clear H
    go_upto_region 4 with (fail)
    go_cut [20] (fun vs20 wc => ∃ (kq : Nat) (x20_3 : Bool), vs20 = .bool x20_3 ∧ Aside0 (offer_Check.j1 kq x6_1 x6_1 x20_3 a0_0 a0_1 a0_2 a0_3 a0_4 a0_5 = some r) ∧ Aside0 (kq ≤ k1) ∧ Aside0 (wc.heap[gb102]? = some (.cells #[.int .i64 a0_0, .int .i64 a0_1, .int .i64 a0_2, .int .i64 a0_3, .int .i64 a0_4, .int .i64 a0_5] 25 (0, 0))) ∧ Aside0 (Below w.heap.size w wc))
    case first =>
     have H := HC4.out; clear HC4
     by_cases c5 : 0 ≤ x6_1
     ·rw [if_pos c5] at H
      have c5b0 : decide (0 ≤ x6_1) = true := decide_eq_true c5
      clear c5
      (first | rw [c5b0] | (simp only [i64_w, i32_w]; rw [c5b0]) | skip)
      by_cases c6 : x6_1 = 0
      ·rw [if_pos c6] at H
       have c6b0 : (x6_1 == 0) = true := beq_iff_eq.mpr c6
       have c6b1 : (x6_1 != 0) = false := bne_eq_false_iff_eq.mpr c6
       clear c6; obtain ⟨c7b, c7g, c7c, c7d⟩ := xar (x6_1 : Int) 0 0 2
       by_cases c8 : a0_0 < (-1)
       ·rw [if_pos c8] at H
        have c8b0 : decide (a0_0 < (-1)) = true := decide_eq_true c8
        clear c8
        have H' := Aside0.mk H
        clear H; have hcz9_0 := blkc6 BK102.out
        go_wp2
        go_meet
        case rel => exact ⟨_, (true), (xrf), H', ⟨by have := HK1.out; first | omega | exact Nat.le_refl _⟩, ⟨xK BK102⟩, ⟨xW HB⟩⟩
       ·rw [if_neg c8] at H
        have c8b0 : decide (a0_0 < (-1)) = false := decide_eq_false c8
        clear c8; obtain ⟨c10b, c10g, c10c, c10d⟩ := xar (x6_1 : Int) 0 0 2
        have H' := Aside0.mk H
        clear H; have hcz11_0 := blkc6 BK102.out
        go_wp2
        go_meet
        case rel => exact ⟨_, (decide (a0_0 > 1)), (xrf), H', ⟨by have := HK1.out; first | omega | exact Nat.le_refl _⟩, ⟨xK BK102⟩, ⟨xW HB⟩⟩
      ·rw [if_neg c6] at H
       have c6b0 : (x6_1 == 0) = false := beq_eq_false_iff_ne.mpr c6
       have c6b1 : (x6_1 != 0) = true := bne_iff_ne.mpr c6
       obtain ⟨c12b, c12g, c12c, c12d⟩ := xar (x6_1 : Int) 1 1 2
       by_cases c13 : a0_1 < (-1)
       ·rw [if_pos c13] at H
        have c13b0 : decide (a0_1 < (-1)) = true := decide_eq_true c13
        clear c13
        have H' := Aside0.mk H
        clear H; have hcz14_0 := blkc6 BK102.out
        go_wp2
        go_meet
        case rel => exact ⟨_, (true), (xrf), H', ⟨by have := HK1.out; first | omega | exact Nat.le_refl _⟩, ⟨xK BK102⟩, ⟨xW HB⟩⟩
       ·rw [if_neg c13] at H
        have c13b0 : decide (a0_1 < (-1)) = false := decide_eq_false c13
        clear c13; obtain ⟨c15b, c15g, c15c, c15d⟩ := xar (x6_1 : Int) 1 1 2
        have H' := Aside0.mk H
        clear H; have hcz16_0 := blkc6 BK102.out
        go_wp2
        go_meet
        case rel => exact ⟨_, (decide (a0_1 > 1)), (xrf), H', ⟨by have := HK1.out; first | omega | exact Nat.le_refl _⟩, ⟨xK BK102⟩, ⟨xW HB⟩⟩
     ·rw [if_neg c5] at H
      exact absurd H (by simp)
    case rest =>
     clear HC4; (try clear p2); (try clear p2)
     obtain ⟨kq, x20_3, rfl, HA, HJ3, BK102, HB⟩ := hcut
     cases kq with
     | zero => exact absurd HA.out (by simp [offer_Check.j1])
     | succ kj3 =>
      have H := HA.out; clear HA
      simp only [offer_Check.j1] at H
      by_cases c17 : x20_3 = true
      ·subst c17
       rw [if_pos rfl] at H
       obtain rfl := Option.some.inj H
       go_wp2
       go_ret
       exact ⟨xer, xW HB⟩
      ·replace c17 := Bool.eq_false_iff.mpr c17
       subst c17
       rw [if_neg (show ¬ (false = true) by decide)] at H
       have H' := Aside0.mk H
       clear H
       go_wp2
       go_loopg [21] kj3 (fun kq vs21 w' => ∃ (x21_3 : Int), vs21 = .int .i64 x21_3 ∧ Aside0 (offer_Check.l1 kq x6_1 x6_1 x21_3 a0_0 a0_1 a0_2 a0_3 a0_4 a0_5 = some r) ∧ Aside0 (kq ≤ kj3) ∧ Aside0 (w'.heap[gb102]? = some (.cells #[.int .i64 a0_0, .int .i64 a0_1, .int .i64 a0_2, .int .i64 a0_3, .int .i64 a0_4, .int .i64 a0_5] 25 (0, 0))) ∧ Aside0 (Below w.heap.size w w'))
       case atStart => exact ⟨(0), (xrf), H', ⟨Nat.le_refl _⟩, ⟨xK BK102⟩, ⟨xW HB⟩⟩
       case round =>
        clear H'; (try clear p2); (try clear p2)
        obtain ⟨x21_3, rfl, HA, HK3, BK102, HB⟩ := hrel
        cases gk with
        | zero => exact absurd HA.out (by simp [offer_Check.l1])
        | succ k3 =>
         have H := HA.out; clear HA
         simp only [offer_Check.l1] at H
         by_cases c18 : x21_3 < 2
         ·rw [if_pos c18] at H
          have c18b0 : decide (x21_3 < 2) = true := decide_eq_true c18
          clear c18
          by_cases c19 : 0 ≤ x6_1
          ·rw [if_pos c19] at H
           have c19b0 : decide (0 ≤ x6_1) = true := decide_eq_true c19
           clear c19
           by_cases c20 : x6_1 < 2
           ·rw [if_pos c20] at H
            have c20b0 : decide (x6_1 < 2) = true := decide_eq_true c20
            clear c20
            by_cases c21 : x6_1 = 0
            ·rw [if_pos c21] at H
             have c21b0 : (x6_1 == 0) = true := beq_iff_eq.mpr c21
             have c21b1 : (x6_1 != 0) = false := bne_eq_false_iff_eq.mpr c21
             clear c21; obtain ⟨c22b, c22g, c22c, c22d⟩ := xar (x6_1 : Int) 0 0 2
             by_cases c23 : 0 ≤ x21_3
             ·rw [if_pos c23] at H
              have c23b0 : decide (0 ≤ x21_3) = true := decide_eq_true c23
              clear c23
              by_cases c24 : x21_3 = 0
              ·rw [if_pos c24] at H
               have c24b0 : (x21_3 == 0) = true := beq_iff_eq.mpr c24
               have c24b1 : (x21_3 != 0) = false := bne_eq_false_iff_eq.mpr c24
               clear c24; obtain ⟨c25b, c25g, c25c, c25d⟩ := xar (x21_3 : Int) 0 0 2
               by_cases c26 : a0_2 < (-1)
               ·rw [if_pos c26] at H
                have c26b0 : decide (a0_2 < (-1)) = true := decide_eq_true c26
                clear c26
                obtain rfl := Option.some.inj H
                have hcz27_0 := blkc6 BK102.out
                go_wp2
                go_ret
                exact ⟨xer, xW HB⟩
               ·rw [if_neg c26] at H
                have c26b0 : decide (a0_2 < (-1)) = false := decide_eq_false c26
                clear c26; obtain ⟨c28b, c28g, c28c, c28d⟩ := xar (x6_1 : Int) 0 0 2; obtain ⟨c29b, c29g, c29c, c29d⟩ := xar (x21_3 : Int) 0 0 2
                by_cases c30 : a0_2 > 400
                ·rw [if_pos c30] at H
                 have c30b0 : decide (400 < a0_2) = true := decide_eq_true c30
                 clear c30
                 obtain rfl := Option.some.inj H
                 have hcz31_0 := blkc6 BK102.out
                 go_wp2
                 go_ret
                 exact ⟨xer, xW HB⟩
                ·rw [if_neg c30] at H
                 have c30b0 : decide (400 < a0_2) = false := decide_eq_false c30
                 clear c30
                 have H' := Aside0.mk H
                 clear H; have hcz32_0 := blkc6 BK102.out
                 go_wp2
                 go_roundg k3
                 case measure => have := HK1.out; have := HJ3.out; have := HK3.out; omega
                 case rel => exact ⟨(wrap64 (x21_3 + 1)), (xrf), H', ⟨by have := HK1.out; have := HJ3.out; have := HK3.out; omega⟩, ⟨xK BK102⟩, ⟨xW HB⟩⟩
              ·rw [if_neg c24] at H
               have c24b0 : (x21_3 == 0) = false := beq_eq_false_iff_ne.mpr c24
               have c24b1 : (x21_3 != 0) = true := bne_iff_ne.mpr c24
               obtain ⟨c33b, c33g, c33c, c33d⟩ := xar (x21_3 : Int) 1 1 2
               by_cases c34 : a0_3 < (-1)
               ·rw [if_pos c34] at H
                have c34b0 : decide (a0_3 < (-1)) = true := decide_eq_true c34
                clear c34
                obtain rfl := Option.some.inj H
                have hcz35_0 := blkc6 BK102.out
                go_wp2
                go_ret
                exact ⟨xer, xW HB⟩
               ·rw [if_neg c34] at H
                have c34b0 : decide (a0_3 < (-1)) = false := decide_eq_false c34
                clear c34; obtain ⟨c36b, c36g, c36c, c36d⟩ := xar (x6_1 : Int) 0 0 2; obtain ⟨c37b, c37g, c37c, c37d⟩ := xar (x21_3 : Int) 1 1 2
                by_cases c38 : a0_3 > 400
                ·rw [if_pos c38] at H
                 have c38b0 : decide (400 < a0_3) = true := decide_eq_true c38
                 clear c38
                 obtain rfl := Option.some.inj H
                 have hcz39_0 := blkc6 BK102.out
                 go_wp2
                 go_ret
                 exact ⟨xer, xW HB⟩
                ·rw [if_neg c38] at H
                 have c38b0 : decide (400 < a0_3) = false := decide_eq_false c38
                 clear c38
                 have H' := Aside0.mk H
                 clear H; have hcz40_0 := blkc6 BK102.out
                 go_wp2
                 go_roundg k3
                 case measure => have := HK1.out; have := HJ3.out; have := HK3.out; omega
                 case rel => exact ⟨(wrap64 (x21_3 + 1)), (xrf), H', ⟨by have := HK1.out; have := HJ3.out; have := HK3.out; omega⟩, ⟨xK BK102⟩, ⟨xW HB⟩⟩
             ·rw [if_neg c23] at H
              exact absurd H (by simp)
            ·rw [if_neg c21] at H
             have c21b0 : (x6_1 == 0) = false := beq_eq_false_iff_ne.mpr c21
             have c21b1 : (x6_1 != 0) = true := bne_iff_ne.mpr c21
             obtain ⟨c41b, c41g, c41c, c41d⟩ := xar (x6_1 : Int) 1 1 2
             by_cases c42 : 0 ≤ x21_3
             ·rw [if_pos c42] at H
              have c42b0 : decide (0 ≤ x21_3) = true := decide_eq_true c42
              clear c42
              by_cases c43 : x21_3 = 0
              ·rw [if_pos c43] at H
               have c43b0 : (x21_3 == 0) = true := beq_iff_eq.mpr c43
               have c43b1 : (x21_3 != 0) = false := bne_eq_false_iff_eq.mpr c43
               clear c43; obtain ⟨c44b, c44g, c44c, c44d⟩ := xar (x21_3 : Int) 0 0 2
               by_cases c45 : a0_4 < (-1)
               ·rw [if_pos c45] at H
                have c45b0 : decide (a0_4 < (-1)) = true := decide_eq_true c45
                clear c45
                obtain rfl := Option.some.inj H
                have hcz46_0 := blkc6 BK102.out
                go_wp2
                go_ret
                exact ⟨xer, xW HB⟩
               ·rw [if_neg c45] at H
                have c45b0 : decide (a0_4 < (-1)) = false := decide_eq_false c45
                clear c45; obtain ⟨c47b, c47g, c47c, c47d⟩ := xar (x6_1 : Int) 1 1 2; obtain ⟨c48b, c48g, c48c, c48d⟩ := xar (x21_3 : Int) 0 0 2
                by_cases c49 : a0_4 > 400
                ·rw [if_pos c49] at H
                 have c49b0 : decide (400 < a0_4) = true := decide_eq_true c49
                 clear c49
                 obtain rfl := Option.some.inj H
                 have hcz50_0 := blkc6 BK102.out
                 go_wp2
                 go_ret
                 exact ⟨xer, xW HB⟩
                ·rw [if_neg c49] at H
                 have c49b0 : decide (400 < a0_4) = false := decide_eq_false c49
                 clear c49
                 have H' := Aside0.mk H
                 clear H; have hcz51_0 := blkc6 BK102.out
                 go_wp2
                 go_roundg k3
                 case measure => have := HK1.out; have := HJ3.out; have := HK3.out; omega
                 case rel => exact ⟨(wrap64 (x21_3 + 1)), (xrf), H', ⟨by have := HK1.out; have := HJ3.out; have := HK3.out; omega⟩, ⟨xK BK102⟩, ⟨xW HB⟩⟩
              ·rw [if_neg c43] at H
               have c43b0 : (x21_3 == 0) = false := beq_eq_false_iff_ne.mpr c43
               have c43b1 : (x21_3 != 0) = true := bne_iff_ne.mpr c43
               obtain ⟨c52b, c52g, c52c, c52d⟩ := xar (x21_3 : Int) 1 1 2
               by_cases c53 : a0_5 < (-1)
               ·rw [if_pos c53] at H
                have c53b0 : decide (a0_5 < (-1)) = true := decide_eq_true c53
                clear c53
                obtain rfl := Option.some.inj H
                have hcz54_0 := blkc6 BK102.out
                go_wp2
                go_ret
                exact ⟨xer, xW HB⟩
               ·rw [if_neg c53] at H
                have c53b0 : decide (a0_5 < (-1)) = false := decide_eq_false c53
                clear c53; obtain ⟨c55b, c55g, c55c, c55d⟩ := xar (x6_1 : Int) 1 1 2; obtain ⟨c56b, c56g, c56c, c56d⟩ := xar (x21_3 : Int) 1 1 2
                by_cases c57 : a0_5 > 400
                ·rw [if_pos c57] at H
                 have c57b0 : decide (400 < a0_5) = true := decide_eq_true c57
                 clear c57
                 obtain rfl := Option.some.inj H
                 have hcz58_0 := blkc6 BK102.out
                 go_wp2
                 go_ret
                 exact ⟨xer, xW HB⟩
                ·rw [if_neg c57] at H
                 have c57b0 : decide (400 < a0_5) = false := decide_eq_false c57
                 clear c57
                 have H' := Aside0.mk H
                 clear H; have hcz59_0 := blkc6 BK102.out
                 go_wp2
                 go_roundg k3
                 case measure => have := HK1.out; have := HJ3.out; have := HK3.out; omega
                 case rel => exact ⟨(wrap64 (x21_3 + 1)), (xrf), H', ⟨by have := HK1.out; have := HJ3.out; have := HK3.out; omega⟩, ⟨xK BK102⟩, ⟨xW HB⟩⟩
             ·rw [if_neg c42] at H
              exact absurd H (by simp)
           ·rw [if_neg c20] at H
            exact absurd H (by simp)
          ·rw [if_neg c19] at H
           exact absurd H (by simp)
         ·rw [if_neg c18] at H
          have c18b0 : decide (x21_3 < 2) = false := decide_eq_false c18
          clear c18
          by_cases c60 : 0 ≤ x6_1
          ·rw [if_pos c60] at H
           have c60b0 : decide (0 ≤ x6_1) = true := decide_eq_true c60
           clear c60
           by_cases c61 : x6_1 < 2
           ·rw [if_pos c61] at H
            have c61b0 : decide (x6_1 < 2) = true := decide_eq_true c61
            clear c61
            by_cases c62 : x6_1 = 0
            ·rw [if_pos c62] at H
             have c62b0 : (x6_1 == 0) = true := beq_iff_eq.mpr c62
             have c62b1 : (x6_1 != 0) = false := bne_eq_false_iff_eq.mpr c62
             clear c62; obtain ⟨c63b, c63g, c63c, c63d⟩ := xar (x6_1 : Int) 0 0 2
             by_cases c64 : a0_0 ≥ 0
             ·rw [if_pos c64] at H
              have c64b0 : decide (0 ≤ a0_0) = true := decide_eq_true c64
              clear c64; obtain ⟨c65b, c65g, c65c, c65d⟩ := xar (x6_1 : Int) 0 0 2
              by_cases c66 : 0 ≤ a0_0
              ·rw [if_pos c66] at H
               have c66b0 : decide (0 ≤ a0_0) = true := decide_eq_true c66
               clear c66
               by_cases c67 : a0_0 < 2
               ·rw [if_pos c67] at H
                have c67b0 : decide (a0_0 < 2) = true := decide_eq_true c67
                clear c67
                by_cases c68 : a0_0 = 0
                ·rw [if_pos c68] at H
                 have c68b0 : (a0_0 == 0) = true := beq_iff_eq.mpr c68
                 have c68b1 : (a0_0 != 0) = false := bne_eq_false_iff_eq.mpr c68
                 clear c68; obtain ⟨c69b, c69g, c69c, c69d⟩ := xar (a0_0 : Int) 0 0 2
                 by_cases c70 : a0_2 < 0
                 ·rw [if_pos c70] at H
                  have c70b0 : decide (a0_2 < 0) = true := decide_eq_true c70
                  clear c70
                  obtain rfl := Option.some.inj H
                  have hcz71_0 := blkc6 BK102.out
                  go_wp2
                  go_ret
                  exact ⟨xer, xW HB⟩
                 ·rw [if_neg c70] at H
                  have c70b0 : decide (a0_2 < 0) = false := decide_eq_false c70
                  clear c70
                  have H' := Aside0.mk H
                  clear H; have hcz72_0 := blkc6 BK102.out
                  go_wp2
                  go_roundg k3
                  case measure => have := HK1.out; have := HJ3.out; have := HK3.out; omega
                  case rel => exact ⟨(wrap64 (x6_1 + 1)), (xrf), H', ⟨by have := HK1.out; have := HJ3.out; have := HK3.out; omega⟩, ⟨xK BK102⟩, ⟨xW HB⟩⟩
                ·rw [if_neg c68] at H
                 have c68b0 : (a0_0 == 0) = false := beq_eq_false_iff_ne.mpr c68
                 have c68b1 : (a0_0 != 0) = true := bne_iff_ne.mpr c68
                 obtain ⟨c73b, c73g, c73c, c73d⟩ := xar (a0_0 : Int) 1 1 2
                 by_cases c74 : a0_3 < 0
                 ·rw [if_pos c74] at H
                  have c74b0 : decide (a0_3 < 0) = true := decide_eq_true c74
                  clear c74
                  obtain rfl := Option.some.inj H
                  have hcz75_0 := blkc6 BK102.out
                  go_wp2
                  go_ret
                  exact ⟨xer, xW HB⟩
                 ·rw [if_neg c74] at H
                  have c74b0 : decide (a0_3 < 0) = false := decide_eq_false c74
                  clear c74
                  have H' := Aside0.mk H
                  clear H; have hcz76_0 := blkc6 BK102.out
                  go_wp2
                  go_roundg k3
                  case measure => have := HK1.out; have := HJ3.out; have := HK3.out; omega
                  case rel => exact ⟨(wrap64 (x6_1 + 1)), (xrf), H', ⟨by have := HK1.out; have := HJ3.out; have := HK3.out; omega⟩, ⟨xK BK102⟩, ⟨xW HB⟩⟩
               ·rw [if_neg c67] at H
                exact absurd H (by simp)
              ·rw [if_neg c66] at H
               exact absurd H (by simp)
             ·rw [if_neg c64] at H
              have c64b0 : decide (0 ≤ a0_0) = false := decide_eq_false c64
              clear c64
              have H' := Aside0.mk H
              clear H; have hcz77_0 := blkc6 BK102.out
              go_wp2
              go_roundg k3
              case measure => have := HK1.out; have := HJ3.out; have := HK3.out; omega
              case rel => exact ⟨(wrap64 (x6_1 + 1)), (xrf), H', ⟨by have := HK1.out; have := HJ3.out; have := HK3.out; omega⟩, ⟨xK BK102⟩, ⟨xW HB⟩⟩
            ·rw [if_neg c62] at H
             have c62b0 : (x6_1 == 0) = false := beq_eq_false_iff_ne.mpr c62
             have c62b1 : (x6_1 != 0) = true := bne_iff_ne.mpr c62
             obtain ⟨c78b, c78g, c78c, c78d⟩ := xar (x6_1 : Int) 1 1 2
             by_cases c79 : a0_1 ≥ 0
             ·rw [if_pos c79] at H
              have c79b0 : decide (0 ≤ a0_1) = true := decide_eq_true c79
              clear c79; obtain ⟨c80b, c80g, c80c, c80d⟩ := xar (x6_1 : Int) 1 1 2
              by_cases c81 : 0 ≤ a0_1
              ·rw [if_pos c81] at H
               have c81b0 : decide (0 ≤ a0_1) = true := decide_eq_true c81
               clear c81
               by_cases c82 : a0_1 < 2
               ·rw [if_pos c82] at H
                have c82b0 : decide (a0_1 < 2) = true := decide_eq_true c82
                clear c82
                by_cases c83 : a0_1 = 0
                ·rw [if_pos c83] at H
                 have c83b0 : (a0_1 == 0) = true := beq_iff_eq.mpr c83
                 have c83b1 : (a0_1 != 0) = false := bne_eq_false_iff_eq.mpr c83
                 clear c83; obtain ⟨c84b, c84g, c84c, c84d⟩ := xar (a0_1 : Int) 0 0 2
                 by_cases c85 : a0_4 < 0
                 ·rw [if_pos c85] at H
                  have c85b0 : decide (a0_4 < 0) = true := decide_eq_true c85
                  clear c85
                  obtain rfl := Option.some.inj H
                  have hcz86_0 := blkc6 BK102.out
                  go_wp2
                  go_ret
                  exact ⟨xer, xW HB⟩
                 ·rw [if_neg c85] at H
                  have c85b0 : decide (a0_4 < 0) = false := decide_eq_false c85
                  clear c85
                  have H' := Aside0.mk H
                  clear H; have hcz87_0 := blkc6 BK102.out
                  go_wp2
                  go_roundg k3
                  case measure => have := HK1.out; have := HJ3.out; have := HK3.out; omega
                  case rel => exact ⟨(wrap64 (x6_1 + 1)), (xrf), H', ⟨by have := HK1.out; have := HJ3.out; have := HK3.out; omega⟩, ⟨xK BK102⟩, ⟨xW HB⟩⟩
                ·rw [if_neg c83] at H
                 have c83b0 : (a0_1 == 0) = false := beq_eq_false_iff_ne.mpr c83
                 have c83b1 : (a0_1 != 0) = true := bne_iff_ne.mpr c83
                 obtain ⟨c88b, c88g, c88c, c88d⟩ := xar (a0_1 : Int) 1 1 2
                 by_cases c89 : a0_5 < 0
                 ·rw [if_pos c89] at H
                  have c89b0 : decide (a0_5 < 0) = true := decide_eq_true c89
                  clear c89
                  obtain rfl := Option.some.inj H
                  have hcz90_0 := blkc6 BK102.out
                  go_wp2
                  go_ret
                  exact ⟨xer, xW HB⟩
                 ·rw [if_neg c89] at H
                  have c89b0 : decide (a0_5 < 0) = false := decide_eq_false c89
                  clear c89
                  have H' := Aside0.mk H
                  clear H; have hcz91_0 := blkc6 BK102.out
                  go_wp2
                  go_roundg k3
                  case measure => have := HK1.out; have := HJ3.out; have := HK3.out; omega
                  case rel => exact ⟨(wrap64 (x6_1 + 1)), (xrf), H', ⟨by have := HK1.out; have := HJ3.out; have := HK3.out; omega⟩, ⟨xK BK102⟩, ⟨xW HB⟩⟩
               ·rw [if_neg c82] at H
                exact absurd H (by simp)
              ·rw [if_neg c81] at H
               exact absurd H (by simp)
             ·rw [if_neg c79] at H
              have c79b0 : decide (0 ≤ a0_1) = false := decide_eq_false c79
              clear c79
              have H' := Aside0.mk H
              clear H; have hcz92_0 := blkc6 BK102.out
              go_wp2
              go_roundg k3
              case measure => have := HK1.out; have := HJ3.out; have := HK3.out; omega
              case rel => exact ⟨(wrap64 (x6_1 + 1)), (xrf), H', ⟨by have := HK1.out; have := HJ3.out; have := HK3.out; omega⟩, ⟨xK BK102⟩, ⟨xW HB⟩⟩
           ·rw [if_neg c61] at H
            exact absurd H (by simp)
          ·rw [if_neg c60] at H
           exact absurd H (by simp)
   ·rw [if_neg c3] at H
    have c3b0 : decide (x6_1 < 2) = false := decide_eq_false c3
    clear c3
    obtain rfl := Option.some.inj H
    go_wp2
    go_ret
    exact ⟨xer, xW HB⟩

/-! ### offer_args: function 13 -/
def offer_args.f (k : Nat) (a0_0 : Int) (a0_1 : Int) (a0_2 : Int) (a0_3 : Int) (a0_4 : Int) (a0_5 : Int) (a1 : Int) (a2 : Int) (a3 : Int) : Option (Int) := (offer_Check.f k a0_0 a0_1 a0_2 a0_3 a0_4 a0_5).bind fun t104 => (if t104 = 0 then (if a1 < 0 then (some 1) else (if a1 > 1 then (some 1) else (if a2 < 0 then (some 1) else (if a2 > 1 then (some 1) else (if a3 < 0 then (some 1) else (if a3 > 400 then (some 1) else (some 0))))))) else (some t104))
theorem offer_args.mono : ∀ a0 a1 a2 a3 a4 a5 a6 a7 a8 k, LeO (offer_args.f k a0 a1 a2 a3 a4 a5 a6 a7 a8) (offer_args.f (k + 1) a0 a1 a2 a3 a4 a5 a6 a7 a8) := by
  intro a0 a1 a2 a3 a4 a5 a6 a7 a8 k
  unfold offer_args.f
  repeat' first
      | (with_reducible apply offer_Check.mono)
      | (with_reducible exact LeO.refl _)
      | (with_reducible exact LeO.none _)
      | (with_reducible refine LeO.ite ?_ ?_)
      | (with_reducible refine LeO.bind ?_ (fun _ => ?_))
      | apply offer_Check.mono
      | exact LeO.none _
      | refine LeO.ite ?_ ?_
      | refine LeO.bind ?_ (fun _ => ?_)
set_option maxHeartbeats 8000000 in
set_option maxRecDepth 100000 in
theorem offer_args.calls (k : Nat) (a0_0 : Int) (a0_1 : Int) (a0_2 : Int) (a0_3 : Int) (a0_4 : Int) (a0_5 : Int) (a1 : Int) (a2 : Int) (a3 : Int) (r : Int) (w : World) (h : offer_args.f k a0_0 a0_1 a0_2 a0_3 a0_4 a0_5 a1 a2 a3 = some r) :
    Calls Try.prog 13 #[.agg #[.int .i64 a0_0, .int .i64 a0_1, .int .i64 a0_2, .int .i64 a0_3, .int .i64 a0_4, .int .i64 a0_5], .int .i64 a1, .int .i64 a2, .int .i64 a3] w fun e w' => e = .returned (.int .i64 r) ∧ Below w.heap.size w w' := by
 have hu25 := Try.underlying25; have HB := Aside0.mk (Below.refl w.heap.size w); have hss_ := @isSome_setCell
 have H : ((offer_Check.f k a0_0 a0_1 a0_2 a0_3 a0_4 a0_5).bind fun t104 => (if t104 = 0 then (if a1 < 0 then (some 1) else (if a1 > 1 then (some 1) else (if a2 < 0 then (some 1) else (if a2 > 1 then (some 1) else (if a3 < 0 then (some 1) else (if a3 > 400 then (some 1) else (some 0))))))) else (some t104))) = some r := h
 clear h; replace H := Option.bind_eq_some_iff.mp H
 obtain ⟨t104, A50, H⟩ := H
 try dsimp only at H
 have A5 := Aside0.mk A50; clear A50
 by_cases c6 : t104 = 0
 ·rw [if_pos c6] at H
  have c6b0 : (t104 == 0) = true := beq_iff_eq.mpr c6
  have c6b1 : (t104 != 0) = false := bne_eq_false_iff_eq.mpr c6
  clear c6
  by_cases c7 : a1 < 0
  ·rw [if_pos c7] at H
   have c7b0 : decide (a1 < 0) = true := decide_eq_true c7
   clear c7
   obtain rfl := Option.some.inj H
   go_enter Try.func13, Try.ntmps13
   go_wp2_with (first | ((with_reducible refine gate_dst (N := 4) rfl ?_); refine box_event ?hg (N := 4) ?hd (cs := #[.int .i64 a0_0, .int .i64 a0_1, .int .i64 a0_2, .int .i64 a0_3, .int .i64 a0_4, .int .i64 a0_5]) (t := 25) ?hr ?_; (case hd => rfl); (case hg => rfl); (case hr => first | (go_simp; done) | (go_simp; rfl)); intro gb103 hg w8 hbox hb; have BK103 := Aside0.mk (hbox); have GW103 := Aside0.mk (xZ HB hg); have GE103 := Aside0.mk (xZ HB hg); replace HB := Aside0.mk (xS HB hb); clear hb hbox hg; have hcz9_0 := blkc6 BK103.out) | ((with_reducible refine gate_callee (f := 15) rfl ?_); refine goesL_ (some 11) rfl rfl Try.func15 (by kernel_rfl) rfl #[.agg #[.int .i64 a0_0, .int .i64 a0_1, .int .i64 a0_2, .int .i64 a0_3, .int .i64 a0_4, .int .i64 a0_5]] rfl (by (try simp only [List.map_toArray, List.map_cons, List.map_nil]); first | done | rfl | (simp only [List.length_drop, List.length_take]; rfl)) ?_; (with_reducible refine (offer_Check.calls k a0_0 a0_1 a0_2 a0_3 a0_4 a0_5 t104 _ A5.out).mono ?_); rintro e w10 ⟨rfl, hb⟩; refine ⟨_, rfl, ?_⟩; replace BK103 := Aside0.mk (xB BK103 hb); replace HB := Aside0.mk (xS HB hb); (try clear hb); (try clear hb2); (try clear hk); (try clear hi)))
   go_ret
   exact ⟨xer, xW HB⟩
  ·rw [if_neg c7] at H
   have c7b0 : decide (a1 < 0) = false := decide_eq_false c7
   clear c7
   by_cases c11 : a1 > 1
   ·rw [if_pos c11] at H
    have c11b0 : decide (1 < a1) = true := decide_eq_true c11
    clear c11
    obtain rfl := Option.some.inj H
    go_enter Try.func13, Try.ntmps13
    go_wp2_with (first | ((with_reducible refine gate_dst (N := 4) rfl ?_); refine box_event ?hg (N := 4) ?hd (cs := #[.int .i64 a0_0, .int .i64 a0_1, .int .i64 a0_2, .int .i64 a0_3, .int .i64 a0_4, .int .i64 a0_5]) (t := 25) ?hr ?_; (case hd => rfl); (case hg => rfl); (case hr => first | (go_simp; done) | (go_simp; rfl)); intro gb103 hg w12 hbox hb; have BK103 := Aside0.mk (hbox); have GW103 := Aside0.mk (xZ HB hg); have GE103 := Aside0.mk (xZ HB hg); replace HB := Aside0.mk (xS HB hb); clear hb hbox hg; have hcz13_0 := blkc6 BK103.out) | ((with_reducible refine gate_callee (f := 15) rfl ?_); refine goesL_ (some 11) rfl rfl Try.func15 (by kernel_rfl) rfl #[.agg #[.int .i64 a0_0, .int .i64 a0_1, .int .i64 a0_2, .int .i64 a0_3, .int .i64 a0_4, .int .i64 a0_5]] rfl (by (try simp only [List.map_toArray, List.map_cons, List.map_nil]); first | done | rfl | (simp only [List.length_drop, List.length_take]; rfl)) ?_; (with_reducible refine (offer_Check.calls k a0_0 a0_1 a0_2 a0_3 a0_4 a0_5 t104 _ A5.out).mono ?_); rintro e w14 ⟨rfl, hb⟩; refine ⟨_, rfl, ?_⟩; replace BK103 := Aside0.mk (xB BK103 hb); replace HB := Aside0.mk (xS HB hb); (try clear hb); (try clear hb2); (try clear hk); (try clear hi)))
    go_ret
    exact ⟨xer, xW HB⟩
   ·rw [if_neg c11] at H
    have c11b0 : decide (1 < a1) = false := decide_eq_false c11
    clear c11
    by_cases c15 : a2 < 0
    ·rw [if_pos c15] at H
     have c15b0 : decide (a2 < 0) = true := decide_eq_true c15
     clear c15
     obtain rfl := Option.some.inj H
     go_enter Try.func13, Try.ntmps13
     go_wp2_with (first | ((with_reducible refine gate_dst (N := 4) rfl ?_); refine box_event ?hg (N := 4) ?hd (cs := #[.int .i64 a0_0, .int .i64 a0_1, .int .i64 a0_2, .int .i64 a0_3, .int .i64 a0_4, .int .i64 a0_5]) (t := 25) ?hr ?_; (case hd => rfl); (case hg => rfl); (case hr => first | (go_simp; done) | (go_simp; rfl)); intro gb103 hg w16 hbox hb; have BK103 := Aside0.mk (hbox); have GW103 := Aside0.mk (xZ HB hg); have GE103 := Aside0.mk (xZ HB hg); replace HB := Aside0.mk (xS HB hb); clear hb hbox hg; have hcz17_0 := blkc6 BK103.out) | ((with_reducible refine gate_callee (f := 15) rfl ?_); refine goesL_ (some 11) rfl rfl Try.func15 (by kernel_rfl) rfl #[.agg #[.int .i64 a0_0, .int .i64 a0_1, .int .i64 a0_2, .int .i64 a0_3, .int .i64 a0_4, .int .i64 a0_5]] rfl (by (try simp only [List.map_toArray, List.map_cons, List.map_nil]); first | done | rfl | (simp only [List.length_drop, List.length_take]; rfl)) ?_; (with_reducible refine (offer_Check.calls k a0_0 a0_1 a0_2 a0_3 a0_4 a0_5 t104 _ A5.out).mono ?_); rintro e w18 ⟨rfl, hb⟩; refine ⟨_, rfl, ?_⟩; replace BK103 := Aside0.mk (xB BK103 hb); replace HB := Aside0.mk (xS HB hb); (try clear hb); (try clear hb2); (try clear hk); (try clear hi)))
     go_ret
     exact ⟨xer, xW HB⟩
    ·rw [if_neg c15] at H
     have c15b0 : decide (a2 < 0) = false := decide_eq_false c15
     clear c15
     by_cases c19 : a2 > 1
     ·rw [if_pos c19] at H
      have c19b0 : decide (1 < a2) = true := decide_eq_true c19
      clear c19
      obtain rfl := Option.some.inj H
      go_enter Try.func13, Try.ntmps13
      go_wp2_with (first | ((with_reducible refine gate_dst (N := 4) rfl ?_); refine box_event ?hg (N := 4) ?hd (cs := #[.int .i64 a0_0, .int .i64 a0_1, .int .i64 a0_2, .int .i64 a0_3, .int .i64 a0_4, .int .i64 a0_5]) (t := 25) ?hr ?_; (case hd => rfl); (case hg => rfl); (case hr => first | (go_simp; done) | (go_simp; rfl)); intro gb103 hg w20 hbox hb; have BK103 := Aside0.mk (hbox); have GW103 := Aside0.mk (xZ HB hg); have GE103 := Aside0.mk (xZ HB hg); replace HB := Aside0.mk (xS HB hb); clear hb hbox hg; have hcz21_0 := blkc6 BK103.out) | ((with_reducible refine gate_callee (f := 15) rfl ?_); refine goesL_ (some 11) rfl rfl Try.func15 (by kernel_rfl) rfl #[.agg #[.int .i64 a0_0, .int .i64 a0_1, .int .i64 a0_2, .int .i64 a0_3, .int .i64 a0_4, .int .i64 a0_5]] rfl (by (try simp only [List.map_toArray, List.map_cons, List.map_nil]); first | done | rfl | (simp only [List.length_drop, List.length_take]; rfl)) ?_; (with_reducible refine (offer_Check.calls k a0_0 a0_1 a0_2 a0_3 a0_4 a0_5 t104 _ A5.out).mono ?_); rintro e w22 ⟨rfl, hb⟩; refine ⟨_, rfl, ?_⟩; replace BK103 := Aside0.mk (xB BK103 hb); replace HB := Aside0.mk (xS HB hb); (try clear hb); (try clear hb2); (try clear hk); (try clear hi)))
      go_ret
      exact ⟨xer, xW HB⟩
     ·rw [if_neg c19] at H
      have c19b0 : decide (1 < a2) = false := decide_eq_false c19
      clear c19
      by_cases c23 : a3 < 0
      ·rw [if_pos c23] at H
       have c23b0 : decide (a3 < 0) = true := decide_eq_true c23
       clear c23
       obtain rfl := Option.some.inj H
       go_enter Try.func13, Try.ntmps13
       go_wp2_with (first | ((with_reducible refine gate_dst (N := 4) rfl ?_); refine box_event ?hg (N := 4) ?hd (cs := #[.int .i64 a0_0, .int .i64 a0_1, .int .i64 a0_2, .int .i64 a0_3, .int .i64 a0_4, .int .i64 a0_5]) (t := 25) ?hr ?_; (case hd => rfl); (case hg => rfl); (case hr => first | (go_simp; done) | (go_simp; rfl)); intro gb103 hg w24 hbox hb; have BK103 := Aside0.mk (hbox); have GW103 := Aside0.mk (xZ HB hg); have GE103 := Aside0.mk (xZ HB hg); replace HB := Aside0.mk (xS HB hb); clear hb hbox hg; have hcz25_0 := blkc6 BK103.out) | ((with_reducible refine gate_callee (f := 15) rfl ?_); refine goesL_ (some 11) rfl rfl Try.func15 (by kernel_rfl) rfl #[.agg #[.int .i64 a0_0, .int .i64 a0_1, .int .i64 a0_2, .int .i64 a0_3, .int .i64 a0_4, .int .i64 a0_5]] rfl (by (try simp only [List.map_toArray, List.map_cons, List.map_nil]); first | done | rfl | (simp only [List.length_drop, List.length_take]; rfl)) ?_; (with_reducible refine (offer_Check.calls k a0_0 a0_1 a0_2 a0_3 a0_4 a0_5 t104 _ A5.out).mono ?_); rintro e w26 ⟨rfl, hb⟩; refine ⟨_, rfl, ?_⟩; replace BK103 := Aside0.mk (xB BK103 hb); replace HB := Aside0.mk (xS HB hb); (try clear hb); (try clear hb2); (try clear hk); (try clear hi)))
       go_ret
       exact ⟨xer, xW HB⟩
      ·rw [if_neg c23] at H
       have c23b0 : decide (a3 < 0) = false := decide_eq_false c23
       clear c23
       by_cases c27 : a3 > 400
       ·rw [if_pos c27] at H
        have c27b0 : decide (400 < a3) = true := decide_eq_true c27
        clear c27
        obtain rfl := Option.some.inj H
        go_enter Try.func13, Try.ntmps13
        go_wp2_with (first | ((with_reducible refine gate_dst (N := 4) rfl ?_); refine box_event ?hg (N := 4) ?hd (cs := #[.int .i64 a0_0, .int .i64 a0_1, .int .i64 a0_2, .int .i64 a0_3, .int .i64 a0_4, .int .i64 a0_5]) (t := 25) ?hr ?_; (case hd => rfl); (case hg => rfl); (case hr => first | (go_simp; done) | (go_simp; rfl)); intro gb103 hg w28 hbox hb; have BK103 := Aside0.mk (hbox); have GW103 := Aside0.mk (xZ HB hg); have GE103 := Aside0.mk (xZ HB hg); replace HB := Aside0.mk (xS HB hb); clear hb hbox hg; have hcz29_0 := blkc6 BK103.out) | ((with_reducible refine gate_callee (f := 15) rfl ?_); refine goesL_ (some 11) rfl rfl Try.func15 (by kernel_rfl) rfl #[.agg #[.int .i64 a0_0, .int .i64 a0_1, .int .i64 a0_2, .int .i64 a0_3, .int .i64 a0_4, .int .i64 a0_5]] rfl (by (try simp only [List.map_toArray, List.map_cons, List.map_nil]); first | done | rfl | (simp only [List.length_drop, List.length_take]; rfl)) ?_; (with_reducible refine (offer_Check.calls k a0_0 a0_1 a0_2 a0_3 a0_4 a0_5 t104 _ A5.out).mono ?_); rintro e w30 ⟨rfl, hb⟩; refine ⟨_, rfl, ?_⟩; replace BK103 := Aside0.mk (xB BK103 hb); replace HB := Aside0.mk (xS HB hb); (try clear hb); (try clear hb2); (try clear hk); (try clear hi)))
        go_ret
        exact ⟨xer, xW HB⟩
       ·rw [if_neg c27] at H
        have c27b0 : decide (400 < a3) = false := decide_eq_false c27
        clear c27
        obtain rfl := Option.some.inj H
        go_enter Try.func13, Try.ntmps13
        go_wp2_with (first | ((with_reducible refine gate_dst (N := 4) rfl ?_); refine box_event ?hg (N := 4) ?hd (cs := #[.int .i64 a0_0, .int .i64 a0_1, .int .i64 a0_2, .int .i64 a0_3, .int .i64 a0_4, .int .i64 a0_5]) (t := 25) ?hr ?_; (case hd => rfl); (case hg => rfl); (case hr => first | (go_simp; done) | (go_simp; rfl)); intro gb103 hg w31 hbox hb; have BK103 := Aside0.mk (hbox); have GW103 := Aside0.mk (xZ HB hg); have GE103 := Aside0.mk (xZ HB hg); replace HB := Aside0.mk (xS HB hb); clear hb hbox hg; have hcz32_0 := blkc6 BK103.out) | ((with_reducible refine gate_callee (f := 15) rfl ?_); refine goesL_ (some 11) rfl rfl Try.func15 (by kernel_rfl) rfl #[.agg #[.int .i64 a0_0, .int .i64 a0_1, .int .i64 a0_2, .int .i64 a0_3, .int .i64 a0_4, .int .i64 a0_5]] rfl (by (try simp only [List.map_toArray, List.map_cons, List.map_nil]); first | done | rfl | (simp only [List.length_drop, List.length_take]; rfl)) ?_; (with_reducible refine (offer_Check.calls k a0_0 a0_1 a0_2 a0_3 a0_4 a0_5 t104 _ A5.out).mono ?_); rintro e w33 ⟨rfl, hb⟩; refine ⟨_, rfl, ?_⟩; replace BK103 := Aside0.mk (xB BK103 hb); replace HB := Aside0.mk (xS HB hb); (try clear hb); (try clear hb2); (try clear hk); (try clear hi)))
        go_ret
        exact ⟨xer, xW HB⟩
 ·rw [if_neg c6] at H
  have c6b0 : (t104 == 0) = false := beq_eq_false_iff_ne.mpr c6
  have c6b1 : (t104 != 0) = true := bne_iff_ne.mpr c6
  obtain rfl := Option.some.inj H
  go_enter Try.func13, Try.ntmps13
  go_wp2_with (first | ((with_reducible refine gate_dst (N := 4) rfl ?_); refine box_event ?hg (N := 4) ?hd (cs := #[.int .i64 a0_0, .int .i64 a0_1, .int .i64 a0_2, .int .i64 a0_3, .int .i64 a0_4, .int .i64 a0_5]) (t := 25) ?hr ?_; (case hd => rfl); (case hg => rfl); (case hr => first | (go_simp; done) | (go_simp; rfl)); intro gb103 hg w34 hbox hb; have BK103 := Aside0.mk (hbox); have GW103 := Aside0.mk (xZ HB hg); have GE103 := Aside0.mk (xZ HB hg); replace HB := Aside0.mk (xS HB hb); clear hb hbox hg; have hcz35_0 := blkc6 BK103.out) | ((with_reducible refine gate_callee (f := 15) rfl ?_); refine goesL_ (some 11) rfl rfl Try.func15 (by kernel_rfl) rfl #[.agg #[.int .i64 a0_0, .int .i64 a0_1, .int .i64 a0_2, .int .i64 a0_3, .int .i64 a0_4, .int .i64 a0_5]] rfl (by (try simp only [List.map_toArray, List.map_cons, List.map_nil]); first | done | rfl | (simp only [List.length_drop, List.length_take]; rfl)) ?_; (with_reducible refine (offer_Check.calls k a0_0 a0_1 a0_2 a0_3 a0_4 a0_5 t104 _ A5.out).mono ?_); rintro e w36 ⟨rfl, hb⟩; refine ⟨_, rfl, ?_⟩; replace BK103 := Aside0.mk (xB BK103 hb); replace HB := Aside0.mk (xS HB hb); (try clear hb); (try clear hb2); (try clear hk); (try clear hi)))
  go_ret
  exact ⟨xer, xW HB⟩

end Go.Proofs.Yteioadnojajjoaa.POfferSays
