-- Printed by a program of this claim's writer (wip/ext): an extension of the kit's print.
import Derived.Test.YteooljkamebenaaPKnockoutPlaysx0
import Derived.Test.YteooljkamebenaaPKnockoutPlaysx2
namespace Go.Proofs.Yteooljkamebenaa.PKnockoutPlays
open Go.RowKit Go.Proofs.YteooljkamebenaaW.PrintWords Go.Proofs.YteooljkamebenaaW.PrintLast Go.Proofs.YteooljkamebenaaW.PrintMore
attribute [local go_sem] max2_int min2_int max_two min_two max_three min_three max_four min_four   -- for this text's walks alone
set_option linter.unusedVariables false
set_option linter.unusedSimpArgs false

/-! ### knockout_Meet: function 29 -/
mutual
def knockout_Meet.j0 : Nat → Int → Int → List Int → Bool → Option (Int × Int)
  | 0, _, _, _, _ => none
  | k + 1, x1, x2, x8, x38 => if x38 = true then (some (0, 1)) else (knockout_Meet.l0 k x1 x2 x8 0 0 (x8.length : Int) 0)
def knockout_Meet.l0 : Nat → Int → Int → List Int → Int → Int → Int → Int → Option (Int × Int)
  | 0, _, _, _, _, _, _, _ => none
  | k + 1, x1, x2, x8, x10, x11, x40, x41 => if x41 < x40 then (if 0 ≤ x41 then (if x41 < (x8.length : Int) then (if (rd x8 x41) = x1 then (if (rd x8 x41) = x2 then (knockout_Meet.l0 k x1 x2 x8 x41 x41 x40 (wrap64 (x41 + 1))) else (knockout_Meet.l0 k x1 x2 x8 x41 x11 x40 (wrap64 (x41 + 1)))) else (if (rd x8 x41) = x2 then (knockout_Meet.l0 k x1 x2 x8 x10 x41 x40 (wrap64 (x41 + 1))) else (knockout_Meet.l0 k x1 x2 x8 x10 x11 x40 (wrap64 (x41 + 1))))) else (none)) else (none)) else (knockout_Meet.l1 k x10 x11 0)
def knockout_Meet.l1 : Nat → Int → Int → Int → Option (Int × Int)
  | 0, _, _, _ => none
  | k + 1, x10, x11, x14 => if (wrap64 (Int.tdiv x10 2)) = (wrap64 (Int.tdiv x11 2)) then (some (x14, 0)) else (knockout_Meet.l1 k (wrap64 (Int.tdiv x10 2)) (wrap64 (Int.tdiv x11 2)) (wrap64 (x14 + 1)))
end
def knockout_Meet.f (k : Nat) (a0 : Int) (a1 : Int) (a2 : Int) : Option (Int × Int) := (knockout_Seeds.f k a0).bind fun bt152 => (if bt152.2 = 0 then (if (mn a1 a2) < 0 then (knockout_Meet.j0 k a1 a2 bt152.1 true) else (if (mx a1 a2) ≥ a0 then (knockout_Meet.j0 k a1 a2 bt152.1 true) else (knockout_Meet.j0 k a1 a2 bt152.1 (a1 == a2)))) else (some (0, bt152.2)))
theorem knockout_Meet.mono_l : ∀ k, (∀ y0 y1 y2 y3, LeO (knockout_Meet.j0 k y0 y1 y2 y3) (knockout_Meet.j0 (k + 1) y0 y1 y2 y3)) ∧ (∀ y0 y1 y2 y3 y4 y5 y6, LeO (knockout_Meet.l0 k y0 y1 y2 y3 y4 y5 y6) (knockout_Meet.l0 (k + 1) y0 y1 y2 y3 y4 y5 y6)) ∧ (∀ y0 y1 y2, LeO (knockout_Meet.l1 k y0 y1 y2) (knockout_Meet.l1 (k + 1) y0 y1 y2))
  | 0 => ⟨fun _ _ _ _ r h => by simp [knockout_Meet.j0] at h, fun _ _ _ _ _ _ _ r h => by simp [knockout_Meet.l0] at h, fun _ _ _ r h => by simp [knockout_Meet.l1] at h⟩
  | k + 1 => by
    obtain ⟨ih0, ih1, ih2⟩ := knockout_Meet.mono_l k
    refine ⟨?_, ?_, ?_⟩
    · intro y0 y1 y2 y3
      unfold knockout_Meet.j0
      repeat' first
      | (with_reducible exact ih0 _ _ _ _)
      | (with_reducible exact ih1 _ _ _ _ _ _ _)
      | (with_reducible exact ih2 _ _ _)
      | (with_reducible exact knockout_Seeds.mono _ _)
      | (with_reducible exact LeO.refl _)
      | (with_reducible exact LeO.none _)
      | (with_reducible refine LeO.ite ?_ ?_)
      | (with_reducible refine LeO.bind ?_ (fun _ => ?_))
      | exact ih0 _ _ _ _
      | exact ih1 _ _ _ _ _ _ _
      | exact ih2 _ _ _
      | exact knockout_Seeds.mono _ _
      | exact LeO.none _
      | refine LeO.ite ?_ ?_
      | refine LeO.bind ?_ (fun _ => ?_)
    · intro y0 y1 y2 y3 y4 y5 y6
      unfold knockout_Meet.l0
      repeat' first
      | (with_reducible exact ih0 _ _ _ _)
      | (with_reducible exact ih1 _ _ _ _ _ _ _)
      | (with_reducible exact ih2 _ _ _)
      | (with_reducible exact knockout_Seeds.mono _ _)
      | (with_reducible exact LeO.refl _)
      | (with_reducible exact LeO.none _)
      | (with_reducible refine LeO.ite ?_ ?_)
      | (with_reducible refine LeO.bind ?_ (fun _ => ?_))
      | exact ih0 _ _ _ _
      | exact ih1 _ _ _ _ _ _ _
      | exact ih2 _ _ _
      | exact knockout_Seeds.mono _ _
      | exact LeO.none _
      | refine LeO.ite ?_ ?_
      | refine LeO.bind ?_ (fun _ => ?_)
    · intro y0 y1 y2
      unfold knockout_Meet.l1
      repeat' first
      | (with_reducible exact ih0 _ _ _ _)
      | (with_reducible exact ih1 _ _ _ _ _ _ _)
      | (with_reducible exact ih2 _ _ _)
      | (with_reducible exact knockout_Seeds.mono _ _)
      | (with_reducible exact LeO.refl _)
      | (with_reducible exact LeO.none _)
      | (with_reducible refine LeO.ite ?_ ?_)
      | (with_reducible refine LeO.bind ?_ (fun _ => ?_))
      | exact ih0 _ _ _ _
      | exact ih1 _ _ _ _ _ _ _
      | exact ih2 _ _ _
      | exact knockout_Seeds.mono _ _
      | exact LeO.none _
      | refine LeO.ite ?_ ?_
      | refine LeO.bind ?_ (fun _ => ?_)
theorem knockout_Meet.mono : ∀ a0 a1 a2 k, LeO (knockout_Meet.f k a0 a1 a2) (knockout_Meet.f (k + 1) a0 a1 a2) := by
  intro a0 a1 a2 k
  obtain ⟨ih0, ih1, ih2⟩ := knockout_Meet.mono_l k
  unfold knockout_Meet.f
  repeat' first
      | (with_reducible exact ih0 _ _ _ _)
      | (with_reducible exact ih1 _ _ _ _ _ _ _)
      | (with_reducible exact ih2 _ _ _)
      | (with_reducible exact knockout_Seeds.mono _ _)
      | (with_reducible exact LeO.refl _)
      | (with_reducible exact LeO.none _)
      | (with_reducible refine LeO.ite ?_ ?_)
      | (with_reducible refine LeO.bind ?_ (fun _ => ?_))
      | exact ih0 _ _ _ _
      | exact ih1 _ _ _ _ _ _ _
      | exact ih2 _ _ _
      | exact knockout_Seeds.mono _ _
      | exact LeO.none _
      | refine LeO.ite ?_ ?_
      | refine LeO.bind ?_ (fun _ => ?_)
set_option maxHeartbeats 8000000 in
set_option maxRecDepth 100000 in
theorem knockout_Meet.calls (k : Nat) (a0 : Int) (a1 : Int) (a2 : Int) (r1 : Int) (r2 : Int) (w : World) (h : knockout_Meet.f k a0 a1 a2 = some (r1, r2)) :
    Calls Try.prog 29 #[.int .i64 a0, .int .i64 a1, .int .i64 a2] w fun e w' => e = .returned (.tuple #[.int .i64 r1, .int .i64 r2]) ∧ Below w.heap.size w w' := by
 have HB := Aside0.mk (Below.refl w.heap.size w)
 have H : ((knockout_Seeds.f k a0).bind fun bt152 => (if bt152.2 = 0 then (if (mn a1 a2) < 0 then (knockout_Meet.j0 k a1 a2 bt152.1 true) else (if (mx a1 a2) ≥ a0 then (knockout_Meet.j0 k a1 a2 bt152.1 true) else (knockout_Meet.j0 k a1 a2 bt152.1 (a1 == a2)))) else (some (0, bt152.2)))) = some (r1, r2) := h
 clear h
 replace H := Option.bind_eq_some_iff.mp H
 obtain ⟨⟨t152, t153⟩, A40, H⟩ := H
 replace H : (if t153 = 0 then (if (mn a1 a2) < 0 then (knockout_Meet.j0 k a1 a2 t152 true) else (if (mx a1 a2) ≥ a0 then (knockout_Meet.j0 k a1 a2 t152 true) else (knockout_Meet.j0 k a1 a2 t152 (a1 == a2)))) else (some (0, t153))) = some (r1, r2) := H
 have A4 := Aside0.mk A40
 clear A40
 by_cases c5 : t153 = 0
 ·rw [if_pos c5] at H
  have c5b0 : (t153 == 0) = true := beq_iff_eq.mpr c5
  have c5b1 : (t153 != 0) = false := bne_eq_false_iff_eq.mpr c5
  clear c5
  have HC6 := Aside0.mk H
  clear H
  go_enter Try.func29, Try.ntmps29
  go_upto_region 4 with (first | ((with_reducible refine gate_callee (f := 27) rfl ?_); refine goesL_ (some 17) rfl rfl Try.func27 (by kernel_rfl) rfl #[.int .i64 a0] rfl (by (try simp only [List.map_toArray, List.map_cons, List.map_nil]); first | done | rfl | (simp only [List.length_drop, List.length_take]; rfl)) ?_; (with_reducible refine (knockout_Seeds.calls k a0 t152 t153 _ A4.out).mono ?_); rintro e w7 ⟨v154, rfl, ho0, hb⟩; refine ⟨_, rfl, ?_⟩; have n0_ := Aside0.mk (Kd.R_lower ho0 (below_size (by repeat (first | (with_reducible first | exact HB.out | apply below_alloc | apply pw_below_drewN | apply below_drew1) | exact HB.out)))); have n1_ := Aside0.mk (below_step (by repeat (first | (with_reducible first | exact HB.out | apply below_alloc | apply pw_below_drewN | apply below_drew1) | exact HB.out)) hb); clear HB; have HO155 := n0_; have HB := n1_; clear n0_ n1_; (try clear hb); (try clear hb2); (try clear hk); (try clear hi); (try clear ho0)))
  (try simp only [Act.put, List.setIfInBounds_toArray, List.set_cons_zero, List.set_cons_succ])
  go_cut [38] (fun v38 wc => ∃ (kq : Nat) (x38_5 : Bool), v38 = .bool x38_5 ∧ Aside0 (knockout_Meet.j0 kq a1 a2 t152 x38_5 = some (r1, r2)) ∧ Aside0 (kq ≤ k) ∧ Aside0 (Kd.R (Kd.int .i64) 3 wc w.heap.size (fun _ => True) v154 t152) ∧ Aside0 (Below w.heap.size w wc))
  case first =>
   have H := HC6.out
   clear HC6
   obtain ⟨ji8, hji8⟩ : ∃ j_ : Int, (mn a1 a2) = j_ := ⟨_, rfl⟩
   replace H : (if (ji8) < 0 then (knockout_Meet.j0 k a1 a2 t152 true) else (if (mx a1 a2) ≥ a0 then (knockout_Meet.j0 k a1 a2 t152 true) else (knockout_Meet.j0 k a1 a2 t152 (a1 == a2)))) = some (r1, r2) := by first | (rw [hji8] at H; exact H) | (simp only [hji8] at H ⊢; exact H)
   have hji8_ : (if a2 < a1 then a2 else a1) = ji8 := hji8
   by_cases c9 : (ji8) < 0
   ·rw [if_pos c9] at H
    have c9b0 : decide ((ji8) < 0) = true := decide_eq_true c9
    clear c9
    (first | rw [c9b0] | (simp only [i64_w, i32_w]; rw [c9b0]) | skip)
    have H' := Aside0.mk H
    clear H
    go_wp2
    go_meet
    case rel => exact ⟨_, (true), (by first | rfl | (simp; done) | (simp [*]; done)), H', ⟨by first | omega | exact Nat.le_refl _⟩, ⟨by (with_reducible repeat (first | apply Kd.R_alloc | apply Kd.R_drewN | apply Kd.R_drew)); exact HO155.out⟩, ⟨by repeat (first | (with_reducible first | exact HB.out | apply below_alloc | apply pw_below_drewN | apply below_drew1) | exact HB.out)⟩⟩
   ·rw [if_neg c9] at H
    have c9b0 : decide ((ji8) < 0) = false := decide_eq_false c9
    clear c9
    (first | rw [c9b0] | (simp only [i64_w, i32_w]; rw [c9b0]) | skip)
    obtain ⟨ji10, hji10⟩ : ∃ j_ : Int, (mx a1 a2) = j_ := ⟨_, rfl⟩
    replace H : (if (ji10) ≥ a0 then (knockout_Meet.j0 k a1 a2 t152 true) else (knockout_Meet.j0 k a1 a2 t152 (a1 == a2))) = some (r1, r2) := by first | (rw [hji10] at H; exact H) | (simp only [hji10] at H ⊢; exact H)
    have hji10_ : (if a1 < a2 then a2 else a1) = ji10 := hji10
    by_cases c11 : (ji10) ≥ a0
    ·rw [if_pos c11] at H
     have c11b0 : decide (a0 ≤ (ji10)) = true := decide_eq_true c11
     clear c11
     have H' := Aside0.mk H
     clear H
     go_wp2
     go_meet
     case rel => exact ⟨_, (true), (by first | rfl | (simp; done) | (simp [*]; done)), H', ⟨by first | omega | exact Nat.le_refl _⟩, ⟨by (with_reducible repeat (first | apply Kd.R_alloc | apply Kd.R_drewN | apply Kd.R_drew)); exact HO155.out⟩, ⟨by repeat (first | (with_reducible first | exact HB.out | apply below_alloc | apply pw_below_drewN | apply below_drew1) | exact HB.out)⟩⟩
    ·rw [if_neg c11] at H
     have c11b0 : decide (a0 ≤ (ji10)) = false := decide_eq_false c11
     clear c11
     have H' := Aside0.mk H
     clear H
     go_wp2
     go_meet
     case rel => exact ⟨_, ((a1 == a2)), (by first | rfl | (simp; done) | (simp [*]; done)), H', ⟨by first | omega | exact Nat.le_refl _⟩, ⟨by (with_reducible repeat (first | apply Kd.R_alloc | apply Kd.R_drewN | apply Kd.R_drew)); exact HO155.out⟩, ⟨by repeat (first | (with_reducible first | exact HB.out | apply below_alloc | apply pw_below_drewN | apply below_drew1) | exact HB.out)⟩⟩
  case rest =>
   clear HC6
   try clear c1
   try clear c2
   try clear p2
   try clear c5
   try clear c5b0
   try clear c5b1
   try clear c9
   try clear c9b0
   try clear c11
   try clear c11b0
   obtain ⟨kq, x38_5, rfl, HA, HJ5, HO_8, HB⟩ := hcut
   cases kq with
   | zero => exact absurd HA.out (by simp [knockout_Meet.j0])
   | succ kj5 =>
    have H := HA.out
    clear HA
    simp only [knockout_Meet.j0] at H
    by_cases c12 : x38_5 = true
    ·subst c12
     have H1 : (some (0, 1)) = some (r1, r2) := by rw [if_pos rfl] at H; exact H
     clear H
     have H := H1
     clear H1
     simp only [Option.some.injEq, Prod.mk.injEq] at H
     obtain ⟨rfl, rfl⟩ := H
     go_wp2
     go_ret2
     exact ⟨by first | rfl | (simp [errW_none, errW_some] <;> rfl) | (simp [*, errW_none, errW_some] <;> rfl), by repeat (first | (with_reducible first | exact HB.out | apply below_alloc | apply pw_below_drewN | apply below_drew1) | exact HB.out)⟩
    ·replace c12 := Bool.eq_false_iff.mpr c12
     subst c12
     have H1 : (knockout_Meet.l0 kj5 a1 a2 t152 0 0 (t152.length : Int) 0) = some (r1, r2) := by rw [if_neg (show ¬ (false = true) by decide)] at H; exact H
     clear H
     have H := H1
     clear H1
     have H' := Aside0.mk H
     clear H
     obtain ⟨Ao13, co13, eo13⟩ := Kd.R_slice HO_8.out
     subst eo13
     go_wp2
     go_loopg [10, 11, 41] kj5 (fun kq v10 v11 v41 w' => ∃ (x10_2 : Int) (x11_2 : Int) (x41_2 : Int), v10 = .int .i64 x10_2 ∧ v11 = .int .i64 x11_2 ∧ v41 = .int .i64 x41_2 ∧ Aside0 (knockout_Meet.l0 kq a1 a2 t152 x10_2 x11_2 (t152.length : Int) x41_2 = some (r1, r2)) ∧ Aside0 (kq ≤ kj5) ∧ Aside0 (Kd.R (Kd.int .i64) 3 w' w.heap.size (fun _ => True) (.slice Ao13 t152.length co13) t152) ∧ Aside0 (Below w.heap.size w w'))
     case atStart => exact ⟨(0), (0), (0), (by first | rfl | (simp; done) | (simp [*]; done)), (by first | rfl | (simp; done) | (simp [*]; done)), (by first | rfl | (simp; done) | (simp [*]; done)), H', ⟨Nat.le_refl _⟩, ⟨by (with_reducible repeat (first | apply Kd.R_alloc | apply Kd.R_drewN | apply Kd.R_drew)); exact HO_8.out⟩, ⟨by repeat (first | (with_reducible first | exact HB.out | apply below_alloc | apply pw_below_drewN | apply below_drew1) | exact HB.out)⟩⟩
     case round =>
      clear H'
      try clear c1
      try clear c2
      try clear p2
      try clear c5
      try clear c5b0
      try clear c5b1
      try clear c9
      try clear c9b0
      try clear c11
      try clear c11b0
      try clear c12
      try clear p2
      obtain ⟨x10_2, x11_2, x41_2, rfl, rfl, rfl, HA, HK2, HO_8, HB⟩ := hrel
      cases gk with
      | zero => exact absurd HA.out (by simp [knockout_Meet.l0])
      | succ k2 =>
       have H := HA.out
       clear HA
       simp only [knockout_Meet.l0] at H
       by_cases c14 : x41_2 < (t152.length : Int)
       ·rw [if_pos c14] at H
        have c14b0 : decide (x41_2 < (t152.length : Int)) = true := decide_eq_true c14
        clear c14
        by_cases c15 : 0 ≤ x41_2
        ·rw [if_pos c15] at H
         have c15b0 : decide (0 ≤ x41_2) = true := decide_eq_true c15
         clear c15
         by_cases c16 : x41_2 < (t152.length : Int)
         ·rw [if_pos c16] at H
          have c16b0 : decide (x41_2 < (t152.length : Int)) = true := decide_eq_true c16
          clear c16
          by_cases c17 : (rd t152 x41_2) = a1
          ·rw [if_pos c17] at H
           have c17b0 : ((rd t152 x41_2) == a1) = true := beq_iff_eq.mpr c17
           have c17b1 : ((rd t152 x41_2) != a1) = false := bne_eq_false_iff_eq.mpr c17
           clear c17
           by_cases c18 : (rd t152 x41_2) = a2
           ·rw [if_pos c18] at H
            have c18b0 : ((rd t152 x41_2) == a2) = true := beq_iff_eq.mpr c18
            have c18b1 : ((rd t152 x41_2) != a2) = false := bne_eq_false_iff_eq.mpr c18
            clear c18
            have H' := Aside0.mk H
            clear H
            have p156 : 0 ≤ (x41_2 : Int) := of_decide_eq_true (by first | (with_reducible assumption) | assumption)
            have q156 : x41_2 < (t152.length : Int) := of_decide_eq_true (by first | (with_reducible assumption) | assumption)
            obtain ⟨ad156, e156, hx156_0⟩ := Kd.at_int (Kd.R_reads' HO_8.out).2.2 x41_2 p156 q156
            cases e156
            replace p156 := eq_true p156
            replace q156 := eq_true q156
            go_wp2
            go_roundg k2
            case measure => have := HJ5.out; have := HK2.out; omega
            case rel => exact ⟨(x41_2), (x41_2), (wrap64 (x41_2 + 1)), (by first | rfl | (simp; done) | (simp [*]; done)), (by first | rfl | (simp; done) | (simp [*]; done)), (by first | rfl | (simp; done) | (simp [*]; done)), H', ⟨by have := HJ5.out; have := HK2.out; omega⟩, ⟨by (with_reducible repeat (first | apply Kd.R_alloc | apply Kd.R_drewN | apply Kd.R_drew)); exact HO_8.out⟩, ⟨by repeat (first | (with_reducible first | exact HB.out | apply below_alloc | apply pw_below_drewN | apply below_drew1) | exact HB.out)⟩⟩
           ·rw [if_neg c18] at H
            have c18b0 : ((rd t152 x41_2) == a2) = false := beq_eq_false_iff_ne.mpr c18
            have c18b1 : ((rd t152 x41_2) != a2) = true := bne_iff_ne.mpr c18
            have H' := Aside0.mk H
            clear H
            have p156 : 0 ≤ (x41_2 : Int) := of_decide_eq_true (by first | (with_reducible assumption) | assumption)
            have q156 : x41_2 < (t152.length : Int) := of_decide_eq_true (by first | (with_reducible assumption) | assumption)
            obtain ⟨ad156, e156, hx156_0⟩ := Kd.at_int (Kd.R_reads' HO_8.out).2.2 x41_2 p156 q156
            cases e156
            replace p156 := eq_true p156
            replace q156 := eq_true q156
            go_wp2
            go_roundg k2
            case measure => have := HJ5.out; have := HK2.out; omega
            case rel => exact ⟨(x41_2), (x11_2), (wrap64 (x41_2 + 1)), (by first | rfl | (simp; done) | (simp [*]; done)), (by first | rfl | (simp; done) | (simp [*]; done)), (by first | rfl | (simp; done) | (simp [*]; done)), H', ⟨by have := HJ5.out; have := HK2.out; omega⟩, ⟨by (with_reducible repeat (first | apply Kd.R_alloc | apply Kd.R_drewN | apply Kd.R_drew)); exact HO_8.out⟩, ⟨by repeat (first | (with_reducible first | exact HB.out | apply below_alloc | apply pw_below_drewN | apply below_drew1) | exact HB.out)⟩⟩
          ·rw [if_neg c17] at H
           have c17b0 : ((rd t152 x41_2) == a1) = false := beq_eq_false_iff_ne.mpr c17
           have c17b1 : ((rd t152 x41_2) != a1) = true := bne_iff_ne.mpr c17
           by_cases c19 : (rd t152 x41_2) = a2
           ·rw [if_pos c19] at H
            have c19b0 : ((rd t152 x41_2) == a2) = true := beq_iff_eq.mpr c19
            have c19b1 : ((rd t152 x41_2) != a2) = false := bne_eq_false_iff_eq.mpr c19
            clear c19
            have H' := Aside0.mk H
            clear H
            have p156 : 0 ≤ (x41_2 : Int) := of_decide_eq_true (by first | (with_reducible assumption) | assumption)
            have q156 : x41_2 < (t152.length : Int) := of_decide_eq_true (by first | (with_reducible assumption) | assumption)
            obtain ⟨ad156, e156, hx156_0⟩ := Kd.at_int (Kd.R_reads' HO_8.out).2.2 x41_2 p156 q156
            cases e156
            replace p156 := eq_true p156
            replace q156 := eq_true q156
            go_wp2
            go_roundg k2
            case measure => have := HJ5.out; have := HK2.out; omega
            case rel => exact ⟨(x10_2), (x41_2), (wrap64 (x41_2 + 1)), (by first | rfl | (simp; done) | (simp [*]; done)), (by first | rfl | (simp; done) | (simp [*]; done)), (by first | rfl | (simp; done) | (simp [*]; done)), H', ⟨by have := HJ5.out; have := HK2.out; omega⟩, ⟨by (with_reducible repeat (first | apply Kd.R_alloc | apply Kd.R_drewN | apply Kd.R_drew)); exact HO_8.out⟩, ⟨by repeat (first | (with_reducible first | exact HB.out | apply below_alloc | apply pw_below_drewN | apply below_drew1) | exact HB.out)⟩⟩
           ·rw [if_neg c19] at H
            have c19b0 : ((rd t152 x41_2) == a2) = false := beq_eq_false_iff_ne.mpr c19
            have c19b1 : ((rd t152 x41_2) != a2) = true := bne_iff_ne.mpr c19
            have H' := Aside0.mk H
            clear H
            have p156 : 0 ≤ (x41_2 : Int) := of_decide_eq_true (by first | (with_reducible assumption) | assumption)
            have q156 : x41_2 < (t152.length : Int) := of_decide_eq_true (by first | (with_reducible assumption) | assumption)
            obtain ⟨ad156, e156, hx156_0⟩ := Kd.at_int (Kd.R_reads' HO_8.out).2.2 x41_2 p156 q156
            cases e156
            replace p156 := eq_true p156
            replace q156 := eq_true q156
            go_wp2
            go_roundg k2
            case measure => have := HJ5.out; have := HK2.out; omega
            case rel => exact ⟨(x10_2), (x11_2), (wrap64 (x41_2 + 1)), (by first | rfl | (simp; done) | (simp [*]; done)), (by first | rfl | (simp; done) | (simp [*]; done)), (by first | rfl | (simp; done) | (simp [*]; done)), H', ⟨by have := HJ5.out; have := HK2.out; omega⟩, ⟨by (with_reducible repeat (first | apply Kd.R_alloc | apply Kd.R_drewN | apply Kd.R_drew)); exact HO_8.out⟩, ⟨by repeat (first | (with_reducible first | exact HB.out | apply below_alloc | apply pw_below_drewN | apply below_drew1) | exact HB.out)⟩⟩
         ·rw [if_neg c16] at H
          exact absurd H (by simp)
        ·rw [if_neg c15] at H
         exact absurd H (by simp)
       ·rw [if_neg c14] at H
        have c14b0 : decide (x41_2 < (t152.length : Int)) = false := decide_eq_false c14
        clear c14
        have H' := Aside0.mk H
        clear H
        go_wp2
        go_loopg [10, 11, 14] k2 (fun kq v10 v11 v14 w' => ∃ (x10_3 : Int) (x11_3 : Int) (x14_3 : Int), v10 = .int .i64 x10_3 ∧ v11 = .int .i64 x11_3 ∧ v14 = .int .i64 x14_3 ∧ Aside0 (knockout_Meet.l1 kq x10_3 x11_3 x14_3 = some (r1, r2)) ∧ Aside0 (kq ≤ k2) ∧ Aside0 (Below w.heap.size w w'))
        case atStart => exact ⟨(x10_2), (x11_2), (0), (by first | rfl | (simp; done) | (simp [*]; done)), (by first | rfl | (simp; done) | (simp [*]; done)), (by first | rfl | (simp; done) | (simp [*]; done)), H', ⟨Nat.le_refl _⟩, ⟨by repeat (first | (with_reducible first | exact HB.out | apply below_alloc | apply pw_below_drewN | apply below_drew1) | exact HB.out)⟩⟩
        case round =>
         clear H'
         try clear c1
         try clear p1
         try clear q1
         try clear hx1
         try clear c2
         try clear p2
         try clear c5
         try clear c5b0
         try clear c5b1
         try clear p6
         try clear c9
         try clear c9b0
         try clear c11
         try clear c11b0
         try clear c12
         try clear c14
         try clear c14b0
         try clear c15
         try clear c15b0
         try clear p15
         try clear q15
         try clear hx15
         try clear c16
         try clear c16b0
         try clear c17
         try clear c17b0
         try clear c17b1
         try clear c18
         try clear c18b0
         try clear c18b1
         try clear c19
         try clear c19b0
         try clear c19b1
         try clear hx156_0
         try clear p156
         try clear p2
         try clear q156
         obtain ⟨x10_3, x11_3, x14_3, rfl, rfl, rfl, HA, HK3, HB⟩ := hrel
         cases gk with
         | zero => exact absurd HA.out (by simp [knockout_Meet.l1])
         | succ k3 =>
          have H := HA.out
          clear HA
          simp only [knockout_Meet.l1] at H
          by_cases c20 : (wrap64 (Int.tdiv x10_3 2)) = (wrap64 (Int.tdiv x11_3 2))
          ·rw [if_pos c20] at H
           have c20b0 : ((wrap64 (Int.tdiv x10_3 2)) == (wrap64 (Int.tdiv x11_3 2))) = true := beq_iff_eq.mpr c20
           have c20b1 : ((wrap64 (Int.tdiv x10_3 2)) != (wrap64 (Int.tdiv x11_3 2))) = false := bne_eq_false_iff_eq.mpr c20
           clear c20
           simp only [Option.some.injEq, Prod.mk.injEq] at H
           obtain ⟨rfl, rfl⟩ := H
           go_wp2
           go_ret2
           exact ⟨by first | rfl | (simp [errW_none, errW_some] <;> rfl) | (simp [*, errW_none, errW_some] <;> rfl), by repeat (first | (with_reducible first | exact HB.out | apply below_alloc | apply pw_below_drewN | apply below_drew1) | exact HB.out)⟩
          ·rw [if_neg c20] at H
           have c20b0 : ((wrap64 (Int.tdiv x10_3 2)) == (wrap64 (Int.tdiv x11_3 2))) = false := beq_eq_false_iff_ne.mpr c20
           have c20b1 : ((wrap64 (Int.tdiv x10_3 2)) != (wrap64 (Int.tdiv x11_3 2))) = true := bne_iff_ne.mpr c20
           have H' := Aside0.mk H
           clear H
           go_wp2
           go_roundg k3
           case measure => have := HJ5.out; have := HK2.out; have := HK3.out; omega
           case rel => exact ⟨(wrap64 (Int.tdiv x10_3 2)), (wrap64 (Int.tdiv x11_3 2)), (wrap64 (x14_3 + 1)), (by first | rfl | (simp; done) | (simp [*]; done)), (by first | rfl | (simp; done) | (simp [*]; done)), (by first | rfl | (simp; done) | (simp [*]; done)), H', ⟨by have := HJ5.out; have := HK2.out; have := HK3.out; omega⟩, ⟨by repeat (first | (with_reducible first | exact HB.out | apply below_alloc | apply pw_below_drewN | apply below_drew1) | exact HB.out)⟩⟩
 ·rw [if_neg c5] at H
  have c5b0 : (t153 == 0) = false := beq_eq_false_iff_ne.mpr c5
  have c5b1 : (t153 != 0) = true := bne_iff_ne.mpr c5
  simp only [Option.some.injEq, Prod.mk.injEq] at H
  obtain ⟨rfl, rfl⟩ := H
  go_enter Try.func29, Try.ntmps29
  go_wp2_with (first | ((with_reducible refine gate_callee (f := 27) rfl ?_); refine goesL_ (some 17) rfl rfl Try.func27 (by kernel_rfl) rfl #[.int .i64 a0] rfl (by (try simp only [List.map_toArray, List.map_cons, List.map_nil]); first | done | rfl | (simp only [List.length_drop, List.length_take]; rfl)) ?_; (with_reducible refine (knockout_Seeds.calls k a0 t152 t153 _ A4.out).mono ?_); rintro e w21 ⟨v154, rfl, ho0, hb⟩; refine ⟨_, rfl, ?_⟩; have n0_ := Aside0.mk (Kd.R_lower ho0 (below_size (by repeat (first | (with_reducible first | exact HB.out | apply below_alloc | apply pw_below_drewN | apply below_drew1) | exact HB.out)))); have n1_ := Aside0.mk (below_step (by repeat (first | (with_reducible first | exact HB.out | apply below_alloc | apply pw_below_drewN | apply below_drew1) | exact HB.out)) hb); clear HB; have HO155 := n0_; have HB := n1_; clear n0_ n1_; (try clear hb); (try clear hb2); (try clear hk); (try clear hi); (try clear ho0)))
  go_ret2
  exact ⟨by first | rfl | (simp [errW_none, errW_some] <;> rfl) | (simp [*, errW_none, errW_some] <;> rfl), by repeat (first | (with_reducible first | exact HB.out | apply below_alloc | apply pw_below_drewN | apply below_drew1) | exact HB.out)⟩

/-! ### gamehallref3_Seat: function 30 -/
def gamehallref3_Seat.f : Nat → Int → Int → Option (Int)
  | 0, _, _ => none
  | k + 1, a0, a1 => if a0 = 0 then (some 0) else ((gamehallref3_Seat.f k (wrap64 (a0 - 1)) (wrap64 (Int.tdiv a1 2))).bind fun t157 => (if (((Int.tmod a1 2) == 0) == ((Int.tmod (wrap64 (Int.tdiv a1 2)) 2) == 0)) = true then (some t157) else (if 0 ≤ a0 then (some (wrap64 ((wrap64 ((shl .i64 1 a0) - 1)) - t157))) else (none))))
theorem gamehallref3_Seat.mono_l : ∀ k, (∀ y0 y1, LeO (gamehallref3_Seat.f k y0 y1) (gamehallref3_Seat.f (k + 1) y0 y1))
  | 0 => fun _ _ r h => by simp [gamehallref3_Seat.f] at h
  | k + 1 => by
    have ih0 := gamehallref3_Seat.mono_l k
    · intro y0 y1
      unfold gamehallref3_Seat.f
      repeat' first
      | (with_reducible exact ih0 _ _)
      | (with_reducible exact LeO.refl _)
      | (with_reducible exact LeO.none _)
      | (with_reducible refine LeO.ite ?_ ?_)
      | (with_reducible refine LeO.bind ?_ (fun _ => ?_))
      | exact ih0 _ _
      | exact LeO.none _
      | refine LeO.ite ?_ ?_
      | refine LeO.bind ?_ (fun _ => ?_)
theorem gamehallref3_Seat.mono : ∀ a0 a1 k, LeO (gamehallref3_Seat.f k a0 a1) (gamehallref3_Seat.f (k + 1) a0 a1) := by
  intro a0 a1 k
  have ih0 := gamehallref3_Seat.mono_l k
  exact ih0 a0 a1
set_option maxHeartbeats 8000000 in
set_option maxRecDepth 100000 in
theorem gamehallref3_Seat.calls (k : Nat) : ∀ (a0 : Int) (a1 : Int) (r : Int) (w : World) (h : gamehallref3_Seat.f k a0 a1 = some r),
    Calls Try.prog 30 #[.int .i64 a0, .int .i64 a1] w fun e w' => e = .returned (.int .i64 r) ∧ Drawn0 w w' := by
 induction k using Nat.strongRecOn with
 | _ k ih =>
 intro a0 a1 r w h
 cases k with
 | zero => exact absurd h (by simp [gamehallref3_Seat.f])
 | succ k =>
 simp only [gamehallref3_Seat.f] at h
 have H : (if a0 = 0 then (some 0) else ((gamehallref3_Seat.f k (wrap64 (a0 - 1)) (wrap64 (Int.tdiv a1 2))).bind fun t157 => (if (((Int.tmod a1 2) == 0) == ((Int.tmod (wrap64 (Int.tdiv a1 2)) 2) == 0)) = true then (some t157) else (if 0 ≤ a0 then (some (wrap64 ((wrap64 ((shl .i64 1 a0) - 1)) - t157))) else (none))))) = some r := h
 clear h
 by_cases c3 : a0 = 0
 ·rw [if_pos c3] at H
  have c3b0 : (a0 == 0) = true := beq_iff_eq.mpr c3
  have c3b1 : (a0 != 0) = false := bne_eq_false_iff_eq.mpr c3
  clear c3
  obtain rfl := Option.some.inj H
  go_enter Try.func30, Try.ntmps30
  go_wp2
  go_ret
  exact ⟨by first | rfl | (simp; done) | (simp [*]; done), by repeat (first | exact Drawn0.refl _ | apply Drawn0.step)⟩
 ·rw [if_neg c3] at H
  have c3b0 : (a0 == 0) = false := beq_eq_false_iff_ne.mpr c3
  have c3b1 : (a0 != 0) = true := bne_iff_ne.mpr c3
  replace H := Option.bind_eq_some_iff.mp H
  obtain ⟨t157, A40, H⟩ := H
  replace H : (if (((Int.tmod a1 2) == 0) == ((Int.tmod (wrap64 (Int.tdiv a1 2)) 2) == 0)) = true then (some t157) else (if 0 ≤ a0 then (some (wrap64 ((wrap64 ((shl .i64 1 a0) - 1)) - t157))) else (none))) = some r := H
  have A4 := Aside0.mk A40
  clear A40
  by_cases c5 : (((Int.tmod a1 2) == 0) == ((Int.tmod (wrap64 (Int.tdiv a1 2)) 2) == 0)) = true
  ·rw [if_pos c5] at H
   have c5b0 : (((Int.tmod a1 2) == 0) == ((Int.tmod (wrap64 (Int.tdiv a1 2)) 2) == 0)) = true := c5
   (try (have c5b1 : decide (((Int.tmod a1 2) == 0) = ((Int.tmod (wrap64 (Int.tdiv a1 2)) 2) == 0)) = true := by simpa using c5))
   (try (have c5b2 : (((Int.tmod a1 2) == 0) == ((Int.tmod (wrap64 (Int.tdiv a1 2)) 2) == 0)) = true := by simpa using c5))
   clear c5
   obtain rfl := Option.some.inj H
   go_enter Try.func30, Try.ntmps30
   go_wp2_with (first | ((with_reducible refine gate_callee (f := 30) rfl ?_); refine goesL_ (some 12) rfl rfl Try.func30 (by kernel_rfl) rfl #[.int .i64 (wrap64 (a0 - 1)), .int .i64 (wrap64 (Int.tdiv a1 2))] rfl (by (try simp only [List.map_toArray, List.map_cons, List.map_nil]); first | done | rfl | (simp only [List.length_drop, List.length_take]; rfl)) ?_; (with_reducible refine (ih k (by omega) (wrap64 (a0 - 1)) (wrap64 (Int.tdiv a1 2)) t157 _ A4.out).mono ?_); rintro e w' ⟨rfl, ⟨nd, rfl⟩⟩; refine ⟨_, rfl, ?_⟩))
   go_ret
   exact ⟨by first | rfl | (simp; done) | (simp [*]; done), by repeat (first | exact Drawn0.refl _ | apply Drawn0.step)⟩
  ·rw [if_neg c5] at H
   have c5b0 : (((Int.tmod a1 2) == 0) == ((Int.tmod (wrap64 (Int.tdiv a1 2)) 2) == 0)) = false := by simpa using c5
   (try (have c5b1 : decide (((Int.tmod a1 2) == 0) = ((Int.tmod (wrap64 (Int.tdiv a1 2)) 2) == 0)) = false := by simpa using c5))
   (try (have c5b2 : (((Int.tmod a1 2) == 0) == ((Int.tmod (wrap64 (Int.tdiv a1 2)) 2) == 0)) = false := by simpa using c5))
   (try (have c5b3 : ¬ (((Int.tmod a1 2) == 0) = ((Int.tmod (wrap64 (Int.tdiv a1 2)) 2) == 0)) := by simpa using c5))
   clear c5
   by_cases c6 : 0 ≤ a0
   ·rw [if_pos c6] at H
    have c6b0 := eq_true c6
    have c6b1 : decide (0 ≤ a0) = true := decide_eq_true c6
    clear c6
    obtain ⟨ji7, hji7⟩ : ∃ j_ : Int, (shl .i64 1 a0) = j_ := ⟨_, rfl⟩
    replace H : (some (wrap64 ((wrap64 ((ji7) - 1)) - t157))) = some r := by first | (rw [hji7] at H; exact H) | (simp only [hji7] at H ⊢; exact H)
    (try rw [hji7] at A4)
    have hji7_ : (IntKind.i64.wrap (1 * 2 ^ min a0.toNat 64)) = ji7 := hji7
    have hji7z : a0 ≤ 64 → (IntKind.i64.wrap (1 * 2 ^ a0.toNat)) = ji7 := shl_small hji7
    have hji7u : (IntKind.i64.wrap (2 ^ min a0.toNat 64)) = ji7 := by have h_ := hji7_; rw [Int.one_mul] at h_; exact h_
    have hji7v : a0 ≤ 64 → (IntKind.i64.wrap (2 ^ a0.toNat)) = ji7 := fun hle_ => by have h_ := hji7z hle_; rw [Int.one_mul] at h_; exact h_
    have hji7y : (wrap64 (1 * 2 ^ min a0.toNat 64)) = ji7 := (i64_w _).symm.trans hji7_
    have hji7x : a0 ≤ 64 → (wrap64 (1 * 2 ^ a0.toNat)) = ji7 := fun h_ => (i64_w _).symm.trans (hji7z h_)
    obtain rfl := Option.some.inj H
    go_enter Try.func30, Try.ntmps30
    go_wp2_with (first | ((with_reducible refine gate_callee (f := 30) rfl ?_); refine goesL_ (some 12) rfl rfl Try.func30 (by kernel_rfl) rfl #[.int .i64 (wrap64 (a0 - 1)), .int .i64 (wrap64 (Int.tdiv a1 2))] rfl (by (try simp only [List.map_toArray, List.map_cons, List.map_nil]); first | done | rfl | (simp only [List.length_drop, List.length_take]; rfl)) ?_; (with_reducible refine (ih k (by omega) (wrap64 (a0 - 1)) (wrap64 (Int.tdiv a1 2)) t157 _ A4.out).mono ?_); rintro e w' ⟨rfl, ⟨nd, rfl⟩⟩; refine ⟨_, rfl, ?_⟩))
    go_ret
    exact ⟨by first | rfl | (simp; done) | (simp only [← hji7] <;> (first | rfl | simp)) | (simp [*]; done), by repeat (first | exact Drawn0.refl _ | apply Drawn0.step)⟩
   ·rw [if_neg c6] at H
    exact absurd H (by simp)

end Go.Proofs.Yteooljkamebenaa.PKnockoutPlays
