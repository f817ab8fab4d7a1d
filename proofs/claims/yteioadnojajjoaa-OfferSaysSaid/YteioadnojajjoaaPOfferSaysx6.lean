-- Printed by a program of this claim's writer (wip/ext): an extension of the kit's print.
import Derived.Test.YteioadnojajjoaaPOfferSaysx0
namespace Go.Proofs.Yteioadnojajjoaa.POfferSays
open Go.RowKit Go.Proofs.YteioadnojajjoaaW.PrintWords Go.Proofs.YteioadnojajjoaaW.PrintLast Go.Proofs.YteioadnojajjoaaW.PrintMore
attribute [local go_sem] max2_int min2_int max_two min_two max_three min_three max_four min_four   -- for this text's walks alone
set_option linter.unusedVariables false
set_option linter.unusedSimpArgs false

/-! ### gamehalllaw3_offerFault: function 10 -/
mutual
def gamehalllaw3_offerFault.l0 : Nat → Int → Int → Int → Int → Int → Int → Int → Int → Int → Int → Option (Int)
  | 0, _, _, _, _, _, _, _, _, _, _ => none
  | k + 1, x1, x2, x3, x11, z138a, z138b, z138c, z138d, z138e, z138f => if x11 < 2 then (if 0 ≤ x11 then (if x11 = 0 then (if z138a < (-1) then (gamehalllaw3_offerFault.j1 k x1 x2 x3 x11 x11 true z138a z138b z138c z138d z138e z138f) else (if z138a > 1 then (gamehalllaw3_offerFault.j1 k x1 x2 x3 x11 x11 true z138a z138b z138c z138d z138e z138f) else (if (mn z138c z138d) < (-1) then (gamehalllaw3_offerFault.j1 k x1 x2 x3 x11 x11 true z138a z138b z138c z138d z138e z138f) else (gamehalllaw3_offerFault.j1 k x1 x2 x3 x11 x11 (decide ((mx z138c z138d) > 400)) z138a z138b z138c z138d z138e z138f)))) else (if z138b < (-1) then (gamehalllaw3_offerFault.j1 k x1 x2 x3 x11 x11 true z138a z138b z138c z138d z138e z138f) else (if z138b > 1 then (gamehalllaw3_offerFault.j1 k x1 x2 x3 x11 x11 true z138a z138b z138c z138d z138e z138f) else (if (mn z138e z138f) < (-1) then (gamehalllaw3_offerFault.j1 k x1 x2 x3 x11 x11 true z138a z138b z138c z138d z138e z138f) else (gamehalllaw3_offerFault.j1 k x1 x2 x3 x11 x11 (decide ((mx z138e z138f) > 400)) z138a z138b z138c z138d z138e z138f))))) else (none)) else (if x1 = 0 then (if x2 = 0 then (if x3 < 0 then (some 1) else (if x3 > 400 then (some 1) else (some 0))) else (if x2 = 1 then (if x3 < 0 then (some 1) else (if x3 > 400 then (some 1) else (some 0))) else (some 1))) else (if x1 = 1 then (if x2 = 0 then (if x3 < 0 then (some 1) else (if x3 > 400 then (some 1) else (some 0))) else (if x2 = 1 then (if x3 < 0 then (some 1) else (if x3 > 400 then (some 1) else (some 0))) else (some 1))) else (some 1)))
def gamehalllaw3_offerFault.j1 : Nat → Int → Int → Int → Int → Int → Bool → Int → Int → Int → Int → Int → Int → Option (Int)
  | 0, _, _, _, _, _, _, _, _, _, _, _, _ => none
  | k + 1, x1, x2, x3, x9, x11, x53, z138a, z138b, z138c, z138d, z138e, z138f => if x53 = true then (some 4) else (if 0 ≤ x9 then (if x9 < 2 then (if x9 = 0 then (if z138a ≥ 0 then (if 0 ≤ z138a then (if z138a < 2 then (if z138a = 0 then (if z138c = (-1) then (some 3) else (gamehalllaw3_offerFault.l0 k x1 x2 x3 (wrap64 (x11 + 1)) z138a z138b z138c z138d z138e z138f)) else (if z138d = (-1) then (some 3) else (gamehalllaw3_offerFault.l0 k x1 x2 x3 (wrap64 (x11 + 1)) z138a z138b z138c z138d z138e z138f))) else (none)) else (none)) else (gamehalllaw3_offerFault.l0 k x1 x2 x3 (wrap64 (x11 + 1)) z138a z138b z138c z138d z138e z138f)) else (if z138b ≥ 0 then (if 0 ≤ z138b then (if z138b < 2 then (if z138b = 0 then (if z138e = (-1) then (some 3) else (gamehalllaw3_offerFault.l0 k x1 x2 x3 (wrap64 (x11 + 1)) z138a z138b z138c z138d z138e z138f)) else (if z138f = (-1) then (some 3) else (gamehalllaw3_offerFault.l0 k x1 x2 x3 (wrap64 (x11 + 1)) z138a z138b z138c z138d z138e z138f))) else (none)) else (none)) else (gamehalllaw3_offerFault.l0 k x1 x2 x3 (wrap64 (x11 + 1)) z138a z138b z138c z138d z138e z138f))) else (none)) else (none))
end
def gamehalllaw3_offerFault.f (k : Nat) (a0_0 : Int) (a0_1 : Int) (a0_2 : Int) (a0_3 : Int) (a0_4 : Int) (a0_5 : Int) (a1 : Int) (a2 : Int) (a3 : Int) : Option (Int) := gamehalllaw3_offerFault.l0 k a1 a2 a3 0 a0_0 a0_1 a0_2 a0_3 a0_4 a0_5
theorem gamehalllaw3_offerFault.mono_l : ∀ k, (∀ y0 y1 y2 y3 y4 y5 y6 y7 y8 y9, LeO (gamehalllaw3_offerFault.l0 k y0 y1 y2 y3 y4 y5 y6 y7 y8 y9) (gamehalllaw3_offerFault.l0 (k + 1) y0 y1 y2 y3 y4 y5 y6 y7 y8 y9)) ∧ (∀ y0 y1 y2 y3 y4 y5 y6 y7 y8 y9 y10 y11, LeO (gamehalllaw3_offerFault.j1 k y0 y1 y2 y3 y4 y5 y6 y7 y8 y9 y10 y11) (gamehalllaw3_offerFault.j1 (k + 1) y0 y1 y2 y3 y4 y5 y6 y7 y8 y9 y10 y11))
  | 0 => ⟨fun _ _ _ _ _ _ _ _ _ _ r h => by simp [gamehalllaw3_offerFault.l0] at h, fun _ _ _ _ _ _ _ _ _ _ _ _ r h => by simp [gamehalllaw3_offerFault.j1] at h⟩
  | k + 1 => by
    obtain ⟨ih0, ih1⟩ := gamehalllaw3_offerFault.mono_l k
    refine ⟨?_, ?_⟩
    · intros
      unfold gamehalllaw3_offerFault.l0
      repeat' first
      | (with_reducible apply ih0)
      | (with_reducible apply ih1)
      | (with_reducible exact LeO.refl _)
      | (with_reducible exact LeO.none _)
      | (with_reducible refine LeO.ite ?_ ?_)
      | (with_reducible refine LeO.bind ?_ (fun _ => ?_))
      | apply ih0
      | apply ih1
      | exact LeO.none _
      | refine LeO.ite ?_ ?_
      | refine LeO.bind ?_ (fun _ => ?_)
    · intros
      unfold gamehalllaw3_offerFault.j1
      repeat' first
      | (with_reducible apply ih0)
      | (with_reducible apply ih1)
      | (with_reducible exact LeO.refl _)
      | (with_reducible exact LeO.none _)
      | (with_reducible refine LeO.ite ?_ ?_)
      | (with_reducible refine LeO.bind ?_ (fun _ => ?_))
      | apply ih0
      | apply ih1
      | exact LeO.none _
      | refine LeO.ite ?_ ?_
      | refine LeO.bind ?_ (fun _ => ?_)
theorem gamehalllaw3_offerFault.mono : ∀ a0 a1 a2 a3 a4 a5 a6 a7 a8 k, LeO (gamehalllaw3_offerFault.f k a0 a1 a2 a3 a4 a5 a6 a7 a8) (gamehalllaw3_offerFault.f (k + 1) a0 a1 a2 a3 a4 a5 a6 a7 a8) := by
  intro a0 a1 a2 a3 a4 a5 a6 a7 a8 k
  obtain ⟨ih0, ih1⟩ := gamehalllaw3_offerFault.mono_l k
  unfold gamehalllaw3_offerFault.f
  repeat' first
      | (with_reducible apply ih0)
      | (with_reducible apply ih1)
      | (with_reducible exact LeO.refl _)
      | (with_reducible exact LeO.none _)
      | (with_reducible refine LeO.ite ?_ ?_)
      | (with_reducible refine LeO.bind ?_ (fun _ => ?_))
      | apply ih0
      | apply ih1
      | exact LeO.none _
      | refine LeO.ite ?_ ?_
      | refine LeO.bind ?_ (fun _ => ?_)
set_option maxHeartbeats 8000000 in
set_option maxRecDepth 100000 in
theorem gamehalllaw3_offerFault.calls (k : Nat) (a0_0 : Int) (a0_1 : Int) (a0_2 : Int) (a0_3 : Int) (a0_4 : Int) (a0_5 : Int) (a1 : Int) (a2 : Int) (a3 : Int) (r : Int) (w : World) (h : gamehalllaw3_offerFault.f k a0_0 a0_1 a0_2 a0_3 a0_4 a0_5 a1 a2 a3 = some r) :
    Calls Try.prog 10 #[.agg #[.int .i64 a0_0, .int .i64 a0_1, .int .i64 a0_2, .int .i64 a0_3, .int .i64 a0_4, .int .i64 a0_5], .int .i64 a1, .int .i64 a2, .int .i64 a3] w fun e w' => e = .returned (.int .i64 r) ∧ Below w.heap.size w w' := by
 have hu25 := Try.underlying25; have HB := Aside0.mk (Below.refl w.heap.size w); have hss_ := @isSome_setCell
 have H : (gamehalllaw3_offerFault.l0 k a1 a2 a3 0 a0_0 a0_1 a0_2 a0_3 a0_4 a0_5) = some r := h
 clear h
 have H' := Aside0.mk H
 clear H
 go_enter Try.func10, Try.ntmps10
 go_wp2_with (first | ((with_reducible refine gate_dst (N := 4) rfl ?_); (try (refine gate_guard (by rfl) ?_; dsimp only)); refine box_event ?hg (N := 4) ?hd (cs := #[.int .i64 a0_0, .int .i64 a0_1, .int .i64 a0_2, .int .i64 a0_3, .int .i64 a0_4, .int .i64 a0_5]) (t := 25) ?hr ?_; (case hd => rfl); (case hg => rfl); (case hr => first | (go_simp; done) | (go_simp; rfl)); intro gb137 hg w5 hbox hb; have BK137 := Aside0.mk (hbox); have GW137 := Aside0.mk (xZ HB hg); have GE137 := Aside0.mk (xZ HB hg); replace HB := Aside0.mk (xS HB hb); clear hb hbox hg))
 repeat (go_quiet (first | ((with_reducible refine gate_dst (N := 4) rfl ?_); (try (refine gate_guard (by rfl) ?_; dsimp only)); refine box_event ?hg (N := 4) ?hd (cs := #[.int .i64 a0_0, .int .i64 a0_1, .int .i64 a0_2, .int .i64 a0_3, .int .i64 a0_4, .int .i64 a0_5]) (t := 25) ?hr ?_; (case hd => rfl); (case hg => rfl); (case hr => first | (go_simp; done) | (go_simp; rfl)); intro gb137 hg w5 hbox hb; have BK137 := Aside0.mk (hbox); have GW137 := Aside0.mk (xZ HB hg); have GE137 := Aside0.mk (xZ HB hg); replace HB := Aside0.mk (xS HB hb); clear hb hbox hg)); try go_wp2_with (first | ((with_reducible refine gate_dst (N := 4) rfl ?_); (try (refine gate_guard (by rfl) ?_; dsimp only)); refine box_event ?hg (N := 4) ?hd (cs := #[.int .i64 a0_0, .int .i64 a0_1, .int .i64 a0_2, .int .i64 a0_3, .int .i64 a0_4, .int .i64 a0_5]) (t := 25) ?hr ?_; (case hd => rfl); (case hg => rfl); (case hr => first | (go_simp; done) | (go_simp; rfl)); intro gb137 hg w5 hbox hb; have BK137 := Aside0.mk (hbox); have GW137 := Aside0.mk (xZ HB hg); have GE137 := Aside0.mk (xZ HB hg); replace HB := Aside0.mk (xS HB hb); clear hb hbox hg)))
 go_loopg [11] k (fun kq vs11 w' => ∃ (x11_1 : Int), vs11 = .int .i64 x11_1 ∧ Aside0 (gamehalllaw3_offerFault.l0 kq a1 a2 a3 x11_1 a0_0 a0_1 a0_2 a0_3 a0_4 a0_5 = some r) ∧ Aside0 (kq ≤ k) ∧ Aside0 (w'.heap[gb137]? = some (.cells #[.int .i64 a0_0, .int .i64 a0_1, .int .i64 a0_2, .int .i64 a0_3, .int .i64 a0_4, .int .i64 a0_5] 25 (0, 0))) ∧ Aside0 (Below w.heap.size w w'))
 case atStart => exact ⟨(0), (xrf), H', ⟨Nat.le_refl _⟩, ⟨xK BK137⟩, ⟨xW HB⟩⟩
 case round =>
  clear H'; (try clear p2)
  obtain ⟨x11_1, rfl, HA, HK1, BK137, HB⟩ := hrel
  cases gk with
  | zero => exact absurd HA.out (by simp [gamehalllaw3_offerFault.l0])
  | succ k1 =>
   have H := HA.out; clear HA
   simp only [gamehalllaw3_offerFault.l0] at H
   by_cases c6 : x11_1 < 2
   ·rw [if_pos c6] at H
    have c6b0 : decide (x11_1 < 2) = true := decide_eq_true c6
    clear c6; have HC7 := Aside0.mk H; clear H
    go_upto_region 4 with (fail)
    repeat (go_quiet (fail); go_upto_region 4 with (fail))
    go_cut [53] (fun vs53 wc => ∃ (kq : Nat) (x53_6 : Bool), vs53 = .bool x53_6 ∧ Aside0 (gamehalllaw3_offerFault.j1 kq a1 a2 a3 x11_1 x11_1 x53_6 a0_0 a0_1 a0_2 a0_3 a0_4 a0_5 = some r) ∧ Aside0 (kq ≤ k1) ∧ Aside0 (wc.heap[gb137]? = some (.cells #[.int .i64 a0_0, .int .i64 a0_1, .int .i64 a0_2, .int .i64 a0_3, .int .i64 a0_4, .int .i64 a0_5] 25 (0, 0))) ∧ Aside0 (Below w.heap.size w wc))
    case first =>
     have H := HC7.out; clear HC7
     by_cases c8 : 0 ≤ x11_1
     ·rw [if_pos c8] at H
      have c8b0 : decide (0 ≤ x11_1) = true := decide_eq_true c8
      clear c8
      (first | rw [c8b0] | (simp only [i64_w, i32_w]; rw [c8b0]) | skip)
      by_cases c9 : x11_1 = 0
      ·rw [if_pos c9] at H
       have c9b0 : (x11_1 == 0) = true := beq_iff_eq.mpr c9
       have c9b1 : (x11_1 != 0) = false := bne_eq_false_iff_eq.mpr c9
       clear c9; obtain ⟨c10b, c10g, c10c, c10d⟩ := xar (x11_1 : Int) 0 0 2
       by_cases c11 : a0_0 < (-1)
       ·rw [if_pos c11] at H
        have c11b0 : decide (a0_0 < (-1)) = true := decide_eq_true c11
        clear c11
        have H' := Aside0.mk H
        clear H; have hcz12_0 := blkc6 BK137.out
        go_wp2
        repeat (go_quiet (fail); try go_wp2)
        go_meet
        case rel => exact ⟨_, (true), (xrf), H', ⟨by have := HK1.out; first | omega | exact Nat.le_refl _⟩, ⟨xK BK137⟩, ⟨xW HB⟩⟩
       ·rw [if_neg c11] at H
        have c11b0 : decide (a0_0 < (-1)) = false := decide_eq_false c11
        clear c11; obtain ⟨c13b, c13g, c13c, c13d⟩ := xar (x11_1 : Int) 0 0 2
        by_cases c14 : a0_0 > 1
        ·rw [if_pos c14] at H
         have c14b0 : decide (1 < a0_0) = true := decide_eq_true c14
         clear c14
         have H' := Aside0.mk H
         clear H; have hcz15_0 := blkc6 BK137.out
         go_wp2
         repeat (go_quiet (fail); try go_wp2)
         go_meet
         case rel => exact ⟨_, (true), (xrf), H', ⟨by have := HK1.out; first | omega | exact Nat.le_refl _⟩, ⟨xK BK137⟩, ⟨xW HB⟩⟩
        ·rw [if_neg c14] at H
         have c14b0 : decide (1 < a0_0) = false := decide_eq_false c14
         clear c14; obtain ⟨c16b, c16g, c16c, c16d⟩ := xar (x11_1 : Int) 0 0 2; obtain ⟨c17b, c17g, c17c, c17d⟩ := xar (x11_1 : Int) 0 0 2
         obtain ⟨ji18, hji18⟩ : ∃ j_ : Int, (mn a0_2 a0_3) = j_ := ⟨_, rfl⟩
         (first | rw [hji18] at H | simp only [hji18] at H)
         have hji18_ : (if a0_3 < a0_2 then a0_3 else a0_2) = ji18 := hji18
         by_cases c19 : (ji18) < (-1)
         ·rw [if_pos c19] at H
          have c19b0 : decide ((ji18) < (-1)) = true := decide_eq_true c19
          clear c19
          have H' := Aside0.mk H
          clear H; have hcz20_0 := blkc6 BK137.out
          go_wp2
          repeat (go_quiet (fail); try go_wp2)
          go_meet
          case rel => exact ⟨_, (true), (xrf), H', ⟨by have := HK1.out; first | omega | exact Nat.le_refl _⟩, ⟨xK BK137⟩, ⟨xW HB⟩⟩
         ·rw [if_neg c19] at H
          have c19b0 : decide ((ji18) < (-1)) = false := decide_eq_false c19
          clear c19; obtain ⟨c21b, c21g, c21c, c21d⟩ := xar (x11_1 : Int) 0 0 2; obtain ⟨c22b, c22g, c22c, c22d⟩ := xar (x11_1 : Int) 0 0 2
          obtain ⟨ji23, hji23⟩ : ∃ j_ : Int, (mx a0_2 a0_3) = j_ := ⟨_, rfl⟩
          (first | rw [hji23] at H | simp only [hji23] at H)
          have hji23_ : (if a0_2 < a0_3 then a0_3 else a0_2) = ji23 := hji23
          have H' := Aside0.mk H
          clear H; have hcz24_0 := blkc6 BK137.out
          go_wp2
          repeat (go_quiet (fail); try go_wp2)
          go_meet
          case rel => exact ⟨_, (decide ((ji23) > 400)), (by first | rfl | (simp; done) | (simp only [← hji23] <;> (first | rfl | simp)) | (simp [*]; done)), H', ⟨by have := HK1.out; first | omega | exact Nat.le_refl _⟩, ⟨xK BK137⟩, ⟨xW HB⟩⟩
      ·rw [if_neg c9] at H
       have c9b0 : (x11_1 == 0) = false := beq_eq_false_iff_ne.mpr c9
       have c9b1 : (x11_1 != 0) = true := bne_iff_ne.mpr c9
       obtain ⟨c25b, c25g, c25c, c25d⟩ := xar (x11_1 : Int) 1 1 2
       by_cases c26 : a0_1 < (-1)
       ·rw [if_pos c26] at H
        have c26b0 : decide (a0_1 < (-1)) = true := decide_eq_true c26
        clear c26
        have H' := Aside0.mk H
        clear H; have hcz27_0 := blkc6 BK137.out
        go_wp2
        repeat (go_quiet (fail); try go_wp2)
        go_meet
        case rel => exact ⟨_, (true), (xrf), H', ⟨by have := HK1.out; first | omega | exact Nat.le_refl _⟩, ⟨xK BK137⟩, ⟨xW HB⟩⟩
       ·rw [if_neg c26] at H
        have c26b0 : decide (a0_1 < (-1)) = false := decide_eq_false c26
        clear c26; obtain ⟨c28b, c28g, c28c, c28d⟩ := xar (x11_1 : Int) 1 1 2
        by_cases c29 : a0_1 > 1
        ·rw [if_pos c29] at H
         have c29b0 : decide (1 < a0_1) = true := decide_eq_true c29
         clear c29
         have H' := Aside0.mk H
         clear H; have hcz30_0 := blkc6 BK137.out
         go_wp2
         repeat (go_quiet (fail); try go_wp2)
         go_meet
         case rel => exact ⟨_, (true), (xrf), H', ⟨by have := HK1.out; first | omega | exact Nat.le_refl _⟩, ⟨xK BK137⟩, ⟨xW HB⟩⟩
        ·rw [if_neg c29] at H
         have c29b0 : decide (1 < a0_1) = false := decide_eq_false c29
         clear c29; obtain ⟨c31b, c31g, c31c, c31d⟩ := xar (x11_1 : Int) 1 1 2; obtain ⟨c32b, c32g, c32c, c32d⟩ := xar (x11_1 : Int) 1 1 2
         obtain ⟨ji33, hji33⟩ : ∃ j_ : Int, (mn a0_4 a0_5) = j_ := ⟨_, rfl⟩
         (first | rw [hji33] at H | simp only [hji33] at H)
         have hji33_ : (if a0_5 < a0_4 then a0_5 else a0_4) = ji33 := hji33
         by_cases c34 : (ji33) < (-1)
         ·rw [if_pos c34] at H
          have c34b0 : decide ((ji33) < (-1)) = true := decide_eq_true c34
          clear c34
          have H' := Aside0.mk H
          clear H; have hcz35_0 := blkc6 BK137.out
          go_wp2
          repeat (go_quiet (fail); try go_wp2)
          go_meet
          case rel => exact ⟨_, (true), (xrf), H', ⟨by have := HK1.out; first | omega | exact Nat.le_refl _⟩, ⟨xK BK137⟩, ⟨xW HB⟩⟩
         ·rw [if_neg c34] at H
          have c34b0 : decide ((ji33) < (-1)) = false := decide_eq_false c34
          clear c34; obtain ⟨c36b, c36g, c36c, c36d⟩ := xar (x11_1 : Int) 1 1 2; obtain ⟨c37b, c37g, c37c, c37d⟩ := xar (x11_1 : Int) 1 1 2
          obtain ⟨ji38, hji38⟩ : ∃ j_ : Int, (mx a0_4 a0_5) = j_ := ⟨_, rfl⟩
          (first | rw [hji38] at H | simp only [hji38] at H)
          have hji38_ : (if a0_4 < a0_5 then a0_5 else a0_4) = ji38 := hji38
          have H' := Aside0.mk H
          clear H; have hcz39_0 := blkc6 BK137.out
          go_wp2
          repeat (go_quiet (fail); try go_wp2)
          go_meet
          case rel => exact ⟨_, (decide ((ji38) > 400)), (by first | rfl | (simp; done) | (simp only [← hji38] <;> (first | rfl | simp)) | (simp [*]; done)), H', ⟨by have := HK1.out; first | omega | exact Nat.le_refl _⟩, ⟨xK BK137⟩, ⟨xW HB⟩⟩
     ·rw [if_neg c8] at H
      exact absurd H (by simp)
    case rest =>
     clear HC7; (try clear p2); (try clear p2)
     obtain ⟨kq, x53_6, rfl, HA, HJ6, BK137, HB⟩ := hcut
     cases kq with
     | zero => exact absurd HA.out (by simp [gamehalllaw3_offerFault.j1])
     | succ kj6 =>
      have H := HA.out; clear HA
      simp only [gamehalllaw3_offerFault.j1] at H
      by_cases c40 : x53_6 = true
      ·subst c40
       rw [if_pos rfl] at H
       obtain rfl := Option.some.inj H
       go_wp2
       repeat (go_quiet (fail); try go_wp2)
       go_ret
       exact ⟨xer, xW HB⟩
      ·replace c40 := Bool.eq_false_iff.mpr c40
       subst c40
       rw [if_neg (show ¬ (false = true) by decide)] at H
       by_cases c41 : 0 ≤ x11_1
       ·rw [if_pos c41] at H
        have c41b0 : decide (0 ≤ x11_1) = true := decide_eq_true c41
        clear c41
        by_cases c42 : x11_1 < 2
        ·rw [if_pos c42] at H
         have c42b0 : decide (x11_1 < 2) = true := decide_eq_true c42
         clear c42
         by_cases c43 : x11_1 = 0
         ·rw [if_pos c43] at H
          have c43b0 : (x11_1 == 0) = true := beq_iff_eq.mpr c43
          have c43b1 : (x11_1 != 0) = false := bne_eq_false_iff_eq.mpr c43
          clear c43; obtain ⟨c44b, c44g, c44c, c44d⟩ := xar (x11_1 : Int) 0 0 2
          by_cases c45 : a0_0 ≥ 0
          ·rw [if_pos c45] at H
           have c45b0 : decide (0 ≤ a0_0) = true := decide_eq_true c45
           clear c45; obtain ⟨c46b, c46g, c46c, c46d⟩ := xar (x11_1 : Int) 0 0 2
           by_cases c47 : 0 ≤ a0_0
           ·rw [if_pos c47] at H
            have c47b0 : decide (0 ≤ a0_0) = true := decide_eq_true c47
            clear c47
            by_cases c48 : a0_0 < 2
            ·rw [if_pos c48] at H
             have c48b0 : decide (a0_0 < 2) = true := decide_eq_true c48
             clear c48
             by_cases c49 : a0_0 = 0
             ·rw [if_pos c49] at H
              have c49b0 : (a0_0 == 0) = true := beq_iff_eq.mpr c49
              have c49b1 : (a0_0 != 0) = false := bne_eq_false_iff_eq.mpr c49
              clear c49; obtain ⟨c50b, c50g, c50c, c50d⟩ := xar (a0_0 : Int) 0 0 2
              by_cases c51 : a0_2 = (-1)
              ·rw [if_pos c51] at H
               have c51b0 : (a0_2 == (-1)) = true := beq_iff_eq.mpr c51
               have c51b1 : (a0_2 != (-1)) = false := bne_eq_false_iff_eq.mpr c51
               clear c51
               obtain rfl := Option.some.inj H
               have hcz52_0 := blkc6 BK137.out
               go_wp2
               repeat (go_quiet (fail); try go_wp2)
               go_ret
               exact ⟨xer, xW HB⟩
              ·rw [if_neg c51] at H
               have c51b0 : (a0_2 == (-1)) = false := beq_eq_false_iff_ne.mpr c51
               have c51b1 : (a0_2 != (-1)) = true := bne_iff_ne.mpr c51
               have H' := Aside0.mk H
               clear H; have hcz53_0 := blkc6 BK137.out
               go_wp2
               repeat (go_quiet (fail); try go_wp2)
               go_roundg kj6
               case measure => have := HK1.out; have := HJ6.out; omega
               case rel => exact ⟨(wrap64 (x11_1 + 1)), (xrf), H', ⟨by have := HK1.out; have := HJ6.out; omega⟩, ⟨xK BK137⟩, ⟨xW HB⟩⟩
             ·rw [if_neg c49] at H
              have c49b0 : (a0_0 == 0) = false := beq_eq_false_iff_ne.mpr c49
              have c49b1 : (a0_0 != 0) = true := bne_iff_ne.mpr c49
              obtain ⟨c54b, c54g, c54c, c54d⟩ := xar (a0_0 : Int) 1 1 2
              by_cases c55 : a0_3 = (-1)
              ·rw [if_pos c55] at H
               have c55b0 : (a0_3 == (-1)) = true := beq_iff_eq.mpr c55
               have c55b1 : (a0_3 != (-1)) = false := bne_eq_false_iff_eq.mpr c55
               clear c55
               obtain rfl := Option.some.inj H
               have hcz56_0 := blkc6 BK137.out
               go_wp2
               repeat (go_quiet (fail); try go_wp2)
               go_ret
               exact ⟨xer, xW HB⟩
              ·rw [if_neg c55] at H
               have c55b0 : (a0_3 == (-1)) = false := beq_eq_false_iff_ne.mpr c55
               have c55b1 : (a0_3 != (-1)) = true := bne_iff_ne.mpr c55
               have H' := Aside0.mk H
               clear H; have hcz57_0 := blkc6 BK137.out
               go_wp2
               repeat (go_quiet (fail); try go_wp2)
               go_roundg kj6
               case measure => have := HK1.out; have := HJ6.out; omega
               case rel => exact ⟨(wrap64 (x11_1 + 1)), (xrf), H', ⟨by have := HK1.out; have := HJ6.out; omega⟩, ⟨xK BK137⟩, ⟨xW HB⟩⟩
            ·rw [if_neg c48] at H
             exact absurd H (by simp)
           ·rw [if_neg c47] at H
            exact absurd H (by simp)
          ·rw [if_neg c45] at H
           have c45b0 : decide (0 ≤ a0_0) = false := decide_eq_false c45
           clear c45
           have H' := Aside0.mk H
           clear H; have hcz58_0 := blkc6 BK137.out
           go_wp2
           repeat (go_quiet (fail); try go_wp2)
           go_roundg kj6
           case measure => have := HK1.out; have := HJ6.out; omega
           case rel => exact ⟨(wrap64 (x11_1 + 1)), (xrf), H', ⟨by have := HK1.out; have := HJ6.out; omega⟩, ⟨xK BK137⟩, ⟨xW HB⟩⟩
         ·rw [if_neg c43] at H
          have c43b0 : (x11_1 == 0) = false := beq_eq_false_iff_ne.mpr c43
          have c43b1 : (x11_1 != 0) = true := bne_iff_ne.mpr c43
          obtain ⟨c59b, c59g, c59c, c59d⟩ := xar (x11_1 : Int) 1 1 2
          by_cases c60 : a0_1 ≥ 0
          ·rw [if_pos c60] at H
           have c60b0 : decide (0 ≤ a0_1) = true := decide_eq_true c60
           clear c60; obtain ⟨c61b, c61g, c61c, c61d⟩ := xar (x11_1 : Int) 1 1 2
           by_cases c62 : 0 ≤ a0_1
           ·rw [if_pos c62] at H
            have c62b0 : decide (0 ≤ a0_1) = true := decide_eq_true c62
            clear c62
            by_cases c63 : a0_1 < 2
            ·rw [if_pos c63] at H
             have c63b0 : decide (a0_1 < 2) = true := decide_eq_true c63
             clear c63
             by_cases c64 : a0_1 = 0
             ·rw [if_pos c64] at H
              have c64b0 : (a0_1 == 0) = true := beq_iff_eq.mpr c64
              have c64b1 : (a0_1 != 0) = false := bne_eq_false_iff_eq.mpr c64
              clear c64; obtain ⟨c65b, c65g, c65c, c65d⟩ := xar (a0_1 : Int) 0 0 2
              by_cases c66 : a0_4 = (-1)
              ·rw [if_pos c66] at H
               have c66b0 : (a0_4 == (-1)) = true := beq_iff_eq.mpr c66
               have c66b1 : (a0_4 != (-1)) = false := bne_eq_false_iff_eq.mpr c66
               clear c66
               obtain rfl := Option.some.inj H
               have hcz67_0 := blkc6 BK137.out
               go_wp2
               repeat (go_quiet (fail); try go_wp2)
               go_ret
               exact ⟨xer, xW HB⟩
              ·rw [if_neg c66] at H
               have c66b0 : (a0_4 == (-1)) = false := beq_eq_false_iff_ne.mpr c66
               have c66b1 : (a0_4 != (-1)) = true := bne_iff_ne.mpr c66
               have H' := Aside0.mk H
               clear H; have hcz68_0 := blkc6 BK137.out
               go_wp2
               repeat (go_quiet (fail); try go_wp2)
               go_roundg kj6
               case measure => have := HK1.out; have := HJ6.out; omega
               case rel => exact ⟨(wrap64 (x11_1 + 1)), (xrf), H', ⟨by have := HK1.out; have := HJ6.out; omega⟩, ⟨xK BK137⟩, ⟨xW HB⟩⟩
             ·rw [if_neg c64] at H
              have c64b0 : (a0_1 == 0) = false := beq_eq_false_iff_ne.mpr c64
              have c64b1 : (a0_1 != 0) = true := bne_iff_ne.mpr c64
              obtain ⟨c69b, c69g, c69c, c69d⟩ := xar (a0_1 : Int) 1 1 2
              by_cases c70 : a0_5 = (-1)
              ·rw [if_pos c70] at H
               have c70b0 : (a0_5 == (-1)) = true := beq_iff_eq.mpr c70
               have c70b1 : (a0_5 != (-1)) = false := bne_eq_false_iff_eq.mpr c70
               clear c70
               obtain rfl := Option.some.inj H
               have hcz71_0 := blkc6 BK137.out
               go_wp2
               repeat (go_quiet (fail); try go_wp2)
               go_ret
               exact ⟨xer, xW HB⟩
              ·rw [if_neg c70] at H
               have c70b0 : (a0_5 == (-1)) = false := beq_eq_false_iff_ne.mpr c70
               have c70b1 : (a0_5 != (-1)) = true := bne_iff_ne.mpr c70
               have H' := Aside0.mk H
               clear H; have hcz72_0 := blkc6 BK137.out
               go_wp2
               repeat (go_quiet (fail); try go_wp2)
               go_roundg kj6
               case measure => have := HK1.out; have := HJ6.out; omega
               case rel => exact ⟨(wrap64 (x11_1 + 1)), (xrf), H', ⟨by have := HK1.out; have := HJ6.out; omega⟩, ⟨xK BK137⟩, ⟨xW HB⟩⟩
            ·rw [if_neg c63] at H
             exact absurd H (by simp)
           ·rw [if_neg c62] at H
            exact absurd H (by simp)
          ·rw [if_neg c60] at H
           have c60b0 : decide (0 ≤ a0_1) = false := decide_eq_false c60
           clear c60
           have H' := Aside0.mk H
           clear H; have hcz73_0 := blkc6 BK137.out
           go_wp2
           repeat (go_quiet (fail); try go_wp2)
           go_roundg kj6
           case measure => have := HK1.out; have := HJ6.out; omega
           case rel => exact ⟨(wrap64 (x11_1 + 1)), (xrf), H', ⟨by have := HK1.out; have := HJ6.out; omega⟩, ⟨xK BK137⟩, ⟨xW HB⟩⟩
        ·rw [if_neg c42] at H
         exact absurd H (by simp)
       ·rw [if_neg c41] at H
        exact absurd H (by simp)
   ·rw [if_neg c6] at H
    have c6b0 : decide (x11_1 < 2) = false := decide_eq_false c6
    clear c6
    by_cases c74 : a1 = 0
    ·rw [if_pos c74] at H
     have c74b0 : (a1 == 0) = true := beq_iff_eq.mpr c74
     have c74b1 : (a1 != 0) = false := bne_eq_false_iff_eq.mpr c74
     clear c74
     by_cases c75 : a2 = 0
     ·rw [if_pos c75] at H
      have c75b0 : (a2 == 0) = true := beq_iff_eq.mpr c75
      have c75b1 : (a2 != 0) = false := bne_eq_false_iff_eq.mpr c75
      clear c75
      by_cases c76 : a3 < 0
      ·rw [if_pos c76] at H
       have c76b0 : decide (a3 < 0) = true := decide_eq_true c76
       clear c76
       obtain rfl := Option.some.inj H
       go_wp2
       repeat (go_quiet (fail); try go_wp2)
       go_ret
       exact ⟨xer, xW HB⟩
      ·rw [if_neg c76] at H
       have c76b0 : decide (a3 < 0) = false := decide_eq_false c76
       clear c76
       by_cases c77 : a3 > 400
       ·rw [if_pos c77] at H
        have c77b0 : decide (400 < a3) = true := decide_eq_true c77
        clear c77
        obtain rfl := Option.some.inj H
        go_wp2
        repeat (go_quiet (fail); try go_wp2)
        go_ret
        exact ⟨xer, xW HB⟩
       ·rw [if_neg c77] at H
        have c77b0 : decide (400 < a3) = false := decide_eq_false c77
        clear c77
        obtain rfl := Option.some.inj H
        go_wp2
        repeat (go_quiet (fail); try go_wp2)
        go_ret
        exact ⟨xer, xW HB⟩
     ·rw [if_neg c75] at H
      have c75b0 : (a2 == 0) = false := beq_eq_false_iff_ne.mpr c75
      have c75b1 : (a2 != 0) = true := bne_iff_ne.mpr c75
      by_cases c78 : a2 = 1
      ·rw [if_pos c78] at H
       have c78b0 : (a2 == 1) = true := beq_iff_eq.mpr c78
       have c78b1 : (a2 != 1) = false := bne_eq_false_iff_eq.mpr c78
       clear c78
       by_cases c79 : a3 < 0
       ·rw [if_pos c79] at H
        have c79b0 : decide (a3 < 0) = true := decide_eq_true c79
        clear c79
        obtain rfl := Option.some.inj H
        go_wp2
        repeat (go_quiet (fail); try go_wp2)
        go_ret
        exact ⟨xer, xW HB⟩
       ·rw [if_neg c79] at H
        have c79b0 : decide (a3 < 0) = false := decide_eq_false c79
        clear c79
        by_cases c80 : a3 > 400
        ·rw [if_pos c80] at H
         have c80b0 : decide (400 < a3) = true := decide_eq_true c80
         clear c80
         obtain rfl := Option.some.inj H
         go_wp2
         repeat (go_quiet (fail); try go_wp2)
         go_ret
         exact ⟨xer, xW HB⟩
        ·rw [if_neg c80] at H
         have c80b0 : decide (400 < a3) = false := decide_eq_false c80
         clear c80
         obtain rfl := Option.some.inj H
         go_wp2
         repeat (go_quiet (fail); try go_wp2)
         go_ret
         exact ⟨xer, xW HB⟩
      ·rw [if_neg c78] at H
       have c78b0 : (a2 == 1) = false := beq_eq_false_iff_ne.mpr c78
       have c78b1 : (a2 != 1) = true := bne_iff_ne.mpr c78
       obtain rfl := Option.some.inj H
       go_wp2
       repeat (go_quiet (fail); try go_wp2)
       go_ret
       exact ⟨xer, xW HB⟩
    ·rw [if_neg c74] at H
     have c74b0 : (a1 == 0) = false := beq_eq_false_iff_ne.mpr c74
     have c74b1 : (a1 != 0) = true := bne_iff_ne.mpr c74
     by_cases c81 : a1 = 1
     ·rw [if_pos c81] at H
      have c81b0 : (a1 == 1) = true := beq_iff_eq.mpr c81
      have c81b1 : (a1 != 1) = false := bne_eq_false_iff_eq.mpr c81
      clear c81
      by_cases c82 : a2 = 0
      ·rw [if_pos c82] at H
       have c82b0 : (a2 == 0) = true := beq_iff_eq.mpr c82
       have c82b1 : (a2 != 0) = false := bne_eq_false_iff_eq.mpr c82
       clear c82
       by_cases c83 : a3 < 0
       ·rw [if_pos c83] at H
        have c83b0 : decide (a3 < 0) = true := decide_eq_true c83
        clear c83
        obtain rfl := Option.some.inj H
        go_wp2
        repeat (go_quiet (fail); try go_wp2)
        go_ret
        exact ⟨xer, xW HB⟩
       ·rw [if_neg c83] at H
        have c83b0 : decide (a3 < 0) = false := decide_eq_false c83
        clear c83
        by_cases c84 : a3 > 400
        ·rw [if_pos c84] at H
         have c84b0 : decide (400 < a3) = true := decide_eq_true c84
         clear c84
         obtain rfl := Option.some.inj H
         go_wp2
         repeat (go_quiet (fail); try go_wp2)
         go_ret
         exact ⟨xer, xW HB⟩
        ·rw [if_neg c84] at H
         have c84b0 : decide (400 < a3) = false := decide_eq_false c84
         clear c84
         obtain rfl := Option.some.inj H
         go_wp2
         repeat (go_quiet (fail); try go_wp2)
         go_ret
         exact ⟨xer, xW HB⟩
      ·rw [if_neg c82] at H
       have c82b0 : (a2 == 0) = false := beq_eq_false_iff_ne.mpr c82
       have c82b1 : (a2 != 0) = true := bne_iff_ne.mpr c82
       by_cases c85 : a2 = 1
       ·rw [if_pos c85] at H
        have c85b0 : (a2 == 1) = true := beq_iff_eq.mpr c85
        have c85b1 : (a2 != 1) = false := bne_eq_false_iff_eq.mpr c85
        clear c85
        by_cases c86 : a3 < 0
        ·rw [if_pos c86] at H
         have c86b0 : decide (a3 < 0) = true := decide_eq_true c86
         clear c86
         obtain rfl := Option.some.inj H
         go_wp2
         repeat (go_quiet (fail); try go_wp2)
         go_ret
         exact ⟨xer, xW HB⟩
        ·rw [if_neg c86] at H
         have c86b0 : decide (a3 < 0) = false := decide_eq_false c86
         clear c86
         by_cases c87 : a3 > 400
         ·rw [if_pos c87] at H
          have c87b0 : decide (400 < a3) = true := decide_eq_true c87
          clear c87
          obtain rfl := Option.some.inj H
          go_wp2
          repeat (go_quiet (fail); try go_wp2)
          go_ret
          exact ⟨xer, xW HB⟩
         ·rw [if_neg c87] at H
          have c87b0 : decide (400 < a3) = false := decide_eq_false c87
          clear c87
          obtain rfl := Option.some.inj H
          go_wp2
          repeat (go_quiet (fail); try go_wp2)
          go_ret
          exact ⟨xer, xW HB⟩
       ·rw [if_neg c85] at H
        have c85b0 : (a2 == 1) = false := beq_eq_false_iff_ne.mpr c85
        have c85b1 : (a2 != 1) = true := bne_iff_ne.mpr c85
        obtain rfl := Option.some.inj H
        go_wp2
        repeat (go_quiet (fail); try go_wp2)
        go_ret
        exact ⟨xer, xW HB⟩
     ·rw [if_neg c81] at H
      have c81b0 : (a1 == 1) = false := beq_eq_false_iff_ne.mpr c81
      have c81b1 : (a1 != 1) = true := bne_iff_ne.mpr c81
      obtain rfl := Option.some.inj H
      go_wp2
      repeat (go_quiet (fail); try go_wp2)
      go_ret
      exact ⟨xer, xW HB⟩

end Go.Proofs.Yteioadnojajjoaa.POfferSays
