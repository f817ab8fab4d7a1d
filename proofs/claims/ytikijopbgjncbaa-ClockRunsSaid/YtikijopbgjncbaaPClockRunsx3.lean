-- Printed by a program of this claim's writer (wip/ext): an extension of the kit's print.
import Derived.Test.YtikijopbgjncbaaPClockRunsx0
import Derived.Test.YtikijopbgjncbaaPClockRunsx1
namespace Go.Proofs.Ytikijopbgjncbaa.PClockRuns
open Go.RowKit Go.Proofs.YtikijopbgjncbaaW.PrintWords Go.Proofs.YtikijopbgjncbaaW.PrintLast Go.Proofs.YtikijopbgjncbaaW.PrintMore
attribute [local go_sem] max2_int min2_int max_two min_two max_three min_three max_four min_four   -- for this text's walks alone
set_option linter.unusedVariables false
set_option linter.unusedSimpArgs false

attribute [local go_sem high] eqA29
/-! ### clock_Check: function 8 -/
mutual
def clock_Check.j0 : Nat → Bool → List (S54) → Int → Int → Option (Int)
  | 0, _, _, _, _ => none
  | k + 1, x14, z102a, z102b, z102c => if x14 = true then (some 2) else (if (mn z102b z102c) < 0 then (clock_Check.j1 k true z102a z102b z102c) else (clock_Check.j1 k (decide ((mx z102b z102c) > 100000000)) z102a z102b z102c))
def clock_Check.j1 : Nat → Bool → List (S54) → Int → Int → Option (Int)
  | 0, _, _, _, _ => none
  | k + 1, x28, z102a, z102b, z102c => if x28 = true then (some 4) else (clock_Check.l0 k z102a (z102a.length : Int) 0 z102a z102b z102c)
def clock_Check.l0 : Nat → List (S54) → Int → Int → List (S54) → Int → Int → Option (Int)
  | 0, _, _, _, _, _, _ => none
  | k + 1, x30, x31, x32, z102a, z102b, z102c => if x32 < x31 then (if 0 ≤ x32 then (if x32 < (x30.length : Int) then (if ((rd_T54 x30 x32).f0) < 0 then (clock_Check.j3 k x32 x30 x31 x32 true z102a z102b z102c ((rd_T54 x30 x32).f0) ((rd_T54 x30 x32).f1)) else (if ((rd_T54 x30 x32).f0) > 400 then (clock_Check.j3 k x32 x30 x31 x32 true z102a z102b z102c ((rd_T54 x30 x32).f0) ((rd_T54 x30 x32).f1)) else (if ((rd_T54 x30 x32).f1) < 1 then (clock_Check.j3 k x32 x30 x31 x32 true z102a z102b z102c ((rd_T54 x30 x32).f0) ((rd_T54 x30 x32).f1)) else (clock_Check.j3 k x32 x30 x31 x32 (decide (((rd_T54 x30 x32).f1) > 100000000)) z102a z102b z102c ((rd_T54 x30 x32).f0) ((rd_T54 x30 x32).f1))))) else (none)) else (none)) else (some 0)
def clock_Check.j3 : Nat → Int → List (S54) → Int → Int → Bool → List (S54) → Int → Int → Int → Int → Option (Int)
  | 0, _, _, _, _, _, _, _, _, _, _ => none
  | k + 1, x3, x30, x31, x32, x54, z102a, z102b, z102c, z104a, z104b => if x54 = true then (some 4) else (if ((z104a == 0) != (x3 == (wrap64 ((z102a.length : Int) - 1)))) = true then (some 3) else (clock_Check.l0 k x30 x31 (wrap64 (x32 + 1)) z102a z102b z102c))
end
def clock_Check.f (k : Nat) (l0_0 : List (S54)) (a0_1 : Int) (a0_2 : Int) : Option (Int) := if (l0_0.length : Int) = 0 then (clock_Check.j0 k true l0_0 a0_1 a0_2) else (clock_Check.j0 k (decide ((l0_0.length : Int) > 5)) l0_0 a0_1 a0_2)
theorem clock_Check.mono_l : ∀ k, (∀ y0 y1 y2 y3, LeO (clock_Check.j0 k y0 y1 y2 y3) (clock_Check.j0 (k + 1) y0 y1 y2 y3)) ∧ (∀ y0 y1 y2 y3, LeO (clock_Check.j1 k y0 y1 y2 y3) (clock_Check.j1 (k + 1) y0 y1 y2 y3)) ∧ (∀ y0 y1 y2 y3 y4 y5, LeO (clock_Check.l0 k y0 y1 y2 y3 y4 y5) (clock_Check.l0 (k + 1) y0 y1 y2 y3 y4 y5)) ∧ (∀ y0 y1 y2 y3 y4 y5 y6 y7 y8 y9, LeO (clock_Check.j3 k y0 y1 y2 y3 y4 y5 y6 y7 y8 y9) (clock_Check.j3 (k + 1) y0 y1 y2 y3 y4 y5 y6 y7 y8 y9))
  | 0 => ⟨fun _ _ _ _ r h => by simp [clock_Check.j0] at h, fun _ _ _ _ r h => by simp [clock_Check.j1] at h, fun _ _ _ _ _ _ r h => by simp [clock_Check.l0] at h, fun _ _ _ _ _ _ _ _ _ _ r h => by simp [clock_Check.j3] at h⟩
  | k + 1 => by
    obtain ⟨ih0, ih1, ih2, ih3⟩ := clock_Check.mono_l k
    refine ⟨?_, ?_, ?_, ?_⟩
    · intros
      unfold clock_Check.j0
      repeat' first
      | (with_reducible apply ih0)
      | (with_reducible apply ih1)
      | (with_reducible apply ih2)
      | (with_reducible apply ih3)
      | (with_reducible exact LeO.refl _)
      | (with_reducible exact LeO.none _)
      | (with_reducible refine LeO.ite ?_ ?_)
      | (with_reducible refine LeO.bind ?_ (fun _ => ?_))
      | apply ih0
      | apply ih1
      | apply ih2
      | apply ih3
      | exact LeO.none _
      | refine LeO.ite ?_ ?_
      | refine LeO.bind ?_ (fun _ => ?_)
    · intros
      unfold clock_Check.j1
      repeat' first
      | (with_reducible apply ih0)
      | (with_reducible apply ih1)
      | (with_reducible apply ih2)
      | (with_reducible apply ih3)
      | (with_reducible exact LeO.refl _)
      | (with_reducible exact LeO.none _)
      | (with_reducible refine LeO.ite ?_ ?_)
      | (with_reducible refine LeO.bind ?_ (fun _ => ?_))
      | apply ih0
      | apply ih1
      | apply ih2
      | apply ih3
      | exact LeO.none _
      | refine LeO.ite ?_ ?_
      | refine LeO.bind ?_ (fun _ => ?_)
    · intros
      unfold clock_Check.l0
      repeat' first
      | (with_reducible apply ih0)
      | (with_reducible apply ih1)
      | (with_reducible apply ih2)
      | (with_reducible apply ih3)
      | (with_reducible exact LeO.refl _)
      | (with_reducible exact LeO.none _)
      | (with_reducible refine LeO.ite ?_ ?_)
      | (with_reducible refine LeO.bind ?_ (fun _ => ?_))
      | apply ih0
      | apply ih1
      | apply ih2
      | apply ih3
      | exact LeO.none _
      | refine LeO.ite ?_ ?_
      | refine LeO.bind ?_ (fun _ => ?_)
    · intros
      unfold clock_Check.j3
      repeat' first
      | (with_reducible apply ih0)
      | (with_reducible apply ih1)
      | (with_reducible apply ih2)
      | (with_reducible apply ih3)
      | (with_reducible exact LeO.refl _)
      | (with_reducible exact LeO.none _)
      | (with_reducible refine LeO.ite ?_ ?_)
      | (with_reducible refine LeO.bind ?_ (fun _ => ?_))
      | apply ih0
      | apply ih1
      | apply ih2
      | apply ih3
      | exact LeO.none _
      | refine LeO.ite ?_ ?_
      | refine LeO.bind ?_ (fun _ => ?_)
theorem clock_Check.mono : ∀ a0 a1 a2 k, LeO (clock_Check.f k a0 a1 a2) (clock_Check.f (k + 1) a0 a1 a2) := by
  intro a0 a1 a2 k
  obtain ⟨ih0, ih1, ih2, ih3⟩ := clock_Check.mono_l k
  unfold clock_Check.f
  repeat' first
      | (with_reducible apply ih0)
      | (with_reducible apply ih1)
      | (with_reducible apply ih2)
      | (with_reducible apply ih3)
      | (with_reducible exact LeO.refl _)
      | (with_reducible exact LeO.none _)
      | (with_reducible refine LeO.ite ?_ ?_)
      | (with_reducible refine LeO.bind ?_ (fun _ => ?_))
      | apply ih0
      | apply ih1
      | apply ih2
      | apply ih3
      | exact LeO.none _
      | refine LeO.ite ?_ ?_
      | refine LeO.bind ?_ (fun _ => ?_)
set_option maxHeartbeats 8000000 in
set_option maxRecDepth 100000 in
theorem clock_Check.calls (k : Nat) (A0_0 : Option Addr) (c0_0 : Nat) (l0_0 : List (S54)) (a0_1 : Int) (a0_2 : Int) (r : Int) (w : World) (hr0_0 : Kd.C k54 w A0_0 l0_0.length l0_0) (hc0_0 : l0_0.length ≤ c0_0) (h : clock_Check.f k l0_0 a0_1 a0_2 = some r) :
    Calls Try.prog 8 #[.agg #[.slice A0_0 l0_0.length c0_0, .int .i64 a0_1, .int .i64 a0_2]] w fun e w' => e = .returned (.int .i64 r) ∧ Below w.heap.size w w' := by
 have hu24 := Try.underlying24; have hu54 := Try.underlying54; have HR0_0 := Aside0.mk hr0_0; have HC0_0 := Aside0.mk hc0_0; clear hr0_0 hc0_0; have HB := Aside0.mk (Below.refl w.heap.size w); have hss_ := @isSome_setCell
 have H : (if (l0_0.length : Int) = 0 then (clock_Check.j0 k true l0_0 a0_1 a0_2) else (clock_Check.j0 k (decide ((l0_0.length : Int) > 5)) l0_0 a0_1 a0_2)) = some r := h
 clear h; have HC2 := Aside0.mk H; clear H
 go_enter Try.func8, Try.ntmps8
 go_upto_region 1 with (first | ((with_reducible refine gate_dst (N := 1) rfl ?_); (try (refine gate_guard (by rfl) ?_; dsimp only)); refine box_event ?hg (N := 1) ?hd (cs := #[.slice A0_0 l0_0.length c0_0, .int .i64 a0_1, .int .i64 a0_2]) (t := 24) ?hr ?_; (case hd => rfl); (case hg => rfl); (case hr => first | (go_simp; done) | (go_simp; rfl)); intro gb101 hg w3 hbox hb; have BK101 := Aside0.mk (hbox); have GW101 := Aside0.mk (xZ HB hg); have GE101 := Aside0.mk (xZ HB hg); replace HB := Aside0.mk (xS HB hb); clear hb hbox hg))
 (try simp only [Act.put, List.setIfInBounds_toArray, List.set_cons_zero, List.set_cons_succ])
 go_cut [14] (fun vs14 wc => ∃ (kq : Nat) (x14_1 : Bool), vs14 = .bool x14_1 ∧ Aside0 (clock_Check.j0 kq x14_1 l0_0 a0_1 a0_2 = some r) ∧ Aside0 (kq ≤ k) ∧ Aside0 (wc.heap[gb101]? = some (.cells #[(.slice A0_0 l0_0.length c0_0), .int .i64 a0_1, .int .i64 a0_2] 24 (0, 0))) ∧ Aside0 (Below w.heap.size w wc))
 case first =>
  have H := HC2.out; clear HC2
  by_cases c4 : (l0_0.length : Int) = 0
  ·rw [if_pos c4] at H
   have c4b0 : ((l0_0.length : Int) == 0) = true := beq_iff_eq.mpr c4
   have c4b1 : ((l0_0.length : Int) != 0) = false := bne_eq_false_iff_eq.mpr c4
   clear c4
   (first | rw [c4b0] | (simp only [i64_w, i32_w]; rw [c4b0]) | skip)
   have H' := Aside0.mk H
   clear H; have hcz5_0 := blkc3 BK101.out
   go_wp2
   go_meet
   case rel => exact ⟨_, (true), (xrf), H', ⟨by first | omega | exact Nat.le_refl _⟩, ⟨xK BK101⟩, ⟨xW HB⟩⟩
  ·rw [if_neg c4] at H
   have c4b0 : ((l0_0.length : Int) == 0) = false := beq_eq_false_iff_ne.mpr c4
   have c4b1 : ((l0_0.length : Int) != 0) = true := bne_iff_ne.mpr c4
   have c4b2 : ¬ (l0_0 = []) := fun h_ => c4 (by rw [h_]; rfl)
   (first | rw [c4b0] | (simp only [i64_w, i32_w]; rw [c4b0]) | skip)
   have H' := Aside0.mk H
   clear H; have hcz6_0 := blkc3 BK101.out
   go_wp2
   go_meet
   case rel => exact ⟨_, (decide ((l0_0.length : Int) > 5)), (xrf), H', ⟨by first | omega | exact Nat.le_refl _⟩, ⟨xK BK101⟩, ⟨xW HB⟩⟩
 case rest =>
  clear HC2; (try clear p2)
  obtain ⟨kq, x14_1, rfl, HA, HJ1, BK101, HB⟩ := hcut
  cases kq with
  | zero => exact absurd HA.out (by simp [clock_Check.j0])
  | succ kj1 =>
   have H := HA.out; clear HA
   simp only [clock_Check.j0] at H
   by_cases c7 : x14_1 = true
   ·subst c7
    rw [if_pos rfl] at H
    obtain rfl := Option.some.inj H
    go_wp2
    go_ret
    exact ⟨xer, xW HB⟩
   ·replace c7 := Bool.eq_false_iff.mpr c7
    subst c7
    rw [if_neg (show ¬ (false = true) by decide)] at H
    have HC8 := Aside0.mk H; clear H
    go_upto_region 3 with (fail)
    go_cut [28] (fun vs28 wc => ∃ (kq : Nat) (x28_7 : Bool), vs28 = .bool x28_7 ∧ Aside0 (clock_Check.j1 kq x28_7 l0_0 a0_1 a0_2 = some r) ∧ Aside0 (kq ≤ kj1) ∧ Aside0 (wc.heap[gb101]? = some (.cells #[(.slice A0_0 l0_0.length c0_0), .int .i64 a0_1, .int .i64 a0_2] 24 (0, 0))) ∧ Aside0 (Below w.heap.size w wc))
    case first =>
     have H := HC8.out; clear HC8
     obtain ⟨ji9, hji9⟩ : ∃ j_ : Int, (mn a0_1 a0_2) = j_ := ⟨_, rfl⟩
     (first | rw [hji9] at H | simp only [hji9] at H)
     have hji9_ : (if a0_2 < a0_1 then a0_2 else a0_1) = ji9 := hji9
     by_cases c10 : (ji9) < 0
     ·rw [if_pos c10] at H
      have c10b0 : decide ((ji9) < 0) = true := decide_eq_true c10
      clear c10
      (first | rw [c10b0] | (simp only [i64_w, i32_w]; rw [c10b0]) | skip)
      have H' := Aside0.mk H
      clear H; have hcz11_0 := blkc3 BK101.out
      go_wp2
      go_meet
      case rel => exact ⟨_, (true), (xrf), H', ⟨by have := HJ1.out; first | omega | exact Nat.le_refl _⟩, ⟨xK BK101⟩, ⟨xW HB⟩⟩
     ·rw [if_neg c10] at H
      have c10b0 : decide ((ji9) < 0) = false := decide_eq_false c10
      clear c10
      (first | rw [c10b0] | (simp only [i64_w, i32_w]; rw [c10b0]) | skip)
      obtain ⟨ji12, hji12⟩ : ∃ j_ : Int, (mx a0_1 a0_2) = j_ := ⟨_, rfl⟩
      (first | rw [hji12] at H | simp only [hji12] at H)
      have hji12_ : (if a0_1 < a0_2 then a0_2 else a0_1) = ji12 := hji12
      have H' := Aside0.mk H
      clear H; have hcz13_0 := blkc3 BK101.out
      go_wp2
      go_meet
      case rel => exact ⟨_, (decide ((ji12) > 100000000)), (by first | rfl | (simp; done) | (simp only [← hji12] <;> (first | rfl | simp)) | (simp [*]; done)), H', ⟨by have := HJ1.out; first | omega | exact Nat.le_refl _⟩, ⟨xK BK101⟩, ⟨xW HB⟩⟩
    case rest =>
     clear HC8; (try clear p2); (try clear p2)
     obtain ⟨kq, x28_7, rfl, HA, HJ7, BK101, HB⟩ := hcut
     cases kq with
     | zero => exact absurd HA.out (by simp [clock_Check.j1])
     | succ kj7 =>
      have H := HA.out; clear HA
      simp only [clock_Check.j1] at H
      by_cases c14 : x28_7 = true
      ·subst c14
       rw [if_pos rfl] at H
       obtain rfl := Option.some.inj H
       go_wp2
       go_ret
       exact ⟨xer, xW HB⟩
      ·replace c14 := Bool.eq_false_iff.mpr c14
       subst c14
       rw [if_neg (show ¬ (false = true) by decide)] at H
       have H' := Aside0.mk H
       clear H; have hcz15_0 := blkc3 BK101.out
       go_wp2
       go_loopg [32] kj7 (fun kq vs32 w' => ∃ (x32_3 : Int), vs32 = .int .i64 x32_3 ∧ Aside0 (clock_Check.l0 kq l0_0 (l0_0.length : Int) x32_3 l0_0 a0_1 a0_2 = some r) ∧ Aside0 (kq ≤ kj7) ∧ Aside0 (w'.heap[gb101]? = some (.cells #[(.slice A0_0 l0_0.length c0_0), .int .i64 a0_1, .int .i64 a0_2] 24 (0, 0))) ∧ Aside0 (Below w.heap.size w w'))
       case atStart => exact ⟨(0), (xrf), H', ⟨Nat.le_refl _⟩, ⟨xK BK101⟩, ⟨xW HB⟩⟩
       case round =>
        clear H'; (try clear p2); (try clear p2)
        obtain ⟨x32_3, rfl, HA, HK3, BK101, HB⟩ := hrel
        cases gk with
        | zero => exact absurd HA.out (by simp [clock_Check.l0])
        | succ k3 =>
         have H := HA.out; clear HA
         simp only [clock_Check.l0] at H
         by_cases c16 : x32_3 < (l0_0.length : Int)
         ·rw [if_pos c16] at H
          have c16b0 : decide (x32_3 < (l0_0.length : Int)) = true := decide_eq_true c16
          clear c16
          by_cases c17 : 0 ≤ x32_3
          ·rw [if_pos c17] at H
           have c17b0 : decide (0 ≤ x32_3) = true := decide_eq_true c17
           clear c17
           by_cases c18 : x32_3 < (l0_0.length : Int)
           ·rw [if_pos c18] at H
            have c18b0 : decide (x32_3 < (l0_0.length : Int)) = true := decide_eq_true c18
            clear c18; have HC19 := Aside0.mk H; clear H
            have p102 : 0 ≤ (x32_3 : Int) := of_decide_eq_true (by first | (with_reducible assumption) | assumption)
            have q102 : x32_3 < (l0_0.length : Int) := of_decide_eq_true (by first | (with_reducible assumption) | assumption)
            obtain ⟨ad102, e102, hx102_0, hx102_1⟩ := at_T54 HR0_0.out x32_3 p102 q102
            cases e102
            replace hx102_0 := (HB.out.cell (World.block_lt_of_cell? w _ hx102_0)).trans hx102_0; replace hx102_1 := (HB.out.cell (World.block_lt_of_cell? w _ hx102_1)).trans hx102_1; replace p102 := eq_true p102; replace q102 := eq_true q102
            go_upto_region 8 with (first | ((with_reducible refine gate_dst (N := 4) rfl ?_); (try (refine gate_guard (by rfl) ?_; dsimp only)); refine box_event ?hg (N := 4) ?hd (cs := #[.int .i64 0, .int .i64 0]) (t := 54) ?hr ?_; (case hd => rfl); (case hg => rfl); (case hr => first | (go_simp; done) | (go_simp; rfl)); intro gb103 hg w20 hbox hb; have BK103 := Aside0.mk (hbox); have GW103 := Aside0.mk (xZ HB hg); have GE103 := Aside0.mk (xZ HB hg); have NB101_103 := Aside0.mk (xN BK101 hg); have NB103_101 := Aside0.mk (xM BK101 hg); replace BK101 := Aside0.mk (xB BK101 hb); replace HB := Aside0.mk (xS HB hb); clear hb hbox hg; have hnb21 := NB103_101.out; have hnc21 := NB101_103.out; have hcz22_0 := blkc2 BK103.out))
            (try have hq103_101 := NB103_101.out); (try have hq101_103 := NB101_103.out)
            (try simp only [Act.put, List.setIfInBounds_toArray, List.set_cons_zero, List.set_cons_succ])
            go_cut [54] (fun vs54 wc => ∃ (kq : Nat) (x54_18 : Bool), vs54 = .bool x54_18 ∧ Aside0 (clock_Check.j3 kq x32_3 l0_0 (l0_0.length : Int) x32_3 x54_18 l0_0 a0_1 a0_2 ((rd_T54 l0_0 x32_3).f0) ((rd_T54 l0_0 x32_3).f1) = some r) ∧ Aside0 (kq ≤ k3) ∧ Aside0 (wc.heap[gb101]? = some (.cells #[(.slice (some ad102) l0_0.length c0_0), .int .i64 a0_1, .int .i64 a0_2] 24 (0, 0))) ∧ Aside0 (wc.heap[gb103]? = some (.cells #[.int .i64 ((rd_T54 l0_0 x32_3).f0), .int .i64 ((rd_T54 l0_0 x32_3).f1)] 54 (0, 0))) ∧ Aside0 (Below w.heap.size w wc))
            case first =>
             have H := HC19.out; clear HC19
             by_cases c23 : ((rd_T54 l0_0 x32_3).f0) < 0
             ·rw [if_pos c23] at H
              have c23b0 : decide (((rd_T54 l0_0 x32_3).f0) < 0) = true := decide_eq_true c23
              clear c23
              (first | rw [c23b0] | (simp only [i64_w, i32_w]; rw [c23b0]) | skip)
              have H' := Aside0.mk H
              clear H; have hcz25_0 := blkc2 BK103.out
              go_wp2
              go_meet
              case rel => exact ⟨_, (true), (xrf), H', ⟨by have := HJ1.out; have := HJ7.out; have := HK3.out; first | omega | exact Nat.le_refl _⟩, ⟨xK BK101⟩, ⟨xQ BK103⟩, ⟨xW HB⟩⟩
             ·rw [if_neg c23] at H
              have c23b0 : decide (((rd_T54 l0_0 x32_3).f0) < 0) = false := decide_eq_false c23
              clear c23
              (first | rw [c23b0] | (simp only [i64_w, i32_w]; rw [c23b0]) | skip)
              by_cases c26 : ((rd_T54 l0_0 x32_3).f0) > 400
              ·rw [if_pos c26] at H
               have c26b0 : decide (400 < ((rd_T54 l0_0 x32_3).f0)) = true := decide_eq_true c26
               clear c26
               have H' := Aside0.mk H
               clear H; have hcz28_0 := blkc2 BK103.out
               go_wp2
               go_meet
               case rel => exact ⟨_, (true), (xrf), H', ⟨by have := HJ1.out; have := HJ7.out; have := HK3.out; first | omega | exact Nat.le_refl _⟩, ⟨xK BK101⟩, ⟨xQ BK103⟩, ⟨xW HB⟩⟩
              ·rw [if_neg c26] at H
               have c26b0 : decide (400 < ((rd_T54 l0_0 x32_3).f0)) = false := decide_eq_false c26
               clear c26
               by_cases c29 : ((rd_T54 l0_0 x32_3).f1) < 1
               ·rw [if_pos c29] at H
                have c29b0 : decide (((rd_T54 l0_0 x32_3).f1) < 1) = true := decide_eq_true c29
                clear c29
                have H' := Aside0.mk H
                clear H; have hcz31_0 := blkc2 BK103.out
                go_wp2
                go_meet
                case rel => exact ⟨_, (true), (xrf), H', ⟨by have := HJ1.out; have := HJ7.out; have := HK3.out; first | omega | exact Nat.le_refl _⟩, ⟨xK BK101⟩, ⟨xQ BK103⟩, ⟨xW HB⟩⟩
               ·rw [if_neg c29] at H
                have c29b0 : decide (((rd_T54 l0_0 x32_3).f1) < 1) = false := decide_eq_false c29
                clear c29
                have H' := Aside0.mk H
                clear H; have hcz33_0 := blkc2 BK103.out
                go_wp2
                go_meet
                case rel => exact ⟨_, (decide (((rd_T54 l0_0 x32_3).f1) > 100000000)), (xrf), H', ⟨by have := HJ1.out; have := HJ7.out; have := HK3.out; first | omega | exact Nat.le_refl _⟩, ⟨xK BK101⟩, ⟨xQ BK103⟩, ⟨xW HB⟩⟩
            case rest =>
             clear HC19; (try clear p1); (try clear q1); (try clear hx1); (try clear p2); (try clear p10); (try clear q10); (try clear hx10); (try clear hx102_0); (try clear hx102_1); (try clear p102); (try clear p2); (try clear q102)
             obtain ⟨kq, x54_18, rfl, HA, HJ18, BK101, BK103, HB⟩ := hcut
             cases kq with
             | zero => exact absurd HA.out (by simp [clock_Check.j3])
             | succ kj18 =>
              have H := HA.out; clear HA
              simp only [clock_Check.j3] at H
              by_cases c34 : x54_18 = true
              ·subst c34
               rw [if_pos rfl] at H
               obtain rfl := Option.some.inj H
               go_wp2
               go_ret
               exact ⟨xer, xW HB⟩
              ·replace c34 := Bool.eq_false_iff.mpr c34
               subst c34
               rw [if_neg (show ¬ (false = true) by decide)] at H
               by_cases c35 : ((((rd_T54 l0_0 x32_3).f0) == 0) != (x32_3 == (wrap64 ((l0_0.length : Int) - 1)))) = true
               ·rw [if_pos c35] at H
                have c35b0 : ((((rd_T54 l0_0 x32_3).f0) == 0) != (x32_3 == (wrap64 ((l0_0.length : Int) - 1)))) = true := c35
                (try (have c35b1 : decide ((((rd_T54 l0_0 x32_3).f0) == 0) = (x32_3 == (wrap64 ((l0_0.length : Int) - 1)))) = false := by simpa using c35))
                (try (have c35b2 : ((((rd_T54 l0_0 x32_3).f0) == 0) == (x32_3 == (wrap64 ((l0_0.length : Int) - 1)))) = false := by simpa using c35))
                (try (have c35b3 : ¬ ((((rd_T54 l0_0 x32_3).f0) == 0) = (x32_3 == (wrap64 ((l0_0.length : Int) - 1)))) := by simpa using c35))
                clear c35
                obtain rfl := Option.some.inj H
                have hcz37_0 := blkc2 BK103.out; have hcz38_0 := blkc3 BK101.out
                go_wp2
                go_ret
                exact ⟨xer, xW HB⟩
               ·rw [if_neg c35] at H
                have c35b0 : ((((rd_T54 l0_0 x32_3).f0) == 0) != (x32_3 == (wrap64 ((l0_0.length : Int) - 1)))) = false := by simpa using c35
                (try (have c35b1 : decide ((((rd_T54 l0_0 x32_3).f0) == 0) = (x32_3 == (wrap64 ((l0_0.length : Int) - 1)))) = true := by simpa using c35))
                (try (have c35b2 : ((((rd_T54 l0_0 x32_3).f0) == 0) == (x32_3 == (wrap64 ((l0_0.length : Int) - 1)))) = true := by simpa using c35))
                clear c35
                have H' := Aside0.mk H
                clear H; have hcz40_0 := blkc2 BK103.out; have hcz41_0 := blkc3 BK101.out
                go_wp2
                go_roundg kj18
                case measure => have := HJ1.out; have := HJ7.out; have := HK3.out; have := HJ18.out; omega
                case rel => exact ⟨(wrap64 (x32_3 + 1)), (xrf), H', ⟨by have := HJ1.out; have := HJ7.out; have := HK3.out; have := HJ18.out; omega⟩, ⟨xK BK101⟩, ⟨xW HB⟩⟩
           ·rw [if_neg c18] at H
            exact absurd H (by simp)
          ·rw [if_neg c17] at H
           exact absurd H (by simp)
         ·rw [if_neg c16] at H
          have c16b0 : decide (x32_3 < (l0_0.length : Int)) = false := decide_eq_false c16
          clear c16
          obtain rfl := Option.some.inj H
          go_wp2
          go_ret
          exact ⟨xer, xW HB⟩

/-! ### clock_Start: function 7 -/
def clock_Start.f (k : Nat) (l0_0 : List (S54)) (a0_1 : Int) (a0_2 : Int) (a1 : Int) : Option (Int × Int × Int × Int × Int × Int × Int × Int × Bool × Int × Int) := (clock_Check.f k l0_0 a0_1 a0_2).bind fun t106 => (if t106 = 0 then (if a1 < 0 then (some (0, 0, 0, 0, 0, 0, 0, 0, false, 0, 11)) else (if a1 > 100000000 then (some (0, 0, 0, 0, 0, 0, 0, 0, false, 0, 11)) else (if 0 < (l0_0.length : Int) then (some ((rd_T54 l0_0 0).f1, (rd_T54 l0_0 0).f1, 0, 0, 0, 0, 0, a1, false, (-1), 0)) else (none)))) else (some (0, 0, 0, 0, 0, 0, 0, 0, false, 0, t106)))
theorem clock_Start.mono : ∀ a0 a1 a2 a3 k, LeO (clock_Start.f k a0 a1 a2 a3) (clock_Start.f (k + 1) a0 a1 a2 a3) := by
  intro a0 a1 a2 a3 k
  unfold clock_Start.f
  repeat' first
      | (with_reducible apply clock_Check.mono)
      | (with_reducible exact LeO.refl _)
      | (with_reducible exact LeO.none _)
      | (with_reducible refine LeO.ite ?_ ?_)
      | (with_reducible refine LeO.bind ?_ (fun _ => ?_))
      | apply clock_Check.mono
      | exact LeO.none _
      | refine LeO.ite ?_ ?_
      | refine LeO.bind ?_ (fun _ => ?_)
set_option maxHeartbeats 8000000 in
set_option maxRecDepth 100000 in
theorem clock_Start.calls (k : Nat) (A0_0 : Option Addr) (c0_0 : Nat) (l0_0 : List (S54)) (a0_1 : Int) (a0_2 : Int) (a1 : Int) (r1 : Int) (r2 : Int) (r3 : Int) (r4 : Int) (r5 : Int) (r6 : Int) (r7 : Int) (r8 : Int) (r9 : Bool) (r10 : Int) (r11 : Int) (w : World) (hr0_0 : Kd.C k54 w A0_0 l0_0.length l0_0) (hc0_0 : l0_0.length ≤ c0_0) (h : clock_Start.f k l0_0 a0_1 a0_2 a1 = some (r1, r2, r3, r4, r5, r6, r7, r8, r9, r10, r11)) :
    Calls Try.prog 7 #[.agg #[.slice A0_0 l0_0.length c0_0, .int .i64 a0_1, .int .i64 a0_2], .int .i64 a1] w fun e w' => e = .returned (.tuple #[.agg #[.int .i64 r1, .int .i64 r2, .int .i64 r3, .int .i64 r4, .int .i64 r5, .int .i64 r6, .int .i64 r7, .int .i64 r8, .bool r9, .int .i64 r10], .int .i64 r11]) ∧ Below w.heap.size w w' := by
 have hu24 := Try.underlying24; have hu31 := Try.underlying31; have hu29 := Try.underlying29; have HR0_0 := Aside0.mk hr0_0; have HC0_0 := Aside0.mk hc0_0; clear hr0_0 hc0_0; have HB := Aside0.mk (Below.refl w.heap.size w); have hss_ := @isSome_setCell
 have H : ((clock_Check.f k l0_0 a0_1 a0_2).bind fun t106 => (if t106 = 0 then (if a1 < 0 then (some (0, 0, 0, 0, 0, 0, 0, 0, false, 0, 11)) else (if a1 > 100000000 then (some (0, 0, 0, 0, 0, 0, 0, 0, false, 0, 11)) else (if 0 < (l0_0.length : Int) then (some ((rd_T54 l0_0 0).f1, (rd_T54 l0_0 0).f1, 0, 0, 0, 0, 0, a1, false, (-1), 0)) else (none)))) else (some (0, 0, 0, 0, 0, 0, 0, 0, false, 0, t106)))) = some (r1, r2, r3, r4, r5, r6, r7, r8, r9, r10, r11) := h
 clear h; replace H := Option.bind_eq_some_iff.mp H
 obtain ⟨t106, A30, H⟩ := H
 try dsimp only at H
 have A3 := Aside0.mk A30; clear A30
 by_cases c4 : t106 = 0
 ·rw [if_pos c4] at H
  have c4b0 : (t106 == 0) = true := beq_iff_eq.mpr c4
  have c4b1 : (t106 != 0) = false := bne_eq_false_iff_eq.mpr c4
  clear c4
  by_cases c5 : a1 < 0
  ·rw [if_pos c5] at H
   have c5b0 : decide (a1 < 0) = true := decide_eq_true c5
   clear c5
   simp only [Option.some.injEq, Prod.mk.injEq] at H
   obtain ⟨rfl, rfl, rfl, rfl, rfl, rfl, rfl, rfl, rfl, rfl, rfl⟩ := H
   go_enter Try.func7, Try.ntmps7
   go_wp2_with (first | ((with_reducible refine gate_dst (N := 2) rfl ?_); refine box_event ?hg (N := 2) ?hd (cs := #[.slice A0_0 l0_0.length c0_0, .int .i64 a0_1, .int .i64 a0_2]) (t := 24) ?hr ?_; (case hd => rfl); (case hg => rfl); (case hr => first | (go_simp; done) | (go_simp; rfl)); intro gb104 hg w6 hbox hb; have BK104 := Aside0.mk (hbox); have GW104 := Aside0.mk (xZ HB hg); have GE104 := Aside0.mk (xZ HB hg); replace HB := Aside0.mk (xS HB hb); clear hb hbox hg) | ((with_reducible refine gate_dst (N := 4) rfl ?_); refine box_event ?hg (N := 4) ?hd (cs := #[.int .i64 0, .int .i64 0, .int .i64 0, .int .i64 0, .int .i64 0, .int .i64 0, .int .i64 0, .int .i64 0, .bool false, .int .i64 0]) (t := 31) ?hr ?_; (case hd => rfl); (case hg => rfl); (case hr => first | (go_simp; done) | (go_simp; rfl)); intro gb105 hg w7 hbox hb; have BK105 := Aside0.mk (hbox); have GW105 := Aside0.mk (xZ HB hg); have GE105 := Aside0.mk (xZ HB hg); have NB104_105 := Aside0.mk (xN BK104 hg); have NB105_104 := Aside0.mk (xM BK104 hg); replace BK104 := Aside0.mk (xB BK104 hb); replace HB := Aside0.mk (xS HB hb); clear hb hbox hg; have hnb8 := NB104_105.out; have hnc8 := NB105_104.out; have hcz9_0 := blkc3 BK104.out) | ((with_reducible refine gate_callee (f := 8) rfl ?_); refine goesL_ (some 9) rfl rfl Try.func8 (by kernel_rfl) rfl #[.agg #[.slice A0_0 l0_0.length c0_0, .int .i64 a0_1, .int .i64 a0_2]] rfl (by (try simp only [List.map_toArray, List.map_cons, List.map_nil]); first | done | rfl | (simp only [List.length_drop, List.length_take]; rfl)) ?_; (with_reducible refine (clock_Check.calls k _ _ l0_0 a0_1 a0_2 t106 _ ?side1 ?side2 A3.out).mono ?_); (case side1 => exact xC (Kd.C_below HR0_0.out HB.out)); (case side2 => exact HC0_0.out); rintro e w10 ⟨rfl, hb⟩; refine ⟨_, rfl, ?_⟩; replace BK104 := Aside0.mk (xB BK104 hb); replace BK105 := Aside0.mk (xB BK105 hb); replace HB := Aside0.mk (xS HB hb); (try clear hb); (try clear hb2); (try clear hk); (try clear hi); have hcz11_0 := blkc10 BK105.out))
   refine bodyPost_ret (results_ct rfl _ _ gb105 31 #[.int .i64 0, .int .i64 0, .int .i64 0, .int .i64 0, .int .i64 0, .int .i64 0, .int .i64 0, .int .i64 0, .bool false, .int .i64 0] (0, 0) _ rfl (xQ BK105) Try.underlying31 rfl (by kernel_rfl)) rfl ?_
   exact ⟨xer, xW HB⟩
  ·rw [if_neg c5] at H
   have c5b0 : decide (a1 < 0) = false := decide_eq_false c5
   clear c5
   by_cases c12 : a1 > 100000000
   ·rw [if_pos c12] at H
    have c12b0 : decide (100000000 < a1) = true := decide_eq_true c12
    clear c12
    simp only [Option.some.injEq, Prod.mk.injEq] at H
    obtain ⟨rfl, rfl, rfl, rfl, rfl, rfl, rfl, rfl, rfl, rfl, rfl⟩ := H
    go_enter Try.func7, Try.ntmps7
    go_wp2_with (first | ((with_reducible refine gate_dst (N := 2) rfl ?_); refine box_event ?hg (N := 2) ?hd (cs := #[.slice A0_0 l0_0.length c0_0, .int .i64 a0_1, .int .i64 a0_2]) (t := 24) ?hr ?_; (case hd => rfl); (case hg => rfl); (case hr => first | (go_simp; done) | (go_simp; rfl)); intro gb104 hg w13 hbox hb; have BK104 := Aside0.mk (hbox); have GW104 := Aside0.mk (xZ HB hg); have GE104 := Aside0.mk (xZ HB hg); replace HB := Aside0.mk (xS HB hb); clear hb hbox hg) | ((with_reducible refine gate_dst (N := 4) rfl ?_); refine box_event ?hg (N := 4) ?hd (cs := #[.int .i64 0, .int .i64 0, .int .i64 0, .int .i64 0, .int .i64 0, .int .i64 0, .int .i64 0, .int .i64 0, .bool false, .int .i64 0]) (t := 31) ?hr ?_; (case hd => rfl); (case hg => rfl); (case hr => first | (go_simp; done) | (go_simp; rfl)); intro gb105 hg w14 hbox hb; have BK105 := Aside0.mk (hbox); have GW105 := Aside0.mk (xZ HB hg); have GE105 := Aside0.mk (xZ HB hg); have NB104_105 := Aside0.mk (xN BK104 hg); have NB105_104 := Aside0.mk (xM BK104 hg); replace BK104 := Aside0.mk (xB BK104 hb); replace HB := Aside0.mk (xS HB hb); clear hb hbox hg; have hnb15 := NB104_105.out; have hnc15 := NB105_104.out; have hcz16_0 := blkc3 BK104.out) | ((with_reducible refine gate_callee (f := 8) rfl ?_); refine goesL_ (some 9) rfl rfl Try.func8 (by kernel_rfl) rfl #[.agg #[.slice A0_0 l0_0.length c0_0, .int .i64 a0_1, .int .i64 a0_2]] rfl (by (try simp only [List.map_toArray, List.map_cons, List.map_nil]); first | done | rfl | (simp only [List.length_drop, List.length_take]; rfl)) ?_; (with_reducible refine (clock_Check.calls k _ _ l0_0 a0_1 a0_2 t106 _ ?side1 ?side2 A3.out).mono ?_); (case side1 => exact xC (Kd.C_below HR0_0.out HB.out)); (case side2 => exact HC0_0.out); rintro e w17 ⟨rfl, hb⟩; refine ⟨_, rfl, ?_⟩; replace BK104 := Aside0.mk (xB BK104 hb); replace BK105 := Aside0.mk (xB BK105 hb); replace HB := Aside0.mk (xS HB hb); (try clear hb); (try clear hb2); (try clear hk); (try clear hi); have hcz18_0 := blkc10 BK105.out))
    refine bodyPost_ret (results_ct rfl _ _ gb105 31 #[.int .i64 0, .int .i64 0, .int .i64 0, .int .i64 0, .int .i64 0, .int .i64 0, .int .i64 0, .int .i64 0, .bool false, .int .i64 0] (0, 0) _ rfl (xQ BK105) Try.underlying31 rfl (by kernel_rfl)) rfl ?_
    exact ⟨xer, xW HB⟩
   ·rw [if_neg c12] at H
    have c12b0 : decide (100000000 < a1) = false := decide_eq_false c12
    clear c12
    by_cases c19 : 0 < (l0_0.length : Int)
    ·rw [if_pos c19] at H
     have c19b0 : decide (0 < (l0_0.length : Int)) = true := decide_eq_true c19
     have c19b1 : decide (0 < l0_0.length) = true := decide_eq_true (by omega)
     clear c19
     simp only [Option.some.injEq, Prod.mk.injEq] at H
     obtain ⟨rfl, rfl, rfl, rfl, rfl, rfl, rfl, rfl, rfl, rfl, rfl⟩ := H
     go_enter Try.func7, Try.ntmps7
     go_wp2_with (first | ((with_reducible refine gate_dst (N := 2) rfl ?_); refine box_event ?hg (N := 2) ?hd (cs := #[.slice A0_0 l0_0.length c0_0, .int .i64 a0_1, .int .i64 a0_2]) (t := 24) ?hr ?_; (case hd => rfl); (case hg => rfl); (case hr => first | (go_simp; done) | (go_simp; rfl)); intro gb104 hg w20 hbox hb; have BK104 := Aside0.mk (hbox); have GW104 := Aside0.mk (xZ HB hg); have GE104 := Aside0.mk (xZ HB hg); replace HB := Aside0.mk (xS HB hb); clear hb hbox hg) | ((with_reducible refine gate_dst (N := 4) rfl ?_); refine box_event ?hg (N := 4) ?hd (cs := #[.int .i64 0, .int .i64 0, .int .i64 0, .int .i64 0, .int .i64 0, .int .i64 0, .int .i64 0, .int .i64 0, .bool false, .int .i64 0]) (t := 31) ?hr ?_; (case hd => rfl); (case hg => rfl); (case hr => first | (go_simp; done) | (go_simp; rfl)); intro gb105 hg w21 hbox hb; have BK105 := Aside0.mk (hbox); have GW105 := Aside0.mk (xZ HB hg); have GE105 := Aside0.mk (xZ HB hg); have NB104_105 := Aside0.mk (xN BK104 hg); have NB105_104 := Aside0.mk (xM BK104 hg); replace BK104 := Aside0.mk (xB BK104 hb); replace HB := Aside0.mk (xS HB hb); clear hb hbox hg; have hnb22 := NB104_105.out; have hnc22 := NB105_104.out; have hcz23_0 := blkc3 BK104.out) | ((with_reducible refine gate_callee (f := 8) rfl ?_); refine goesL_ (some 9) rfl rfl Try.func8 (by kernel_rfl) rfl #[.agg #[.slice A0_0 l0_0.length c0_0, .int .i64 a0_1, .int .i64 a0_2]] rfl (by (try simp only [List.map_toArray, List.map_cons, List.map_nil]); first | done | rfl | (simp only [List.length_drop, List.length_take]; rfl)) ?_; (with_reducible refine (clock_Check.calls k _ _ l0_0 a0_1 a0_2 t106 _ ?side1 ?side2 A3.out).mono ?_); (case side1 => exact xC (Kd.C_below HR0_0.out HB.out)); (case side2 => exact HC0_0.out); rintro e w24 ⟨rfl, hb⟩; refine ⟨_, rfl, ?_⟩; replace BK104 := Aside0.mk (xB BK104 hb); replace BK105 := Aside0.mk (xB BK105 hb); replace HB := Aside0.mk (xS HB hb); (try clear hb); (try clear hb2); (try clear hk); (try clear hi); have hcz25_0 := blkc3 BK104.out; have p107 : 0 ≤ (0 : Int) := (by omega); have q107 : 0 < (l0_0.length : Int) := of_decide_eq_true (by first | (with_reducible assumption) | assumption); obtain ⟨ad107, e107, hx107_0, hx107_1⟩ := at_T54 HR0_0.out 0 p107 q107; cases e107; have qi107 : (0 < l0_0.length) = True := eq_true (by omega); (try rw [show ((0 : Int)).toNat = 0 from rfl] at hx107_0); (try rw [show 0 * 2 = 0 from rfl] at hx107_0); (try rw [Addr.add_zero'] at hx107_0); (try rw [show ((0 : Int)).toNat = 0 from rfl] at hx107_1); (try rw [show 0 * 2 = 0 from rfl] at hx107_1); (try rw [Addr.add_zero'] at hx107_1); replace hx107_0 := (HB.out.cell (World.block_lt_of_cell? w _ hx107_0)).trans hx107_0; replace hx107_1 := (HB.out.cell (World.block_lt_of_cell? w _ hx107_1)).trans hx107_1; replace p107 := eq_true p107; replace q107 := eq_true q107; have hcz26_0 := blkc10 BK105.out))
     refine bodyPost_ret (results_ct rfl _ _ gb105 31 #[.int .i64 ((rd_T54 l0_0 0).f1), .int .i64 ((rd_T54 l0_0 0).f1), .int .i64 0, .int .i64 0, .int .i64 0, .int .i64 0, .int .i64 0, .int .i64 a1, .bool false, .int .i64 (-1)] (0, 0) _ rfl (xQ BK105) Try.underlying31 rfl (by kernel_rfl)) rfl ?_
     exact ⟨xer, xW HB⟩
    ·rw [if_neg c19] at H
     exact absurd H (by simp)
 ·rw [if_neg c4] at H
  have c4b0 : (t106 == 0) = false := beq_eq_false_iff_ne.mpr c4
  have c4b1 : (t106 != 0) = true := bne_iff_ne.mpr c4
  simp only [Option.some.injEq, Prod.mk.injEq] at H
  obtain ⟨rfl, rfl, rfl, rfl, rfl, rfl, rfl, rfl, rfl, rfl, rfl⟩ := H
  go_enter Try.func7, Try.ntmps7
  go_wp2_with (first | ((with_reducible refine gate_dst (N := 2) rfl ?_); refine box_event ?hg (N := 2) ?hd (cs := #[.slice A0_0 l0_0.length c0_0, .int .i64 a0_1, .int .i64 a0_2]) (t := 24) ?hr ?_; (case hd => rfl); (case hg => rfl); (case hr => first | (go_simp; done) | (go_simp; rfl)); intro gb104 hg w27 hbox hb; have BK104 := Aside0.mk (hbox); have GW104 := Aside0.mk (xZ HB hg); have GE104 := Aside0.mk (xZ HB hg); replace HB := Aside0.mk (xS HB hb); clear hb hbox hg) | ((with_reducible refine gate_dst (N := 4) rfl ?_); refine box_event ?hg (N := 4) ?hd (cs := #[.int .i64 0, .int .i64 0, .int .i64 0, .int .i64 0, .int .i64 0, .int .i64 0, .int .i64 0, .int .i64 0, .bool false, .int .i64 0]) (t := 31) ?hr ?_; (case hd => rfl); (case hg => rfl); (case hr => first | (go_simp; done) | (go_simp; rfl)); intro gb105 hg w28 hbox hb; have BK105 := Aside0.mk (hbox); have GW105 := Aside0.mk (xZ HB hg); have GE105 := Aside0.mk (xZ HB hg); have NB104_105 := Aside0.mk (xN BK104 hg); have NB105_104 := Aside0.mk (xM BK104 hg); replace BK104 := Aside0.mk (xB BK104 hb); replace HB := Aside0.mk (xS HB hb); clear hb hbox hg; have hnb29 := NB104_105.out; have hnc29 := NB105_104.out; have hcz30_0 := blkc3 BK104.out) | ((with_reducible refine gate_callee (f := 8) rfl ?_); refine goesL_ (some 9) rfl rfl Try.func8 (by kernel_rfl) rfl #[.agg #[.slice A0_0 l0_0.length c0_0, .int .i64 a0_1, .int .i64 a0_2]] rfl (by (try simp only [List.map_toArray, List.map_cons, List.map_nil]); first | done | rfl | (simp only [List.length_drop, List.length_take]; rfl)) ?_; (with_reducible refine (clock_Check.calls k _ _ l0_0 a0_1 a0_2 t106 _ ?side1 ?side2 A3.out).mono ?_); (case side1 => exact xC (Kd.C_below HR0_0.out HB.out)); (case side2 => exact HC0_0.out); rintro e w31 ⟨rfl, hb⟩; refine ⟨_, rfl, ?_⟩; replace BK104 := Aside0.mk (xB BK104 hb); replace BK105 := Aside0.mk (xB BK105 hb); replace HB := Aside0.mk (xS HB hb); (try clear hb); (try clear hb2); (try clear hk); (try clear hi); have hcz32_0 := blkc10 BK105.out))
  refine bodyPost_ret (results_ct rfl _ _ gb105 31 #[.int .i64 0, .int .i64 0, .int .i64 0, .int .i64 0, .int .i64 0, .int .i64 0, .int .i64 0, .int .i64 0, .bool false, .int .i64 0] (0, 0) _ rfl (xQ BK105) Try.underlying31 rfl (by kernel_rfl)) rfl ?_
  exact ⟨xer, xW HB⟩

/-! ### gamehalllaw3_minute: function 23 -/
def gamehalllaw3_minute.f  : Option ((List (S54)) × Int × Int) := some ((([(⟨0, 60000⟩ : S54)] : List (S54))), 1000, 0)
set_option maxHeartbeats 8000000 in
set_option maxRecDepth 100000 in
theorem gamehalllaw3_minute.calls  (r1 : List (S54)) (r2 : Int) (r3 : Int) (w : World) (h : gamehalllaw3_minute.f  = some (r1, r2, r3)) :
    Calls Try.prog 23 #[] w fun e w' => ∃ v0_ : Value, e = .returned (.agg #[v0_, .int .i64 r2, .int .i64 r3]) ∧ Kd.R k54 54 w' w.heap.size (fun _ => True) v0_ r1 ∧ Below w.heap.size w w' := by
 have hu24 := Try.underlying24; have hu54 := Try.underlying54; have HB := Aside0.mk (Below.refl w.heap.size w); have hss_ := @isSome_setCell
 have H : (some ((([(⟨0, 60000⟩ : S54)] : List (S54))), 1000, 0)) = some (r1, r2, r3) := h
 clear h
 obtain ⟨y109, hy109⟩ : ∃ y_ : List (S54), y_ = (([(⟨0, 60000⟩ : S54)] : List (S54))) := ⟨_, rfl⟩
 replace H : (some (y109, 1000, 0)) = some (r1, r2, r3) := by first | (rw [hy109]; with_reducible exact H) | (have H2_ := (Option.bind_some _ _).symm.trans H; rw [hy109]; with_reducible exact H2_) | (have H2_ := (Option.bind_some _ _).symm.trans H; with_reducible exact H2_) | with_reducible exact H | (rw [hy109]; exact H) | exact H
 have Ny109 := Aside0.mk hy109; clear hy109
 simp only [Option.some.injEq, Prod.mk.injEq] at H
 obtain ⟨rfl, rfl, rfl⟩ := H
 go_enter Try.func23, Try.ntmps23
 go_wp2_with (first | ((with_reducible refine gate_dst (N := 0) rfl ?_); refine box_event ?hg (N := 0) ?hd (cs := #[.slice none 0 0, .int .i64 0, .int .i64 0]) (t := 24) ?hr ?_; (case hd => rfl); (case hg => rfl); (case hr => first | (go_simp; done) | (go_simp; rfl)); intro gb108 hg w1 hbox hb; have BK108 := Aside0.mk (hbox); have GW108 := Aside0.mk (xZ HB hg); have GE108 := Aside0.mk (xZ HB hg); replace HB := Aside0.mk (xS HB hb); clear hb hbox hg) | ((with_reducible refine gate_dst (N := 2) rfl ?_); refine Kd.R_lit k54 _ 54 ?hg (N := 2) ?hd (xs := ([(⟨0, 60000⟩ : S54)] : List (S54))) (inner := [.int .i64 0, .int .i64 60000]) (ok := fun _ => True) (okp := fun _ => True) ?hr ?hp (fun _ hk => hk) trivial (Below.refl _ _) (Nat.le_refl _) (by simp) ?_; (case hd => rfl); (case hg => rfl); (case hr => first | (go_simp; done) | (go_simp; rfl)); (case hp => exact (Reps.c2 (show Kd.M k54 _ _ _ (⟨0, 60000⟩ : S54) [.int .i64 0, .int .i64 60000] from (k54_mkM _ _ _ (⟨0, 60000⟩ : S54) )) (Reps.none _ _))); intro v110 w2 ho3 hb hg_ hnew_; clear hg_ hnew_; (first | rw [← Ny109.out] at ho3 | (simp only [Int.reduceToNat] at ho3; rw [← Ny109.out] at ho3)); have HO111 := Aside0.mk (Kd.R_lower ho3 (below_size (xW HB))); replace BK108 := Aside0.mk (xB BK108 hb); replace HB := Aside0.mk (xS HB hb); clear hb ho3; obtain ⟨Ao4, co4, eo4⟩ := Kd.R_slice HO111.out; subst eo4; have hcz5_0 := blkc3 BK108.out))
 refine bodyPost_ret (results_cell_row rfl _ _ gb108 24 #[.slice Ao4 y109.length co4, .int .i64 1000, .int .i64 0] (0, 0) _ rfl (xQ BK108) Try.underlying24 rfl (by kernel_rfl)) rfl ?_
 exact ⟨_, xer, by (with_reducible repeat (first | apply Kd.R_alloc | apply Kd.R_drewN | apply Kd.R_drew)); exact Kd.R_mono (Kd.R_far (p := ⟨gb108, 2, none⟩) (Kd.R_far (p := ⟨gb108, 1, none⟩) (Kd.R_far (p := ⟨gb108, 0, none⟩) (Kd.R_types HO111.out BK108.out (by decide)) (fun _ hk => hk.2) (.slice Ao4 y109.length co4)) (fun _ hk => hk.2) (.int .i64 1000)) (fun _ hk => hk.2) (.int .i64 0)) (fun _ hk => trivial), xW HB⟩

/-! ### gamehalllaw3_ticks: function 5 -/
def gamehalllaw3_ticks.f (k : Nat)  : Option (Bool) := (gamehalllaw3_minute.f).bind fun bt112 => ((clock_Start.f k bt112.1 bt112.2.1 bt112.2.2 5).bind fun bt117 => (if bt117.2.2.2.2.2.2.2.2.2.2 = 0 then (some (bt117.1 == 60000 && (bt117.2.1 == 60000))) else (some false)))
theorem gamehalllaw3_ticks.mono : ∀ k, LeO (gamehalllaw3_ticks.f k ) (gamehalllaw3_ticks.f (k + 1) ) := by
  intro  k
  unfold gamehalllaw3_ticks.f
  repeat' first
      | (with_reducible apply clock_Start.mono)
      | (with_reducible exact LeO.refl _)
      | (with_reducible exact LeO.none _)
      | (with_reducible refine LeO.ite ?_ ?_)
      | (with_reducible refine LeO.bind ?_ (fun _ => ?_))
      | apply clock_Start.mono
      | exact LeO.none _
      | refine LeO.ite ?_ ?_
      | refine LeO.bind ?_ (fun _ => ?_)
set_option maxHeartbeats 8000000 in
set_option maxRecDepth 100000 in
theorem gamehalllaw3_ticks.calls (k : Nat)  (r : Bool) (w : World) (h : gamehalllaw3_ticks.f k  = some r) :
    Calls Try.prog 5 #[] w fun e w' => e = .returned (.bool r) ∧ Below w.heap.size w w' := by
 have hu31 := Try.underlying31; have hu29 := Try.underlying29; have HB := Aside0.mk (Below.refl w.heap.size w); have hss_ := @isSome_setCell
 have H : ((gamehalllaw3_minute.f).bind fun bt112 => ((clock_Start.f k bt112.1 bt112.2.1 bt112.2.2 5).bind fun bt117 => (if bt117.2.2.2.2.2.2.2.2.2.2 = 0 then (some (bt117.1 == 60000 && (bt117.2.1 == 60000))) else (some false)))) = some r := h
 clear h; replace H := Option.bind_eq_some_iff.mp H
 obtain ⟨⟨t112, t115, t116⟩, A10, H⟩ := H
 try dsimp only at H
 have A1 := Aside0.mk A10; clear A10; replace H := Option.bind_eq_some_iff.mp H
 obtain ⟨⟨t117, t118, t119, t120, t121, t122, t123, t124, t125, t126, t127⟩, A20, H⟩ := H
 replace H : (if t127 = 0 then (some (t117 == 60000 && (t118 == 60000))) else (some false)) = some r := H
 have A2 := Aside0.mk A20; clear A20
 by_cases c3 : t127 = 0
 ·rw [if_pos c3] at H
  have c3b0 : (t127 == 0) = true := beq_iff_eq.mpr c3
  have c3b1 : (t127 != 0) = false := bne_eq_false_iff_eq.mpr c3
  clear c3
  obtain rfl := Option.some.inj H
  go_enter Try.func5, Try.ntmps5
  go_wp2_with (first | ((with_reducible refine gate_callee (f := 23) rfl ?_); refine goesL_ (some 4) rfl rfl Try.func23 (by kernel_rfl) rfl #[] rfl (by (try simp only [List.map_toArray, List.map_cons, List.map_nil]); first | done | rfl | (simp only [List.length_drop, List.length_take]; rfl)) ?_; (with_reducible refine (gamehalllaw3_minute.calls  t112 t115 t116 _ A1.out).mono ?_); rintro e w4 ⟨v113, rfl, ho0, hb⟩; refine ⟨_, rfl, ?_⟩; have HO114 := Aside0.mk (Kd.R_lower ho0 (below_size (xW HB))); replace HB := Aside0.mk (xS HB hb); (try clear hb); (try clear hb2); (try clear hk); (try clear hi); (try clear ho0); obtain ⟨Ao5, co5, eo5⟩ := Kd.R_slice HO114.out; subst eo5) | ((with_reducible refine gate_callee (f := 7) rfl ?_); refine goesL_ (some 5) rfl rfl Try.func7 (by kernel_rfl) rfl #[.agg #[.slice Ao5 t112.length co5, .int .i64 t115, .int .i64 t116], .int .i64 5] rfl (by (try simp only [List.map_toArray, List.map_cons, List.map_nil]); first | done | rfl | (simp only [List.length_drop, List.length_take]; rfl)) ?_; (with_reducible refine (clock_Start.calls k _ _ t112 t115 t116 5 t117 t118 t119 t120 t121 t122 t123 t124 t125 t126 t127 _ ?side1 ?side2 A2.out).mono ?_); (case side1 => repeat (first | exact (Kd.R_reads' HO114.out).2.2 | (with_reducible refine Kd.C_alloc ?_ _) | (with_reducible refine Kd.C_drewN ?_ _) | (with_reducible refine Kd.C_drew ?_))); (case side2 => exact (Kd.R_reads' HO114.out).2.1); rintro e w6 ⟨rfl, hb⟩; refine ⟨_, rfl, ?_⟩; replace HO114 := Aside0.mk (Kd.R_below (by (with_reducible repeat (first | apply Kd.R_alloc | apply Kd.R_drewN | apply Kd.R_drew)); exact HO114.out) hb); replace HB := Aside0.mk (xS HB hb); (try clear hb); (try clear hb2); (try clear hk); (try clear hi)) | ((with_reducible refine gate_dst (N := 1) rfl ?_); refine box_event ?hg (N := 1) ?hd (cs := #[.int .i64 0, .int .i64 0, .int .i64 0, .int .i64 0, .int .i64 0, .int .i64 0, .int .i64 0, .int .i64 0, .bool false, .int .i64 0]) (t := 31) ?hr ?_; (case hd => rfl); (case hg => rfl); (case hr => first | (go_simp; done) | (go_simp; rfl)); intro gb128 hg w7 hbox hb; have BK128 := Aside0.mk (hbox); have GW128 := Aside0.mk (xZ HB hg); have GE128 := Aside0.mk (xZ HB hg); replace HO114 := Aside0.mk (Kd.R_below (by (with_reducible repeat (first | apply Kd.R_alloc | apply Kd.R_drewN | apply Kd.R_drew)); exact HO114.out) hb); replace HB := Aside0.mk (xS HB hb); clear hb hbox hg; have hcz8_0 := blkc10 BK128.out))
  go_ret
  exact ⟨xer, xW HB⟩
 ·rw [if_neg c3] at H
  have c3b0 : (t127 == 0) = false := beq_eq_false_iff_ne.mpr c3
  have c3b1 : (t127 != 0) = true := bne_iff_ne.mpr c3
  obtain rfl := Option.some.inj H
  go_enter Try.func5, Try.ntmps5
  go_wp2_with (first | ((with_reducible refine gate_callee (f := 23) rfl ?_); refine goesL_ (some 4) rfl rfl Try.func23 (by kernel_rfl) rfl #[] rfl (by (try simp only [List.map_toArray, List.map_cons, List.map_nil]); first | done | rfl | (simp only [List.length_drop, List.length_take]; rfl)) ?_; (with_reducible refine (gamehalllaw3_minute.calls  t112 t115 t116 _ A1.out).mono ?_); rintro e w9 ⟨v113, rfl, ho0, hb⟩; refine ⟨_, rfl, ?_⟩; have HO114 := Aside0.mk (Kd.R_lower ho0 (below_size (xW HB))); replace HB := Aside0.mk (xS HB hb); (try clear hb); (try clear hb2); (try clear hk); (try clear hi); (try clear ho0); obtain ⟨Ao10, co10, eo10⟩ := Kd.R_slice HO114.out; subst eo10) | ((with_reducible refine gate_callee (f := 7) rfl ?_); refine goesL_ (some 5) rfl rfl Try.func7 (by kernel_rfl) rfl #[.agg #[.slice Ao10 t112.length co10, .int .i64 t115, .int .i64 t116], .int .i64 5] rfl (by (try simp only [List.map_toArray, List.map_cons, List.map_nil]); first | done | rfl | (simp only [List.length_drop, List.length_take]; rfl)) ?_; (with_reducible refine (clock_Start.calls k _ _ t112 t115 t116 5 t117 t118 t119 t120 t121 t122 t123 t124 t125 t126 t127 _ ?side1 ?side2 A2.out).mono ?_); (case side1 => repeat (first | exact (Kd.R_reads' HO114.out).2.2 | (with_reducible refine Kd.C_alloc ?_ _) | (with_reducible refine Kd.C_drewN ?_ _) | (with_reducible refine Kd.C_drew ?_))); (case side2 => exact (Kd.R_reads' HO114.out).2.1); rintro e w11 ⟨rfl, hb⟩; refine ⟨_, rfl, ?_⟩; replace HO114 := Aside0.mk (Kd.R_below (by (with_reducible repeat (first | apply Kd.R_alloc | apply Kd.R_drewN | apply Kd.R_drew)); exact HO114.out) hb); replace HB := Aside0.mk (xS HB hb); (try clear hb); (try clear hb2); (try clear hk); (try clear hi)) | ((with_reducible refine gate_dst (N := 1) rfl ?_); refine box_event ?hg (N := 1) ?hd (cs := #[.int .i64 0, .int .i64 0, .int .i64 0, .int .i64 0, .int .i64 0, .int .i64 0, .int .i64 0, .int .i64 0, .bool false, .int .i64 0]) (t := 31) ?hr ?_; (case hd => rfl); (case hg => rfl); (case hr => first | (go_simp; done) | (go_simp; rfl)); intro gb128 hg w12 hbox hb; have BK128 := Aside0.mk (hbox); have GW128 := Aside0.mk (xZ HB hg); have GE128 := Aside0.mk (xZ HB hg); replace HO114 := Aside0.mk (Kd.R_below (by (with_reducible repeat (first | apply Kd.R_alloc | apply Kd.R_drewN | apply Kd.R_drew)); exact HO114.out) hb); replace HB := Aside0.mk (xS HB hb); clear hb hbox hg; have hcz13_0 := blkc10 BK128.out))
  go_ret
  exact ⟨xer, xW HB⟩

/-! ### gamehallref3_Ruled: function 6 -/
mutual
def gamehallref3_Ruled.j0 : Nat → Int → Bool → List (S54) → Int → Int → Option (Int)
  | 0, _, _, _, _, _ => none
  | k + 1, x3, x14, z130a, z130b, z130c => if x14 = true then (some 2) else (if z130b < 0 then (gamehallref3_Ruled.j1 k x3 true z130a z130b z130c) else (if z130c < 0 then (gamehallref3_Ruled.j1 k x3 true z130a z130b z130c) else (if z130b > 100000000 then (gamehallref3_Ruled.j1 k x3 true z130a z130b z130c) else (gamehallref3_Ruled.j1 k x3 (decide (z130c > 100000000)) z130a z130b z130c))))
def gamehallref3_Ruled.j1 : Nat → Int → Bool → List (S54) → Int → Int → Option (Int)
  | 0, _, _, _, _, _ => none
  | k + 1, x3, x32, z130a, z130b, z130c => if x32 = true then (some 4) else (gamehallref3_Ruled.l0 k x3 z130a (z130a.length : Int) 0)
def gamehallref3_Ruled.l0 : Nat → Int → List (S54) → Int → Int → Option (Int)
  | 0, _, _, _, _ => none
  | k + 1, x3, x34, x35, x36 => if x36 < x35 then (if 0 ≤ x36 then (if x36 < (x34.length : Int) then (if ((rd_T54 x34 x36).f0) < 0 then (gamehallref3_Ruled.j3 k x3 x36 x34 x35 x36 true ((rd_T54 x34 x36).f0) ((rd_T54 x34 x36).f1)) else (if ((rd_T54 x34 x36).f0) > 400 then (gamehallref3_Ruled.j3 k x3 x36 x34 x35 x36 true ((rd_T54 x34 x36).f0) ((rd_T54 x34 x36).f1)) else (if ((rd_T54 x34 x36).f1) ≤ 0 then (gamehallref3_Ruled.j3 k x3 x36 x34 x35 x36 true ((rd_T54 x34 x36).f0) ((rd_T54 x34 x36).f1)) else (gamehallref3_Ruled.j3 k x3 x36 x34 x35 x36 (decide (((rd_T54 x34 x36).f1) > 100000000)) ((rd_T54 x34 x36).f0) ((rd_T54 x34 x36).f1))))) else (none)) else (none)) else (some 0)
def gamehallref3_Ruled.j3 : Nat → Int → Int → List (S54) → Int → Int → Bool → Int → Int → Option (Int)
  | 0, _, _, _, _, _, _, _, _ => none
  | k + 1, x3, x4, x34, x35, x36, x58, z132a, z132b => if x58 = true then (some 4) else (if x4 < (wrap64 (x3 - 1)) then (if z132a = 0 then (some 3) else (if x4 = (wrap64 (x3 - 1)) then (some 3) else (gamehallref3_Ruled.l0 k x3 x34 x35 (wrap64 (x36 + 1))))) else (if x4 = (wrap64 (x3 - 1)) then (if z132a = 0 then (gamehallref3_Ruled.l0 k x3 x34 x35 (wrap64 (x36 + 1))) else (some 3)) else (gamehallref3_Ruled.l0 k x3 x34 x35 (wrap64 (x36 + 1)))))
end
def gamehallref3_Ruled.f (k : Nat) (l0_0 : List (S54)) (a0_1 : Int) (a0_2 : Int) : Option (Int) := if (l0_0.length : Int) < 1 then (gamehallref3_Ruled.j0 k (l0_0.length : Int) true l0_0 a0_1 a0_2) else (gamehallref3_Ruled.j0 k (l0_0.length : Int) (decide ((l0_0.length : Int) > 5)) l0_0 a0_1 a0_2)
theorem gamehallref3_Ruled.mono_l : ∀ k, (∀ y0 y1 y2 y3 y4, LeO (gamehallref3_Ruled.j0 k y0 y1 y2 y3 y4) (gamehallref3_Ruled.j0 (k + 1) y0 y1 y2 y3 y4)) ∧ (∀ y0 y1 y2 y3 y4, LeO (gamehallref3_Ruled.j1 k y0 y1 y2 y3 y4) (gamehallref3_Ruled.j1 (k + 1) y0 y1 y2 y3 y4)) ∧ (∀ y0 y1 y2 y3, LeO (gamehallref3_Ruled.l0 k y0 y1 y2 y3) (gamehallref3_Ruled.l0 (k + 1) y0 y1 y2 y3)) ∧ (∀ y0 y1 y2 y3 y4 y5 y6 y7, LeO (gamehallref3_Ruled.j3 k y0 y1 y2 y3 y4 y5 y6 y7) (gamehallref3_Ruled.j3 (k + 1) y0 y1 y2 y3 y4 y5 y6 y7))
  | 0 => ⟨fun _ _ _ _ _ r h => by simp [gamehallref3_Ruled.j0] at h, fun _ _ _ _ _ r h => by simp [gamehallref3_Ruled.j1] at h, fun _ _ _ _ r h => by simp [gamehallref3_Ruled.l0] at h, fun _ _ _ _ _ _ _ _ r h => by simp [gamehallref3_Ruled.j3] at h⟩
  | k + 1 => by
    obtain ⟨ih0, ih1, ih2, ih3⟩ := gamehallref3_Ruled.mono_l k
    refine ⟨?_, ?_, ?_, ?_⟩
    · intros
      unfold gamehallref3_Ruled.j0
      repeat' first
      | (with_reducible apply ih0)
      | (with_reducible apply ih1)
      | (with_reducible apply ih2)
      | (with_reducible apply ih3)
      | (with_reducible exact LeO.refl _)
      | (with_reducible exact LeO.none _)
      | (with_reducible refine LeO.ite ?_ ?_)
      | (with_reducible refine LeO.bind ?_ (fun _ => ?_))
      | apply ih0
      | apply ih1
      | apply ih2
      | apply ih3
      | exact LeO.none _
      | refine LeO.ite ?_ ?_
      | refine LeO.bind ?_ (fun _ => ?_)
    · intros
      unfold gamehallref3_Ruled.j1
      repeat' first
      | (with_reducible apply ih0)
      | (with_reducible apply ih1)
      | (with_reducible apply ih2)
      | (with_reducible apply ih3)
      | (with_reducible exact LeO.refl _)
      | (with_reducible exact LeO.none _)
      | (with_reducible refine LeO.ite ?_ ?_)
      | (with_reducible refine LeO.bind ?_ (fun _ => ?_))
      | apply ih0
      | apply ih1
      | apply ih2
      | apply ih3
      | exact LeO.none _
      | refine LeO.ite ?_ ?_
      | refine LeO.bind ?_ (fun _ => ?_)
    · intros
      unfold gamehallref3_Ruled.l0
      repeat' first
      | (with_reducible apply ih0)
      | (with_reducible apply ih1)
      | (with_reducible apply ih2)
      | (with_reducible apply ih3)
      | (with_reducible exact LeO.refl _)
      | (with_reducible exact LeO.none _)
      | (with_reducible refine LeO.ite ?_ ?_)
      | (with_reducible refine LeO.bind ?_ (fun _ => ?_))
      | apply ih0
      | apply ih1
      | apply ih2
      | apply ih3
      | exact LeO.none _
      | refine LeO.ite ?_ ?_
      | refine LeO.bind ?_ (fun _ => ?_)
    · intros
      unfold gamehallref3_Ruled.j3
      repeat' first
      | (with_reducible apply ih0)
      | (with_reducible apply ih1)
      | (with_reducible apply ih2)
      | (with_reducible apply ih3)
      | (with_reducible exact LeO.refl _)
      | (with_reducible exact LeO.none _)
      | (with_reducible refine LeO.ite ?_ ?_)
      | (with_reducible refine LeO.bind ?_ (fun _ => ?_))
      | apply ih0
      | apply ih1
      | apply ih2
      | apply ih3
      | exact LeO.none _
      | refine LeO.ite ?_ ?_
      | refine LeO.bind ?_ (fun _ => ?_)
theorem gamehallref3_Ruled.mono : ∀ a0 a1 a2 k, LeO (gamehallref3_Ruled.f k a0 a1 a2) (gamehallref3_Ruled.f (k + 1) a0 a1 a2) := by
  intro a0 a1 a2 k
  obtain ⟨ih0, ih1, ih2, ih3⟩ := gamehallref3_Ruled.mono_l k
  unfold gamehallref3_Ruled.f
  repeat' first
      | (with_reducible apply ih0)
      | (with_reducible apply ih1)
      | (with_reducible apply ih2)
      | (with_reducible apply ih3)
      | (with_reducible exact LeO.refl _)
      | (with_reducible exact LeO.none _)
      | (with_reducible refine LeO.ite ?_ ?_)
      | (with_reducible refine LeO.bind ?_ (fun _ => ?_))
      | apply ih0
      | apply ih1
      | apply ih2
      | apply ih3
      | exact LeO.none _
      | refine LeO.ite ?_ ?_
      | refine LeO.bind ?_ (fun _ => ?_)
set_option maxHeartbeats 8000000 in
set_option maxRecDepth 100000 in
theorem gamehallref3_Ruled.calls (k : Nat) (A0_0 : Option Addr) (c0_0 : Nat) (l0_0 : List (S54)) (a0_1 : Int) (a0_2 : Int) (r : Int) (w : World) (hr0_0 : Kd.C k54 w A0_0 l0_0.length l0_0) (hc0_0 : l0_0.length ≤ c0_0) (h : gamehallref3_Ruled.f k l0_0 a0_1 a0_2 = some r) :
    Calls Try.prog 6 #[.agg #[.slice A0_0 l0_0.length c0_0, .int .i64 a0_1, .int .i64 a0_2]] w fun e w' => e = .returned (.int .i64 r) ∧ Below w.heap.size w w' := by
 have hu24 := Try.underlying24; have hu54 := Try.underlying54; have HR0_0 := Aside0.mk hr0_0; have HC0_0 := Aside0.mk hc0_0; clear hr0_0 hc0_0; have HB := Aside0.mk (Below.refl w.heap.size w); have hss_ := @isSome_setCell
 have H : (if (l0_0.length : Int) < 1 then (gamehallref3_Ruled.j0 k (l0_0.length : Int) true l0_0 a0_1 a0_2) else (gamehallref3_Ruled.j0 k (l0_0.length : Int) (decide ((l0_0.length : Int) > 5)) l0_0 a0_1 a0_2)) = some r := h
 clear h; have HC2 := Aside0.mk H; clear H
 go_enter Try.func6, Try.ntmps6
 go_upto_region 2 with (first | ((with_reducible refine gate_dst (N := 1) rfl ?_); refine box_event ?hg (N := 1) ?hd (cs := #[.slice A0_0 l0_0.length c0_0, .int .i64 a0_1, .int .i64 a0_2]) (t := 24) ?hr ?_; (case hd => rfl); (case hg => rfl); (case hr => first | (go_simp; done) | (go_simp; rfl)); intro gb129 hg w3 hbox hb; have BK129 := Aside0.mk (hbox); have GW129 := Aside0.mk (xZ HB hg); have GE129 := Aside0.mk (xZ HB hg); replace HB := Aside0.mk (xS HB hb); clear hb hbox hg; have hcz4_0 := blkc3 BK129.out))
 (try simp only [Act.put, List.setIfInBounds_toArray, List.set_cons_zero, List.set_cons_succ])
 go_cut [14] (fun vs14 wc => ∃ (kq : Nat) (x14_1 : Bool), vs14 = .bool x14_1 ∧ Aside0 (gamehallref3_Ruled.j0 kq (l0_0.length : Int) x14_1 l0_0 a0_1 a0_2 = some r) ∧ Aside0 (kq ≤ k) ∧ Aside0 (wc.heap[gb129]? = some (.cells #[(.slice A0_0 l0_0.length c0_0), .int .i64 a0_1, .int .i64 a0_2] 24 (0, 0))) ∧ Aside0 (Below w.heap.size w wc))
 case first =>
  have H := HC2.out; clear HC2
  by_cases c5 : (l0_0.length : Int) < 1
  ·rw [if_pos c5] at H
   have c5b0 : decide ((l0_0.length : Int) < 1) = true := decide_eq_true c5
   have c5b1 : decide (l0_0.length < 1) = true := decide_eq_true (by omega)
   clear c5
   (first | rw [c5b0] | (simp only [i64_w, i32_w]; rw [c5b0]) | skip)
   have H' := Aside0.mk H
   clear H
   go_wp2
   go_meet
   case rel => exact ⟨_, (true), (xrf), H', ⟨by first | omega | exact Nat.le_refl _⟩, ⟨xK BK129⟩, ⟨xW HB⟩⟩
  ·rw [if_neg c5] at H
   have c5b0 : decide ((l0_0.length : Int) < 1) = false := decide_eq_false c5
   have c5b1 : decide (l0_0.length < 1) = false := decide_eq_false (by omega)
   clear c5
   (first | rw [c5b0] | (simp only [i64_w, i32_w]; rw [c5b0]) | skip)
   have H' := Aside0.mk H
   clear H
   go_wp2
   go_meet
   case rel => exact ⟨_, (decide ((l0_0.length : Int) > 5)), (xrf), H', ⟨by first | omega | exact Nat.le_refl _⟩, ⟨xK BK129⟩, ⟨xW HB⟩⟩
 case rest =>
  clear HC2; (try clear p2)
  obtain ⟨kq, x14_1, rfl, HA, HJ1, BK129, HB⟩ := hcut
  cases kq with
  | zero => exact absurd HA.out (by simp [gamehallref3_Ruled.j0])
  | succ kj1 =>
   have H := HA.out; clear HA
   simp only [gamehallref3_Ruled.j0] at H
   by_cases c6 : x14_1 = true
   ·subst c6
    rw [if_pos rfl] at H
    obtain rfl := Option.some.inj H
    go_wp2
    go_ret
    exact ⟨xer, xW HB⟩
   ·replace c6 := Bool.eq_false_iff.mpr c6
    subst c6
    rw [if_neg (show ¬ (false = true) by decide)] at H
    have HC7 := Aside0.mk H; clear H
    go_upto_region 4 with (fail)
    go_cut [32] (fun vs32 wc => ∃ (kq : Nat) (x32_6 : Bool), vs32 = .bool x32_6 ∧ Aside0 (gamehallref3_Ruled.j1 kq (l0_0.length : Int) x32_6 l0_0 a0_1 a0_2 = some r) ∧ Aside0 (kq ≤ kj1) ∧ Aside0 (wc.heap[gb129]? = some (.cells #[(.slice A0_0 l0_0.length c0_0), .int .i64 a0_1, .int .i64 a0_2] 24 (0, 0))) ∧ Aside0 (Below w.heap.size w wc))
    case first =>
     have H := HC7.out; clear HC7
     by_cases c8 : a0_1 < 0
     ·rw [if_pos c8] at H
      have c8b0 : decide (a0_1 < 0) = true := decide_eq_true c8
      clear c8
      (first | rw [c8b0] | (simp only [i64_w, i32_w]; rw [c8b0]) | skip)
      have H' := Aside0.mk H
      clear H; have hcz9_0 := blkc3 BK129.out
      go_wp2
      go_meet
      case rel => exact ⟨_, (true), (xrf), H', ⟨by have := HJ1.out; first | omega | exact Nat.le_refl _⟩, ⟨xK BK129⟩, ⟨xW HB⟩⟩
     ·rw [if_neg c8] at H
      have c8b0 : decide (a0_1 < 0) = false := decide_eq_false c8
      clear c8
      (first | rw [c8b0] | (simp only [i64_w, i32_w]; rw [c8b0]) | skip)
      by_cases c10 : a0_2 < 0
      ·rw [if_pos c10] at H
       have c10b0 : decide (a0_2 < 0) = true := decide_eq_true c10
       clear c10
       have H' := Aside0.mk H
       clear H; have hcz11_0 := blkc3 BK129.out
       go_wp2
       go_meet
       case rel => exact ⟨_, (true), (xrf), H', ⟨by have := HJ1.out; first | omega | exact Nat.le_refl _⟩, ⟨xK BK129⟩, ⟨xW HB⟩⟩
      ·rw [if_neg c10] at H
       have c10b0 : decide (a0_2 < 0) = false := decide_eq_false c10
       clear c10
       by_cases c12 : a0_1 > 100000000
       ·rw [if_pos c12] at H
        have c12b0 : decide (100000000 < a0_1) = true := decide_eq_true c12
        clear c12
        have H' := Aside0.mk H
        clear H; have hcz13_0 := blkc3 BK129.out
        go_wp2
        go_meet
        case rel => exact ⟨_, (true), (xrf), H', ⟨by have := HJ1.out; first | omega | exact Nat.le_refl _⟩, ⟨xK BK129⟩, ⟨xW HB⟩⟩
       ·rw [if_neg c12] at H
        have c12b0 : decide (100000000 < a0_1) = false := decide_eq_false c12
        clear c12
        have H' := Aside0.mk H
        clear H; have hcz14_0 := blkc3 BK129.out
        go_wp2
        go_meet
        case rel => exact ⟨_, (decide (a0_2 > 100000000)), (xrf), H', ⟨by have := HJ1.out; first | omega | exact Nat.le_refl _⟩, ⟨xK BK129⟩, ⟨xW HB⟩⟩
    case rest =>
     clear HC7; (try clear p2); (try clear p2)
     obtain ⟨kq, x32_6, rfl, HA, HJ6, BK129, HB⟩ := hcut
     cases kq with
     | zero => exact absurd HA.out (by simp [gamehallref3_Ruled.j1])
     | succ kj6 =>
      have H := HA.out; clear HA
      simp only [gamehallref3_Ruled.j1] at H
      by_cases c15 : x32_6 = true
      ·subst c15
       rw [if_pos rfl] at H
       obtain rfl := Option.some.inj H
       go_wp2
       go_ret
       exact ⟨xer, xW HB⟩
      ·replace c15 := Bool.eq_false_iff.mpr c15
       subst c15
       rw [if_neg (show ¬ (false = true) by decide)] at H
       have H' := Aside0.mk H
       clear H; have hcz16_0 := blkc3 BK129.out
       go_wp2
       go_loopg [36] kj6 (fun kq vs36 w' => ∃ (x36_3 : Int), vs36 = .int .i64 x36_3 ∧ Aside0 (gamehallref3_Ruled.l0 kq (l0_0.length : Int) l0_0 (l0_0.length : Int) x36_3 = some r) ∧ Aside0 (kq ≤ kj6) ∧ Aside0 (w'.heap[gb129]? = some (.cells #[(.slice A0_0 l0_0.length c0_0), .int .i64 a0_1, .int .i64 a0_2] 24 (0, 0))) ∧ Aside0 (Below w.heap.size w w'))
       case atStart => exact ⟨(0), (xrf), H', ⟨Nat.le_refl _⟩, ⟨xK BK129⟩, ⟨xW HB⟩⟩
       case round =>
        clear H'; (try clear p2); (try clear p2)
        obtain ⟨x36_3, rfl, HA, HK3, BK129, HB⟩ := hrel
        cases gk with
        | zero => exact absurd HA.out (by simp [gamehallref3_Ruled.l0])
        | succ k3 =>
         have H := HA.out; clear HA
         simp only [gamehallref3_Ruled.l0] at H
         by_cases c17 : x36_3 < (l0_0.length : Int)
         ·rw [if_pos c17] at H
          have c17b0 : decide (x36_3 < (l0_0.length : Int)) = true := decide_eq_true c17
          clear c17
          by_cases c18 : 0 ≤ x36_3
          ·rw [if_pos c18] at H
           have c18b0 : decide (0 ≤ x36_3) = true := decide_eq_true c18
           clear c18
           by_cases c19 : x36_3 < (l0_0.length : Int)
           ·rw [if_pos c19] at H
            have c19b0 : decide (x36_3 < (l0_0.length : Int)) = true := decide_eq_true c19
            clear c19; have HC20 := Aside0.mk H; clear H
            have p130 : 0 ≤ (x36_3 : Int) := of_decide_eq_true (by first | (with_reducible assumption) | assumption)
            have q130 : x36_3 < (l0_0.length : Int) := of_decide_eq_true (by first | (with_reducible assumption) | assumption)
            obtain ⟨ad130, e130, hx130_0, hx130_1⟩ := at_T54 HR0_0.out x36_3 p130 q130
            cases e130
            replace hx130_0 := (HB.out.cell (World.block_lt_of_cell? w _ hx130_0)).trans hx130_0; replace hx130_1 := (HB.out.cell (World.block_lt_of_cell? w _ hx130_1)).trans hx130_1; replace p130 := eq_true p130; replace q130 := eq_true q130
            go_upto_region 9 with (first | ((with_reducible refine gate_dst (N := 5) rfl ?_); refine box_event ?hg (N := 5) ?hd (cs := #[.int .i64 0, .int .i64 0]) (t := 54) ?hr ?_; (case hd => rfl); (case hg => rfl); (case hr => first | (go_simp; done) | (go_simp; rfl)); intro gb131 hg w21 hbox hb; have BK131 := Aside0.mk (hbox); have GW131 := Aside0.mk (xZ HB hg); have GE131 := Aside0.mk (xZ HB hg); have NB129_131 := Aside0.mk (xN BK129 hg); have NB131_129 := Aside0.mk (xM BK129 hg); replace BK129 := Aside0.mk (xB BK129 hb); replace HB := Aside0.mk (xS HB hb); clear hb hbox hg; have hnb22 := NB131_129.out; have hnc22 := NB129_131.out; have hcz23_0 := blkc2 BK131.out))
            (try have hq131_129 := NB131_129.out); (try have hq129_131 := NB129_131.out)
            (try simp only [Act.put, List.setIfInBounds_toArray, List.set_cons_zero, List.set_cons_succ])
            go_cut [58] (fun vs58 wc => ∃ (kq : Nat) (x58_19 : Bool), vs58 = .bool x58_19 ∧ Aside0 (gamehallref3_Ruled.j3 kq (l0_0.length : Int) x36_3 l0_0 (l0_0.length : Int) x36_3 x58_19 ((rd_T54 l0_0 x36_3).f0) ((rd_T54 l0_0 x36_3).f1) = some r) ∧ Aside0 (kq ≤ k3) ∧ Aside0 (wc.heap[gb129]? = some (.cells #[(.slice (some ad130) l0_0.length c0_0), .int .i64 a0_1, .int .i64 a0_2] 24 (0, 0))) ∧ Aside0 (wc.heap[gb131]? = some (.cells #[.int .i64 ((rd_T54 l0_0 x36_3).f0), .int .i64 ((rd_T54 l0_0 x36_3).f1)] 54 (0, 0))) ∧ Aside0 (Below w.heap.size w wc))
            case first =>
             have H := HC20.out; clear HC20
             by_cases c24 : ((rd_T54 l0_0 x36_3).f0) < 0
             ·rw [if_pos c24] at H
              have c24b0 : decide (((rd_T54 l0_0 x36_3).f0) < 0) = true := decide_eq_true c24
              clear c24
              (first | rw [c24b0] | (simp only [i64_w, i32_w]; rw [c24b0]) | skip)
              have H' := Aside0.mk H
              clear H; have hcz26_0 := blkc2 BK131.out
              go_wp2
              go_meet
              case rel => exact ⟨_, (true), (xrf), H', ⟨by have := HJ1.out; have := HJ6.out; have := HK3.out; first | omega | exact Nat.le_refl _⟩, ⟨xK BK129⟩, ⟨xQ BK131⟩, ⟨xW HB⟩⟩
             ·rw [if_neg c24] at H
              have c24b0 : decide (((rd_T54 l0_0 x36_3).f0) < 0) = false := decide_eq_false c24
              clear c24
              (first | rw [c24b0] | (simp only [i64_w, i32_w]; rw [c24b0]) | skip)
              by_cases c27 : ((rd_T54 l0_0 x36_3).f0) > 400
              ·rw [if_pos c27] at H
               have c27b0 : decide (400 < ((rd_T54 l0_0 x36_3).f0)) = true := decide_eq_true c27
               clear c27
               have H' := Aside0.mk H
               clear H; have hcz29_0 := blkc2 BK131.out
               go_wp2
               go_meet
               case rel => exact ⟨_, (true), (xrf), H', ⟨by have := HJ1.out; have := HJ6.out; have := HK3.out; first | omega | exact Nat.le_refl _⟩, ⟨xK BK129⟩, ⟨xQ BK131⟩, ⟨xW HB⟩⟩
              ·rw [if_neg c27] at H
               have c27b0 : decide (400 < ((rd_T54 l0_0 x36_3).f0)) = false := decide_eq_false c27
               clear c27
               by_cases c30 : ((rd_T54 l0_0 x36_3).f1) ≤ 0
               ·rw [if_pos c30] at H
                have c30b0 : decide (((rd_T54 l0_0 x36_3).f1) ≤ 0) = true := decide_eq_true c30
                clear c30
                have H' := Aside0.mk H
                clear H; have hcz32_0 := blkc2 BK131.out
                go_wp2
                go_meet
                case rel => exact ⟨_, (true), (xrf), H', ⟨by have := HJ1.out; have := HJ6.out; have := HK3.out; first | omega | exact Nat.le_refl _⟩, ⟨xK BK129⟩, ⟨xQ BK131⟩, ⟨xW HB⟩⟩
               ·rw [if_neg c30] at H
                have c30b0 : decide (((rd_T54 l0_0 x36_3).f1) ≤ 0) = false := decide_eq_false c30
                clear c30
                have H' := Aside0.mk H
                clear H; have hcz34_0 := blkc2 BK131.out
                go_wp2
                go_meet
                case rel => exact ⟨_, (decide (((rd_T54 l0_0 x36_3).f1) > 100000000)), (xrf), H', ⟨by have := HJ1.out; have := HJ6.out; have := HK3.out; first | omega | exact Nat.le_refl _⟩, ⟨xK BK129⟩, ⟨xQ BK131⟩, ⟨xW HB⟩⟩
            case rest =>
             clear HC20; (try clear p1); (try clear q1); (try clear hx1); (try clear p2); (try clear p13); (try clear q13); (try clear hx13); (try clear hx130_0); (try clear hx130_1); (try clear p130); (try clear p2); (try clear q130)
             obtain ⟨kq, x58_19, rfl, HA, HJ19, BK129, BK131, HB⟩ := hcut
             cases kq with
             | zero => exact absurd HA.out (by simp [gamehallref3_Ruled.j3])
             | succ kj19 =>
              have H := HA.out; clear HA
              simp only [gamehallref3_Ruled.j3] at H
              by_cases c35 : x58_19 = true
              ·subst c35
               rw [if_pos rfl] at H
               obtain rfl := Option.some.inj H
               go_wp2
               go_ret
               exact ⟨xer, xW HB⟩
              ·replace c35 := Bool.eq_false_iff.mpr c35
               subst c35
               rw [if_neg (show ¬ (false = true) by decide)] at H
               by_cases c36 : x36_3 < (wrap64 ((l0_0.length : Int) - 1))
               ·rw [if_pos c36] at H
                have c36b0 : decide (x36_3 < (wrap64 ((l0_0.length : Int) - 1))) = true := decide_eq_true c36
                clear c36
                by_cases c37 : ((rd_T54 l0_0 x36_3).f0) = 0
                ·rw [if_pos c37] at H
                 have c37b0 : (((rd_T54 l0_0 x36_3).f0) == 0) = true := beq_iff_eq.mpr c37
                 have c37b1 : (((rd_T54 l0_0 x36_3).f0) != 0) = false := bne_eq_false_iff_eq.mpr c37
                 clear c37
                 obtain rfl := Option.some.inj H
                 have hcz39_0 := blkc2 BK131.out
                 go_wp2
                 go_ret
                 exact ⟨xer, xW HB⟩
                ·rw [if_neg c37] at H
                 have c37b0 : (((rd_T54 l0_0 x36_3).f0) == 0) = false := beq_eq_false_iff_ne.mpr c37
                 have c37b1 : (((rd_T54 l0_0 x36_3).f0) != 0) = true := bne_iff_ne.mpr c37
                 by_cases c40 : x36_3 = (wrap64 ((l0_0.length : Int) - 1))
                 ·rw [if_pos c40] at H
                  have c40b0 : (x36_3 == (wrap64 ((l0_0.length : Int) - 1))) = true := beq_iff_eq.mpr c40
                  have c40b1 : (x36_3 != (wrap64 ((l0_0.length : Int) - 1))) = false := bne_eq_false_iff_eq.mpr c40
                  clear c40
                  obtain rfl := Option.some.inj H
                  have hcz42_0 := blkc2 BK131.out
                  go_wp2
                  go_ret
                  exact ⟨xer, xW HB⟩
                 ·rw [if_neg c40] at H
                  have c40b0 : (x36_3 == (wrap64 ((l0_0.length : Int) - 1))) = false := beq_eq_false_iff_ne.mpr c40
                  have c40b1 : (x36_3 != (wrap64 ((l0_0.length : Int) - 1))) = true := bne_iff_ne.mpr c40
                  have H' := Aside0.mk H
                  clear H; have hcz44_0 := blkc2 BK131.out
                  go_wp2
                  go_roundg kj19
                  case measure => have := HJ1.out; have := HJ6.out; have := HK3.out; have := HJ19.out; omega
                  case rel => exact ⟨(wrap64 (x36_3 + 1)), (xrf), H', ⟨by have := HJ1.out; have := HJ6.out; have := HK3.out; have := HJ19.out; omega⟩, ⟨xK BK129⟩, ⟨xW HB⟩⟩
               ·rw [if_neg c36] at H
                have c36b0 : decide (x36_3 < (wrap64 ((l0_0.length : Int) - 1))) = false := decide_eq_false c36
                clear c36
                by_cases c45 : x36_3 = (wrap64 ((l0_0.length : Int) - 1))
                ·rw [if_pos c45] at H
                 have c45b0 : (x36_3 == (wrap64 ((l0_0.length : Int) - 1))) = true := beq_iff_eq.mpr c45
                 have c45b1 : (x36_3 != (wrap64 ((l0_0.length : Int) - 1))) = false := bne_eq_false_iff_eq.mpr c45
                 clear c45
                 by_cases c46 : ((rd_T54 l0_0 x36_3).f0) = 0
                 ·rw [if_pos c46] at H
                  have c46b0 : (((rd_T54 l0_0 x36_3).f0) == 0) = true := beq_iff_eq.mpr c46
                  have c46b1 : (((rd_T54 l0_0 x36_3).f0) != 0) = false := bne_eq_false_iff_eq.mpr c46
                  clear c46
                  have H' := Aside0.mk H
                  clear H; have hcz48_0 := blkc2 BK131.out
                  go_wp2
                  go_roundg kj19
                  case measure => have := HJ1.out; have := HJ6.out; have := HK3.out; have := HJ19.out; omega
                  case rel => exact ⟨(wrap64 (x36_3 + 1)), (xrf), H', ⟨by have := HJ1.out; have := HJ6.out; have := HK3.out; have := HJ19.out; omega⟩, ⟨xK BK129⟩, ⟨xW HB⟩⟩
                 ·rw [if_neg c46] at H
                  have c46b0 : (((rd_T54 l0_0 x36_3).f0) == 0) = false := beq_eq_false_iff_ne.mpr c46
                  have c46b1 : (((rd_T54 l0_0 x36_3).f0) != 0) = true := bne_iff_ne.mpr c46
                  obtain rfl := Option.some.inj H
                  have hcz50_0 := blkc2 BK131.out
                  go_wp2
                  go_ret
                  exact ⟨xer, xW HB⟩
                ·rw [if_neg c45] at H
                 have c45b0 : (x36_3 == (wrap64 ((l0_0.length : Int) - 1))) = false := beq_eq_false_iff_ne.mpr c45
                 have c45b1 : (x36_3 != (wrap64 ((l0_0.length : Int) - 1))) = true := bne_iff_ne.mpr c45
                 have H' := Aside0.mk H
                 clear H
                 go_wp2
                 go_roundg kj19
                 case measure => have := HJ1.out; have := HJ6.out; have := HK3.out; have := HJ19.out; omega
                 case rel => exact ⟨(wrap64 (x36_3 + 1)), (xrf), H', ⟨by have := HJ1.out; have := HJ6.out; have := HK3.out; have := HJ19.out; omega⟩, ⟨xK BK129⟩, ⟨xW HB⟩⟩
           ·rw [if_neg c19] at H
            exact absurd H (by simp)
          ·rw [if_neg c18] at H
           exact absurd H (by simp)
         ·rw [if_neg c17] at H
          have c17b0 : decide (x36_3 < (l0_0.length : Int)) = false := decide_eq_false c17
          clear c17
          obtain rfl := Option.some.inj H
          go_wp2
          go_ret
          exact ⟨xer, xW HB⟩

end Go.Proofs.Ytikijopbgjncbaa.PClockRuns
