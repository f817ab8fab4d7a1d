-- Printed by a program of this claim's writer (wip/ext): an extension of the kit's print.
import Derived.Test.YtcncilipmekfhaaPClockStopsx0
import Derived.Test.YtcncilipmekfhaaPClockStopsx1
namespace Go.Proofs.Ytcncilipmekfhaa.PClockStops
open Go.RowKit Go.Proofs.YtcncilipmekfhaaW.PrintWords Go.Proofs.YtcncilipmekfhaaW.PrintLast Go.Proofs.YtcncilipmekfhaaW.PrintMore
attribute [local go_sem] max2_int min2_int max_two min_two max_three min_three max_four min_four   -- for this text's walks alone
set_option linter.unusedVariables false
set_option linter.unusedSimpArgs false

attribute [local go_sem high] eqA43
/-! ### clock_Check: function 56 -/
mutual
def clock_Check.j0 : Nat → Bool → List (S91) → Int → Int → Option (Int)
  | 0, _, _, _, _ => none
  | k + 1, x14, z102a, z102b, z102c => if x14 = true then (some 2) else (if (mn z102b z102c) < 0 then (clock_Check.j1 k true z102a z102b z102c) else (clock_Check.j1 k (decide ((mx z102b z102c) > 100000000)) z102a z102b z102c))
def clock_Check.j1 : Nat → Bool → List (S91) → Int → Int → Option (Int)
  | 0, _, _, _, _ => none
  | k + 1, x28, z102a, z102b, z102c => if x28 = true then (some 4) else (clock_Check.l0 k z102a (z102a.length : Int) 0 z102a z102b z102c)
def clock_Check.l0 : Nat → List (S91) → Int → Int → List (S91) → Int → Int → Option (Int)
  | 0, _, _, _, _, _, _ => none
  | k + 1, x30, x31, x32, z102a, z102b, z102c => if x32 < x31 then (if 0 ≤ x32 then (if x32 < (x30.length : Int) then (if ((rd_T91 x30 x32).f0) < 0 then (clock_Check.j3 k x32 x30 x31 x32 true z102a z102b z102c ((rd_T91 x30 x32).f0) ((rd_T91 x30 x32).f1)) else (if ((rd_T91 x30 x32).f0) > 400 then (clock_Check.j3 k x32 x30 x31 x32 true z102a z102b z102c ((rd_T91 x30 x32).f0) ((rd_T91 x30 x32).f1)) else (if ((rd_T91 x30 x32).f1) < 1 then (clock_Check.j3 k x32 x30 x31 x32 true z102a z102b z102c ((rd_T91 x30 x32).f0) ((rd_T91 x30 x32).f1)) else (clock_Check.j3 k x32 x30 x31 x32 (decide (((rd_T91 x30 x32).f1) > 100000000)) z102a z102b z102c ((rd_T91 x30 x32).f0) ((rd_T91 x30 x32).f1))))) else (none)) else (none)) else (some 0)
def clock_Check.j3 : Nat → Int → List (S91) → Int → Int → Bool → List (S91) → Int → Int → Int → Int → Option (Int)
  | 0, _, _, _, _, _, _, _, _, _, _ => none
  | k + 1, x3, x30, x31, x32, x54, z102a, z102b, z102c, z104a, z104b => if x54 = true then (some 4) else (if ((z104a == 0) != (x3 == (wrap64 ((z102a.length : Int) - 1)))) = true then (some 3) else (clock_Check.l0 k x30 x31 (wrap64 (x32 + 1)) z102a z102b z102c))
end
def clock_Check.f (k : Nat) (l0_0 : List (S91)) (a0_1 : Int) (a0_2 : Int) : Option (Int) := if (l0_0.length : Int) = 0 then (clock_Check.j0 k true l0_0 a0_1 a0_2) else (clock_Check.j0 k (decide ((l0_0.length : Int) > 5)) l0_0 a0_1 a0_2)
theorem clock_Check.mono_l : ∀ k, (∀ y0 y1 y2 y3, LeO (clock_Check.j0 k y0 y1 y2 y3) (clock_Check.j0 (k + 1) y0 y1 y2 y3)) ∧ (∀ y0 y1 y2 y3, LeO (clock_Check.j1 k y0 y1 y2 y3) (clock_Check.j1 (k + 1) y0 y1 y2 y3)) ∧ (∀ y0 y1 y2 y3 y4 y5, LeO (clock_Check.l0 k y0 y1 y2 y3 y4 y5) (clock_Check.l0 (k + 1) y0 y1 y2 y3 y4 y5)) ∧ (∀ y0 y1 y2 y3 y4 y5 y6 y7 y8 y9, LeO (clock_Check.j3 k y0 y1 y2 y3 y4 y5 y6 y7 y8 y9) (clock_Check.j3 (k + 1) y0 y1 y2 y3 y4 y5 y6 y7 y8 y9))
  | 0 => ⟨fun _ _ _ _ r h => by simp [clock_Check.j0] at h, fun _ _ _ _ r h => by simp [clock_Check.j1] at h, fun _ _ _ _ _ _ r h => by simp [clock_Check.l0] at h, fun _ _ _ _ _ _ _ _ _ _ r h => by simp [clock_Check.j3] at h⟩
  | k + 1 => by
    obtain ⟨ih0, ih1, ih2, ih3⟩ := clock_Check.mono_l k
    refine ⟨?_, ?_, ?_, ?_⟩
    · intros
      unfold clock_Check.j0
      repeat' first
      | (with_reducible apply ih0)
      | (with_reducible apply ih1)
      | (with_reducible apply ih2)
      | (with_reducible apply ih3)
      | (with_reducible exact LeO.refl _)
      | (with_reducible exact LeO.none _)
      | (with_reducible refine LeO.ite ?_ ?_)
      | (with_reducible refine LeO.bind ?_ (fun _ => ?_))
      | apply ih0
      | apply ih1
      | apply ih2
      | apply ih3
      | exact LeO.none _
      | refine LeO.ite ?_ ?_
      | refine LeO.bind ?_ (fun _ => ?_)
    · intros
      unfold clock_Check.j1
      repeat' first
      | (with_reducible apply ih0)
      | (with_reducible apply ih1)
      | (with_reducible apply ih2)
      | (with_reducible apply ih3)
      | (with_reducible exact LeO.refl _)
      | (with_reducible exact LeO.none _)
      | (with_reducible refine LeO.ite ?_ ?_)
      | (with_reducible refine LeO.bind ?_ (fun _ => ?_))
      | apply ih0
      | apply ih1
      | apply ih2
      | apply ih3
      | exact LeO.none _
      | refine LeO.ite ?_ ?_
      | refine LeO.bind ?_ (fun _ => ?_)
    · intros
      unfold clock_Check.l0
      repeat' first
      | (with_reducible apply ih0)
      | (with_reducible apply ih1)
      | (with_reducible apply ih2)
      | (with_reducible apply ih3)
      | (with_reducible exact LeO.refl _)
      | (with_reducible exact LeO.none _)
      | (with_reducible refine LeO.ite ?_ ?_)
      | (with_reducible refine LeO.bind ?_ (fun _ => ?_))
      | apply ih0
      | apply ih1
      | apply ih2
      | apply ih3
      | exact LeO.none _
      | refine LeO.ite ?_ ?_
      | refine LeO.bind ?_ (fun _ => ?_)
    · intros
      unfold clock_Check.j3
      repeat' first
      | (with_reducible apply ih0)
      | (with_reducible apply ih1)
      | (with_reducible apply ih2)
      | (with_reducible apply ih3)
      | (with_reducible exact LeO.refl _)
      | (with_reducible exact LeO.none _)
      | (with_reducible refine LeO.ite ?_ ?_)
      | (with_reducible refine LeO.bind ?_ (fun _ => ?_))
      | apply ih0
      | apply ih1
      | apply ih2
      | apply ih3
      | exact LeO.none _
      | refine LeO.ite ?_ ?_
      | refine LeO.bind ?_ (fun _ => ?_)
theorem clock_Check.mono : ∀ a0 a1 a2 k, LeO (clock_Check.f k a0 a1 a2) (clock_Check.f (k + 1) a0 a1 a2) := by
  intro a0 a1 a2 k
  obtain ⟨ih0, ih1, ih2, ih3⟩ := clock_Check.mono_l k
  unfold clock_Check.f
  repeat' first
      | (with_reducible apply ih0)
      | (with_reducible apply ih1)
      | (with_reducible apply ih2)
      | (with_reducible apply ih3)
      | (with_reducible exact LeO.refl _)
      | (with_reducible exact LeO.none _)
      | (with_reducible refine LeO.ite ?_ ?_)
      | (with_reducible refine LeO.bind ?_ (fun _ => ?_))
      | apply ih0
      | apply ih1
      | apply ih2
      | apply ih3
      | exact LeO.none _
      | refine LeO.ite ?_ ?_
      | refine LeO.bind ?_ (fun _ => ?_)
set_option maxHeartbeats 8000000 in
set_option maxRecDepth 100000 in
theorem clock_Check.calls (k : Nat) (A0_0 : Option Addr) (c0_0 : Nat) (l0_0 : List (S91)) (a0_1 : Int) (a0_2 : Int) (r : Int) (w : World) (hr0_0 : Kd.C k91 w A0_0 l0_0.length l0_0) (hc0_0 : l0_0.length ≤ c0_0) (h : clock_Check.f k l0_0 a0_1 a0_2 = some r) :
    Calls Try.prog 56 #[.agg #[.slice A0_0 l0_0.length c0_0, .int .i64 a0_1, .int .i64 a0_2]] w fun e w' => e = .returned (.int .i64 r) ∧ Below w.heap.size w w' := by
 have hu42 := Try.underlying42; have hu91 := Try.underlying91; have HR0_0 := Aside0.mk hr0_0; have HC0_0 := Aside0.mk hc0_0; clear hr0_0 hc0_0; have HB := Aside0.mk (Below.refl w.heap.size w); have hss_ := @isSome_setCell
 have H : (if (l0_0.length : Int) = 0 then (clock_Check.j0 k true l0_0 a0_1 a0_2) else (clock_Check.j0 k (decide ((l0_0.length : Int) > 5)) l0_0 a0_1 a0_2)) = some r := h
 clear h; have HC2 := Aside0.mk H; clear H
 go_enter Try.func56, Try.ntmps56
 go_upto_region 1 with (first | ((with_reducible refine gate_dst (N := 1) rfl ?_); (try (refine gate_guard (by rfl) ?_; dsimp only)); refine box_event ?hg (N := 1) ?hd (cs := #[.slice A0_0 l0_0.length c0_0, .int .i64 a0_1, .int .i64 a0_2]) (t := 42) ?hr ?_; (case hd => rfl); (case hg => rfl); (case hr => first | (go_simp; done) | (go_simp; rfl)); intro gb101 hg w3 hbox hb; have BK101 := Aside0.mk (hbox); have GW101 := Aside0.mk (xZ HB hg); have GE101 := Aside0.mk (xZ HB hg); replace HB := Aside0.mk (xS HB hb); clear hb hbox hg))
 (try simp only [Act.put, List.setIfInBounds_toArray, List.set_cons_zero, List.set_cons_succ])
 go_cut [14] (fun vs14 wc => ∃ (kq : Nat) (x14_1 : Bool), vs14 = .bool x14_1 ∧ Aside0 (clock_Check.j0 kq x14_1 l0_0 a0_1 a0_2 = some r) ∧ Aside0 (kq ≤ k) ∧ Aside0 (wc.heap[gb101]? = some (.cells #[(.slice A0_0 l0_0.length c0_0), .int .i64 a0_1, .int .i64 a0_2] 42 (0, 0))) ∧ Aside0 (Below w.heap.size w wc))
 case first =>
  have H := HC2.out; clear HC2
  by_cases c4 : (l0_0.length : Int) = 0
  ·rw [if_pos c4] at H
   have c4b0 : ((l0_0.length : Int) == 0) = true := beq_iff_eq.mpr c4
   have c4b1 : ((l0_0.length : Int) != 0) = false := bne_eq_false_iff_eq.mpr c4
   clear c4
   (first | rw [c4b0] | (simp only [i64_w, i32_w]; rw [c4b0]) | skip)
   have H' := Aside0.mk H
   clear H; have hcz5_0 := blkc3 BK101.out
   go_wp2
   go_meet
   case rel => exact ⟨_, (true), (xrf), H', ⟨by first | omega | exact Nat.le_refl _⟩, ⟨xK BK101⟩, ⟨xW HB⟩⟩
  ·rw [if_neg c4] at H
   have c4b0 : ((l0_0.length : Int) == 0) = false := beq_eq_false_iff_ne.mpr c4
   have c4b1 : ((l0_0.length : Int) != 0) = true := bne_iff_ne.mpr c4
   have c4b2 : ¬ (l0_0 = []) := fun h_ => c4 (by rw [h_]; rfl)
   (first | rw [c4b0] | (simp only [i64_w, i32_w]; rw [c4b0]) | skip)
   have H' := Aside0.mk H
   clear H; have hcz6_0 := blkc3 BK101.out
   go_wp2
   go_meet
   case rel => exact ⟨_, (decide ((l0_0.length : Int) > 5)), (xrf), H', ⟨by first | omega | exact Nat.le_refl _⟩, ⟨xK BK101⟩, ⟨xW HB⟩⟩
 case rest =>
  clear HC2; (try clear p2)
  obtain ⟨kq, x14_1, rfl, HA, HJ1, BK101, HB⟩ := hcut
  cases kq with
  | zero => exact absurd HA.out (by simp [clock_Check.j0])
  | succ kj1 =>
   have H := HA.out; clear HA
   simp only [clock_Check.j0] at H
   by_cases c7 : x14_1 = true
   ·subst c7
    rw [if_pos rfl] at H
    obtain rfl := Option.some.inj H
    go_wp2
    go_ret
    exact ⟨xer, xW HB⟩
   ·replace c7 := Bool.eq_false_iff.mpr c7
    subst c7
    rw [if_neg (show ¬ (false = true) by decide)] at H
    have HC8 := Aside0.mk H; clear H
    go_upto_region 3 with (fail)
    go_cut [28] (fun vs28 wc => ∃ (kq : Nat) (x28_7 : Bool), vs28 = .bool x28_7 ∧ Aside0 (clock_Check.j1 kq x28_7 l0_0 a0_1 a0_2 = some r) ∧ Aside0 (kq ≤ kj1) ∧ Aside0 (wc.heap[gb101]? = some (.cells #[(.slice A0_0 l0_0.length c0_0), .int .i64 a0_1, .int .i64 a0_2] 42 (0, 0))) ∧ Aside0 (Below w.heap.size w wc))
    case first =>
     have H := HC8.out; clear HC8
     obtain ⟨ji9, hji9⟩ : ∃ j_ : Int, (mn a0_1 a0_2) = j_ := ⟨_, rfl⟩
     (first | rw [hji9] at H | simp only [hji9] at H)
     have hji9_ : (if a0_2 < a0_1 then a0_2 else a0_1) = ji9 := hji9
     by_cases c10 : (ji9) < 0
     ·rw [if_pos c10] at H
      have c10b0 : decide ((ji9) < 0) = true := decide_eq_true c10
      clear c10
      (first | rw [c10b0] | (simp only [i64_w, i32_w]; rw [c10b0]) | skip)
      have H' := Aside0.mk H
      clear H; have hcz11_0 := blkc3 BK101.out
      go_wp2
      go_meet
      case rel => exact ⟨_, (true), (xrf), H', ⟨by have := HJ1.out; first | omega | exact Nat.le_refl _⟩, ⟨xK BK101⟩, ⟨xW HB⟩⟩
     ·rw [if_neg c10] at H
      have c10b0 : decide ((ji9) < 0) = false := decide_eq_false c10
      clear c10
      (first | rw [c10b0] | (simp only [i64_w, i32_w]; rw [c10b0]) | skip)
      obtain ⟨ji12, hji12⟩ : ∃ j_ : Int, (mx a0_1 a0_2) = j_ := ⟨_, rfl⟩
      (first | rw [hji12] at H | simp only [hji12] at H)
      have hji12_ : (if a0_1 < a0_2 then a0_2 else a0_1) = ji12 := hji12
      have H' := Aside0.mk H
      clear H; have hcz13_0 := blkc3 BK101.out
      go_wp2
      go_meet
      case rel => exact ⟨_, (decide ((ji12) > 100000000)), (by first | rfl | (simp; done) | (simp only [← hji12] <;> (first | rfl | simp)) | (simp [*]; done)), H', ⟨by have := HJ1.out; first | omega | exact Nat.le_refl _⟩, ⟨xK BK101⟩, ⟨xW HB⟩⟩
    case rest =>
     clear HC8; (try clear p2); (try clear p2)
     obtain ⟨kq, x28_7, rfl, HA, HJ7, BK101, HB⟩ := hcut
     cases kq with
     | zero => exact absurd HA.out (by simp [clock_Check.j1])
     | succ kj7 =>
      have H := HA.out; clear HA
      simp only [clock_Check.j1] at H
      by_cases c14 : x28_7 = true
      ·subst c14
       rw [if_pos rfl] at H
       obtain rfl := Option.some.inj H
       go_wp2
       go_ret
       exact ⟨xer, xW HB⟩
      ·replace c14 := Bool.eq_false_iff.mpr c14
       subst c14
       rw [if_neg (show ¬ (false = true) by decide)] at H
       have H' := Aside0.mk H
       clear H; have hcz15_0 := blkc3 BK101.out
       go_wp2
       go_loopg [32] kj7 (fun kq vs32 w' => ∃ (x32_3 : Int), vs32 = .int .i64 x32_3 ∧ Aside0 (clock_Check.l0 kq l0_0 (l0_0.length : Int) x32_3 l0_0 a0_1 a0_2 = some r) ∧ Aside0 (kq ≤ kj7) ∧ Aside0 (w'.heap[gb101]? = some (.cells #[(.slice A0_0 l0_0.length c0_0), .int .i64 a0_1, .int .i64 a0_2] 42 (0, 0))) ∧ Aside0 (Below w.heap.size w w'))
       case atStart => exact ⟨(0), (xrf), H', ⟨Nat.le_refl _⟩, ⟨xK BK101⟩, ⟨xW HB⟩⟩
       case round =>
        clear H'; (try clear p2); (try clear p2)
        obtain ⟨x32_3, rfl, HA, HK3, BK101, HB⟩ := hrel
        cases gk with
        | zero => exact absurd HA.out (by simp [clock_Check.l0])
        | succ k3 =>
         have H := HA.out; clear HA
         simp only [clock_Check.l0] at H
         by_cases c16 : x32_3 < (l0_0.length : Int)
         ·rw [if_pos c16] at H
          have c16b0 : decide (x32_3 < (l0_0.length : Int)) = true := decide_eq_true c16
          clear c16
          by_cases c17 : 0 ≤ x32_3
          ·rw [if_pos c17] at H
           have c17b0 : decide (0 ≤ x32_3) = true := decide_eq_true c17
           clear c17
           by_cases c18 : x32_3 < (l0_0.length : Int)
           ·rw [if_pos c18] at H
            have c18b0 : decide (x32_3 < (l0_0.length : Int)) = true := decide_eq_true c18
            clear c18; have HC19 := Aside0.mk H; clear H
            have p102 : 0 ≤ (x32_3 : Int) := of_decide_eq_true (by first | (with_reducible assumption) | assumption)
            have q102 : x32_3 < (l0_0.length : Int) := of_decide_eq_true (by first | (with_reducible assumption) | assumption)
            obtain ⟨ad102, e102, hx102_0, hx102_1⟩ := at_T91 HR0_0.out x32_3 p102 q102
            cases e102
            replace hx102_0 := (HB.out.cell (World.block_lt_of_cell? w _ hx102_0)).trans hx102_0; replace hx102_1 := (HB.out.cell (World.block_lt_of_cell? w _ hx102_1)).trans hx102_1; replace p102 := eq_true p102; replace q102 := eq_true q102
            go_upto_region 8 with (first | ((with_reducible refine gate_dst (N := 4) rfl ?_); (try (refine gate_guard (by rfl) ?_; dsimp only)); refine box_event ?hg (N := 4) ?hd (cs := #[.int .i64 0, .int .i64 0]) (t := 91) ?hr ?_; (case hd => rfl); (case hg => rfl); (case hr => first | (go_simp; done) | (go_simp; rfl)); intro gb103 hg w20 hbox hb; have BK103 := Aside0.mk (hbox); have GW103 := Aside0.mk (xZ HB hg); have GE103 := Aside0.mk (xZ HB hg); have NB101_103 := Aside0.mk (xN BK101 hg); have NB103_101 := Aside0.mk (xM BK101 hg); replace BK101 := Aside0.mk (xB BK101 hb); replace HB := Aside0.mk (xS HB hb); clear hb hbox hg; have hnb21 := NB103_101.out; have hnc21 := NB101_103.out; have hcz22_0 := blkc2 BK103.out))
            (try have hq103_101 := NB103_101.out); (try have hq101_103 := NB101_103.out)
            (try simp only [Act.put, List.setIfInBounds_toArray, List.set_cons_zero, List.set_cons_succ])
            go_cut [54] (fun vs54 wc => ∃ (kq : Nat) (x54_18 : Bool), vs54 = .bool x54_18 ∧ Aside0 (clock_Check.j3 kq x32_3 l0_0 (l0_0.length : Int) x32_3 x54_18 l0_0 a0_1 a0_2 ((rd_T91 l0_0 x32_3).f0) ((rd_T91 l0_0 x32_3).f1) = some r) ∧ Aside0 (kq ≤ k3) ∧ Aside0 (wc.heap[gb101]? = some (.cells #[(.slice (some ad102) l0_0.length c0_0), .int .i64 a0_1, .int .i64 a0_2] 42 (0, 0))) ∧ Aside0 (wc.heap[gb103]? = some (.cells #[.int .i64 ((rd_T91 l0_0 x32_3).f0), .int .i64 ((rd_T91 l0_0 x32_3).f1)] 91 (0, 0))) ∧ Aside0 (Below w.heap.size w wc))
            case first =>
             have H := HC19.out; clear HC19
             by_cases c23 : ((rd_T91 l0_0 x32_3).f0) < 0
             ·rw [if_pos c23] at H
              have c23b0 : decide (((rd_T91 l0_0 x32_3).f0) < 0) = true := decide_eq_true c23
              clear c23
              (first | rw [c23b0] | (simp only [i64_w, i32_w]; rw [c23b0]) | skip)
              have H' := Aside0.mk H
              clear H; have hcz25_0 := blkc2 BK103.out
              go_wp2
              go_meet
              case rel => exact ⟨_, (true), (xrf), H', ⟨by have := HJ1.out; have := HJ7.out; have := HK3.out; first | omega | exact Nat.le_refl _⟩, ⟨xK BK101⟩, ⟨xQ BK103⟩, ⟨xW HB⟩⟩
             ·rw [if_neg c23] at H
              have c23b0 : decide (((rd_T91 l0_0 x32_3).f0) < 0) = false := decide_eq_false c23
              clear c23
              (first | rw [c23b0] | (simp only [i64_w, i32_w]; rw [c23b0]) | skip)
              by_cases c26 : ((rd_T91 l0_0 x32_3).f0) > 400
              ·rw [if_pos c26] at H
               have c26b0 : decide (400 < ((rd_T91 l0_0 x32_3).f0)) = true := decide_eq_true c26
               clear c26
               have H' := Aside0.mk H
               clear H; have hcz28_0 := blkc2 BK103.out
               go_wp2
               go_meet
               case rel => exact ⟨_, (true), (xrf), H', ⟨by have := HJ1.out; have := HJ7.out; have := HK3.out; first | omega | exact Nat.le_refl _⟩, ⟨xK BK101⟩, ⟨xQ BK103⟩, ⟨xW HB⟩⟩
              ·rw [if_neg c26] at H
               have c26b0 : decide (400 < ((rd_T91 l0_0 x32_3).f0)) = false := decide_eq_false c26
               clear c26
               by_cases c29 : ((rd_T91 l0_0 x32_3).f1) < 1
               ·rw [if_pos c29] at H
                have c29b0 : decide (((rd_T91 l0_0 x32_3).f1) < 1) = true := decide_eq_true c29
                clear c29
                have H' := Aside0.mk H
                clear H; have hcz31_0 := blkc2 BK103.out
                go_wp2
                go_meet
                case rel => exact ⟨_, (true), (xrf), H', ⟨by have := HJ1.out; have := HJ7.out; have := HK3.out; first | omega | exact Nat.le_refl _⟩, ⟨xK BK101⟩, ⟨xQ BK103⟩, ⟨xW HB⟩⟩
               ·rw [if_neg c29] at H
                have c29b0 : decide (((rd_T91 l0_0 x32_3).f1) < 1) = false := decide_eq_false c29
                clear c29
                have H' := Aside0.mk H
                clear H; have hcz33_0 := blkc2 BK103.out
                go_wp2
                go_meet
                case rel => exact ⟨_, (decide (((rd_T91 l0_0 x32_3).f1) > 100000000)), (xrf), H', ⟨by have := HJ1.out; have := HJ7.out; have := HK3.out; first | omega | exact Nat.le_refl _⟩, ⟨xK BK101⟩, ⟨xQ BK103⟩, ⟨xW HB⟩⟩
            case rest =>
             clear HC19; (try clear p1); (try clear q1); (try clear hx1); (try clear p2); (try clear p10); (try clear q10); (try clear hx10); (try clear hx102_0); (try clear hx102_1); (try clear p102); (try clear p2); (try clear q102)
             obtain ⟨kq, x54_18, rfl, HA, HJ18, BK101, BK103, HB⟩ := hcut
             cases kq with
             | zero => exact absurd HA.out (by simp [clock_Check.j3])
             | succ kj18 =>
              have H := HA.out; clear HA
              simp only [clock_Check.j3] at H
              by_cases c34 : x54_18 = true
              ·subst c34
               rw [if_pos rfl] at H
               obtain rfl := Option.some.inj H
               go_wp2
               go_ret
               exact ⟨xer, xW HB⟩
              ·replace c34 := Bool.eq_false_iff.mpr c34
               subst c34
               rw [if_neg (show ¬ (false = true) by decide)] at H
               by_cases c35 : ((((rd_T91 l0_0 x32_3).f0) == 0) != (x32_3 == (wrap64 ((l0_0.length : Int) - 1)))) = true
               ·rw [if_pos c35] at H
                have c35b0 : ((((rd_T91 l0_0 x32_3).f0) == 0) != (x32_3 == (wrap64 ((l0_0.length : Int) - 1)))) = true := c35
                (try (have c35b1 : decide ((((rd_T91 l0_0 x32_3).f0) == 0) = (x32_3 == (wrap64 ((l0_0.length : Int) - 1)))) = false := by simpa using c35))
                (try (have c35b2 : ((((rd_T91 l0_0 x32_3).f0) == 0) == (x32_3 == (wrap64 ((l0_0.length : Int) - 1)))) = false := by simpa using c35))
                (try (have c35b3 : ¬ ((((rd_T91 l0_0 x32_3).f0) == 0) = (x32_3 == (wrap64 ((l0_0.length : Int) - 1)))) := by simpa using c35))
                clear c35
                obtain rfl := Option.some.inj H
                have hcz37_0 := blkc2 BK103.out; have hcz38_0 := blkc3 BK101.out
                go_wp2
                go_ret
                exact ⟨xer, xW HB⟩
               ·rw [if_neg c35] at H
                have c35b0 : ((((rd_T91 l0_0 x32_3).f0) == 0) != (x32_3 == (wrap64 ((l0_0.length : Int) - 1)))) = false := by simpa using c35
                (try (have c35b1 : decide ((((rd_T91 l0_0 x32_3).f0) == 0) = (x32_3 == (wrap64 ((l0_0.length : Int) - 1)))) = true := by simpa using c35))
                (try (have c35b2 : ((((rd_T91 l0_0 x32_3).f0) == 0) == (x32_3 == (wrap64 ((l0_0.length : Int) - 1)))) = true := by simpa using c35))
                clear c35
                have H' := Aside0.mk H
                clear H; have hcz40_0 := blkc2 BK103.out; have hcz41_0 := blkc3 BK101.out
                go_wp2
                go_roundg kj18
                case measure => have := HJ1.out; have := HJ7.out; have := HK3.out; have := HJ18.out; omega
                case rel => exact ⟨(wrap64 (x32_3 + 1)), (xrf), H', ⟨by have := HJ1.out; have := HJ7.out; have := HK3.out; have := HJ18.out; omega⟩, ⟨xK BK101⟩, ⟨xW HB⟩⟩
           ·rw [if_neg c18] at H
            exact absurd H (by simp)
          ·rw [if_neg c17] at H
           exact absurd H (by simp)
         ·rw [if_neg c16] at H
          have c16b0 : decide (x32_3 < (l0_0.length : Int)) = false := decide_eq_false c16
          clear c16
          obtain rfl := Option.some.inj H
          go_wp2
          go_ret
          exact ⟨xer, xW HB⟩

/-! ### clock_Start: function 53 -/
def clock_Start.f (k : Nat) (l0_0 : List (S91)) (a0_1 : Int) (a0_2 : Int) (a1 : Int) : Option (Int × Int × Int × Int × Int × Int × Int × Int × Bool × Int × Int) := (clock_Check.f k l0_0 a0_1 a0_2).bind fun t106 => (if t106 = 0 then (if a1 < 0 then (some (0, 0, 0, 0, 0, 0, 0, 0, false, 0, 11)) else (if a1 > 100000000 then (some (0, 0, 0, 0, 0, 0, 0, 0, false, 0, 11)) else (if 0 < (l0_0.length : Int) then (some ((rd_T91 l0_0 0).f1, (rd_T91 l0_0 0).f1, 0, 0, 0, 0, 0, a1, false, (-1), 0)) else (none)))) else (some (0, 0, 0, 0, 0, 0, 0, 0, false, 0, t106)))
theorem clock_Start.mono : ∀ a0 a1 a2 a3 k, LeO (clock_Start.f k a0 a1 a2 a3) (clock_Start.f (k + 1) a0 a1 a2 a3) := by
  intro a0 a1 a2 a3 k
  unfold clock_Start.f
  repeat' first
      | (with_reducible apply clock_Check.mono)
      | (with_reducible exact LeO.refl _)
      | (with_reducible exact LeO.none _)
      | (with_reducible refine LeO.ite ?_ ?_)
      | (with_reducible refine LeO.bind ?_ (fun _ => ?_))
      | apply clock_Check.mono
      | exact LeO.none _
      | refine LeO.ite ?_ ?_
      | refine LeO.bind ?_ (fun _ => ?_)
set_option maxHeartbeats 8000000 in
set_option maxRecDepth 100000 in
theorem clock_Start.calls (k : Nat) (A0_0 : Option Addr) (c0_0 : Nat) (l0_0 : List (S91)) (a0_1 : Int) (a0_2 : Int) (a1 : Int) (r1 : Int) (r2 : Int) (r3 : Int) (r4 : Int) (r5 : Int) (r6 : Int) (r7 : Int) (r8 : Int) (r9 : Bool) (r10 : Int) (r11 : Int) (w : World) (hr0_0 : Kd.C k91 w A0_0 l0_0.length l0_0) (hc0_0 : l0_0.length ≤ c0_0) (h : clock_Start.f k l0_0 a0_1 a0_2 a1 = some (r1, r2, r3, r4, r5, r6, r7, r8, r9, r10, r11)) :
    Calls Try.prog 53 #[.agg #[.slice A0_0 l0_0.length c0_0, .int .i64 a0_1, .int .i64 a0_2], .int .i64 a1] w fun e w' => e = .returned (.tuple #[.agg #[.int .i64 r1, .int .i64 r2, .int .i64 r3, .int .i64 r4, .int .i64 r5, .int .i64 r6, .int .i64 r7, .int .i64 r8, .bool r9, .int .i64 r10], .int .i64 r11]) ∧ Below w.heap.size w w' := by
 have hu42 := Try.underlying42; have hu45 := Try.underlying45; have hu43 := Try.underlying43; have HR0_0 := Aside0.mk hr0_0; have HC0_0 := Aside0.mk hc0_0; clear hr0_0 hc0_0; have HB := Aside0.mk (Below.refl w.heap.size w); have hss_ := @isSome_setCell
 have H : ((clock_Check.f k l0_0 a0_1 a0_2).bind fun t106 => (if t106 = 0 then (if a1 < 0 then (some (0, 0, 0, 0, 0, 0, 0, 0, false, 0, 11)) else (if a1 > 100000000 then (some (0, 0, 0, 0, 0, 0, 0, 0, false, 0, 11)) else (if 0 < (l0_0.length : Int) then (some ((rd_T91 l0_0 0).f1, (rd_T91 l0_0 0).f1, 0, 0, 0, 0, 0, a1, false, (-1), 0)) else (none)))) else (some (0, 0, 0, 0, 0, 0, 0, 0, false, 0, t106)))) = some (r1, r2, r3, r4, r5, r6, r7, r8, r9, r10, r11) := h
 clear h; replace H := Option.bind_eq_some_iff.mp H
 obtain ⟨t106, A30, H⟩ := H
 try dsimp only at H
 have A3 := Aside0.mk A30; clear A30
 by_cases c4 : t106 = 0
 ·rw [if_pos c4] at H
  have c4b0 : (t106 == 0) = true := beq_iff_eq.mpr c4
  have c4b1 : (t106 != 0) = false := bne_eq_false_iff_eq.mpr c4
  clear c4
  by_cases c5 : a1 < 0
  ·rw [if_pos c5] at H
   have c5b0 : decide (a1 < 0) = true := decide_eq_true c5
   clear c5
   simp only [Option.some.injEq, Prod.mk.injEq] at H
   obtain ⟨rfl, rfl, rfl, rfl, rfl, rfl, rfl, rfl, rfl, rfl, rfl⟩ := H
   go_enter Try.func53, Try.ntmps53
   go_wp2_with (first | ((with_reducible refine gate_dst (N := 2) rfl ?_); refine box_event ?hg (N := 2) ?hd (cs := #[.slice A0_0 l0_0.length c0_0, .int .i64 a0_1, .int .i64 a0_2]) (t := 42) ?hr ?_; (case hd => rfl); (case hg => rfl); (case hr => first | (go_simp; done) | (go_simp; rfl)); intro gb104 hg w6 hbox hb; have BK104 := Aside0.mk (hbox); have GW104 := Aside0.mk (xZ HB hg); have GE104 := Aside0.mk (xZ HB hg); replace HB := Aside0.mk (xS HB hb); clear hb hbox hg) | ((with_reducible refine gate_dst (N := 4) rfl ?_); refine box_event ?hg (N := 4) ?hd (cs := #[.int .i64 0, .int .i64 0, .int .i64 0, .int .i64 0, .int .i64 0, .int .i64 0, .int .i64 0, .int .i64 0, .bool false, .int .i64 0]) (t := 45) ?hr ?_; (case hd => rfl); (case hg => rfl); (case hr => first | (go_simp; done) | (go_simp; rfl)); intro gb105 hg w7 hbox hb; have BK105 := Aside0.mk (hbox); have GW105 := Aside0.mk (xZ HB hg); have GE105 := Aside0.mk (xZ HB hg); have NB104_105 := Aside0.mk (xN BK104 hg); have NB105_104 := Aside0.mk (xM BK104 hg); replace BK104 := Aside0.mk (xB BK104 hb); replace HB := Aside0.mk (xS HB hb); clear hb hbox hg; have hnb8 := NB104_105.out; have hnc8 := NB105_104.out; have hcz9_0 := blkc3 BK104.out) | ((with_reducible refine gate_callee (f := 56) rfl ?_); refine goesL_ (some 9) rfl rfl Try.func56 (by kernel_rfl) rfl #[.agg #[.slice A0_0 l0_0.length c0_0, .int .i64 a0_1, .int .i64 a0_2]] rfl (by (try simp only [List.map_toArray, List.map_cons, List.map_nil]); first | done | rfl | (simp only [List.length_drop, List.length_take]; rfl)) ?_; (with_reducible refine (clock_Check.calls k _ _ l0_0 a0_1 a0_2 t106 _ ?side1 ?side2 A3.out).mono ?_); (case side1 => exact xC (Kd.C_below HR0_0.out HB.out)); (case side2 => exact HC0_0.out); rintro e w10 ⟨rfl, hb⟩; refine ⟨_, rfl, ?_⟩; replace BK104 := Aside0.mk (xB BK104 hb); replace BK105 := Aside0.mk (xB BK105 hb); replace HB := Aside0.mk (xS HB hb); (try clear hb); (try clear hb2); (try clear hk); (try clear hi); have hcz11_0 := blkc10 BK105.out))
   refine bodyPost_ret (results_ct rfl _ _ gb105 45 #[.int .i64 0, .int .i64 0, .int .i64 0, .int .i64 0, .int .i64 0, .int .i64 0, .int .i64 0, .int .i64 0, .bool false, .int .i64 0] (0, 0) _ rfl (xQ BK105) Try.underlying45 rfl (by kernel_rfl)) rfl ?_
   exact ⟨xer, xW HB⟩
  ·rw [if_neg c5] at H
   have c5b0 : decide (a1 < 0) = false := decide_eq_false c5
   clear c5
   by_cases c12 : a1 > 100000000
   ·rw [if_pos c12] at H
    have c12b0 : decide (100000000 < a1) = true := decide_eq_true c12
    clear c12
    simp only [Option.some.injEq, Prod.mk.injEq] at H
    obtain ⟨rfl, rfl, rfl, rfl, rfl, rfl, rfl, rfl, rfl, rfl, rfl⟩ := H
    go_enter Try.func53, Try.ntmps53
    go_wp2_with (first | ((with_reducible refine gate_dst (N := 2) rfl ?_); refine box_event ?hg (N := 2) ?hd (cs := #[.slice A0_0 l0_0.length c0_0, .int .i64 a0_1, .int .i64 a0_2]) (t := 42) ?hr ?_; (case hd => rfl); (case hg => rfl); (case hr => first | (go_simp; done) | (go_simp; rfl)); intro gb104 hg w13 hbox hb; have BK104 := Aside0.mk (hbox); have GW104 := Aside0.mk (xZ HB hg); have GE104 := Aside0.mk (xZ HB hg); replace HB := Aside0.mk (xS HB hb); clear hb hbox hg) | ((with_reducible refine gate_dst (N := 4) rfl ?_); refine box_event ?hg (N := 4) ?hd (cs := #[.int .i64 0, .int .i64 0, .int .i64 0, .int .i64 0, .int .i64 0, .int .i64 0, .int .i64 0, .int .i64 0, .bool false, .int .i64 0]) (t := 45) ?hr ?_; (case hd => rfl); (case hg => rfl); (case hr => first | (go_simp; done) | (go_simp; rfl)); intro gb105 hg w14 hbox hb; have BK105 := Aside0.mk (hbox); have GW105 := Aside0.mk (xZ HB hg); have GE105 := Aside0.mk (xZ HB hg); have NB104_105 := Aside0.mk (xN BK104 hg); have NB105_104 := Aside0.mk (xM BK104 hg); replace BK104 := Aside0.mk (xB BK104 hb); replace HB := Aside0.mk (xS HB hb); clear hb hbox hg; have hnb15 := NB104_105.out; have hnc15 := NB105_104.out; have hcz16_0 := blkc3 BK104.out) | ((with_reducible refine gate_callee (f := 56) rfl ?_); refine goesL_ (some 9) rfl rfl Try.func56 (by kernel_rfl) rfl #[.agg #[.slice A0_0 l0_0.length c0_0, .int .i64 a0_1, .int .i64 a0_2]] rfl (by (try simp only [List.map_toArray, List.map_cons, List.map_nil]); first | done | rfl | (simp only [List.length_drop, List.length_take]; rfl)) ?_; (with_reducible refine (clock_Check.calls k _ _ l0_0 a0_1 a0_2 t106 _ ?side1 ?side2 A3.out).mono ?_); (case side1 => exact xC (Kd.C_below HR0_0.out HB.out)); (case side2 => exact HC0_0.out); rintro e w17 ⟨rfl, hb⟩; refine ⟨_, rfl, ?_⟩; replace BK104 := Aside0.mk (xB BK104 hb); replace BK105 := Aside0.mk (xB BK105 hb); replace HB := Aside0.mk (xS HB hb); (try clear hb); (try clear hb2); (try clear hk); (try clear hi); have hcz18_0 := blkc10 BK105.out))
    refine bodyPost_ret (results_ct rfl _ _ gb105 45 #[.int .i64 0, .int .i64 0, .int .i64 0, .int .i64 0, .int .i64 0, .int .i64 0, .int .i64 0, .int .i64 0, .bool false, .int .i64 0] (0, 0) _ rfl (xQ BK105) Try.underlying45 rfl (by kernel_rfl)) rfl ?_
    exact ⟨xer, xW HB⟩
   ·rw [if_neg c12] at H
    have c12b0 : decide (100000000 < a1) = false := decide_eq_false c12
    clear c12
    by_cases c19 : 0 < (l0_0.length : Int)
    ·rw [if_pos c19] at H
     have c19b0 : decide (0 < (l0_0.length : Int)) = true := decide_eq_true c19
     have c19b1 : decide (0 < l0_0.length) = true := decide_eq_true (by omega)
     clear c19
     simp only [Option.some.injEq, Prod.mk.injEq] at H
     obtain ⟨rfl, rfl, rfl, rfl, rfl, rfl, rfl, rfl, rfl, rfl, rfl⟩ := H
     go_enter Try.func53, Try.ntmps53
     go_wp2_with (first | ((with_reducible refine gate_dst (N := 2) rfl ?_); refine box_event ?hg (N := 2) ?hd (cs := #[.slice A0_0 l0_0.length c0_0, .int .i64 a0_1, .int .i64 a0_2]) (t := 42) ?hr ?_; (case hd => rfl); (case hg => rfl); (case hr => first | (go_simp; done) | (go_simp; rfl)); intro gb104 hg w20 hbox hb; have BK104 := Aside0.mk (hbox); have GW104 := Aside0.mk (xZ HB hg); have GE104 := Aside0.mk (xZ HB hg); replace HB := Aside0.mk (xS HB hb); clear hb hbox hg) | ((with_reducible refine gate_dst (N := 4) rfl ?_); refine box_event ?hg (N := 4) ?hd (cs := #[.int .i64 0, .int .i64 0, .int .i64 0, .int .i64 0, .int .i64 0, .int .i64 0, .int .i64 0, .int .i64 0, .bool false, .int .i64 0]) (t := 45) ?hr ?_; (case hd => rfl); (case hg => rfl); (case hr => first | (go_simp; done) | (go_simp; rfl)); intro gb105 hg w21 hbox hb; have BK105 := Aside0.mk (hbox); have GW105 := Aside0.mk (xZ HB hg); have GE105 := Aside0.mk (xZ HB hg); have NB104_105 := Aside0.mk (xN BK104 hg); have NB105_104 := Aside0.mk (xM BK104 hg); replace BK104 := Aside0.mk (xB BK104 hb); replace HB := Aside0.mk (xS HB hb); clear hb hbox hg; have hnb22 := NB104_105.out; have hnc22 := NB105_104.out; have hcz23_0 := blkc3 BK104.out) | ((with_reducible refine gate_callee (f := 56) rfl ?_); refine goesL_ (some 9) rfl rfl Try.func56 (by kernel_rfl) rfl #[.agg #[.slice A0_0 l0_0.length c0_0, .int .i64 a0_1, .int .i64 a0_2]] rfl (by (try simp only [List.map_toArray, List.map_cons, List.map_nil]); first | done | rfl | (simp only [List.length_drop, List.length_take]; rfl)) ?_; (with_reducible refine (clock_Check.calls k _ _ l0_0 a0_1 a0_2 t106 _ ?side1 ?side2 A3.out).mono ?_); (case side1 => exact xC (Kd.C_below HR0_0.out HB.out)); (case side2 => exact HC0_0.out); rintro e w24 ⟨rfl, hb⟩; refine ⟨_, rfl, ?_⟩; replace BK104 := Aside0.mk (xB BK104 hb); replace BK105 := Aside0.mk (xB BK105 hb); replace HB := Aside0.mk (xS HB hb); (try clear hb); (try clear hb2); (try clear hk); (try clear hi); have hcz25_0 := blkc3 BK104.out; have p107 : 0 ≤ (0 : Int) := (by omega); have q107 : 0 < (l0_0.length : Int) := of_decide_eq_true (by first | (with_reducible assumption) | assumption); obtain ⟨ad107, e107, hx107_0, hx107_1⟩ := at_T91 HR0_0.out 0 p107 q107; cases e107; have qi107 : (0 < l0_0.length) = True := eq_true (by omega); (try rw [show ((0 : Int)).toNat = 0 from rfl] at hx107_0); (try rw [show 0 * 2 = 0 from rfl] at hx107_0); (try rw [Addr.add_zero'] at hx107_0); (try rw [show ((0 : Int)).toNat = 0 from rfl] at hx107_1); (try rw [show 0 * 2 = 0 from rfl] at hx107_1); (try rw [Addr.add_zero'] at hx107_1); replace hx107_0 := (HB.out.cell (World.block_lt_of_cell? w _ hx107_0)).trans hx107_0; replace hx107_1 := (HB.out.cell (World.block_lt_of_cell? w _ hx107_1)).trans hx107_1; replace p107 := eq_true p107; replace q107 := eq_true q107; have hcz26_0 := blkc10 BK105.out))
     refine bodyPost_ret (results_ct rfl _ _ gb105 45 #[.int .i64 ((rd_T91 l0_0 0).f1), .int .i64 ((rd_T91 l0_0 0).f1), .int .i64 0, .int .i64 0, .int .i64 0, .int .i64 0, .int .i64 0, .int .i64 a1, .bool false, .int .i64 (-1)] (0, 0) _ rfl (xQ BK105) Try.underlying45 rfl (by kernel_rfl)) rfl ?_
     exact ⟨xer, xW HB⟩
    ·rw [if_neg c19] at H
     exact absurd H (by simp)
 ·rw [if_neg c4] at H
  have c4b0 : (t106 == 0) = false := beq_eq_false_iff_ne.mpr c4
  have c4b1 : (t106 != 0) = true := bne_iff_ne.mpr c4
  simp only [Option.some.injEq, Prod.mk.injEq] at H
  obtain ⟨rfl, rfl, rfl, rfl, rfl, rfl, rfl, rfl, rfl, rfl, rfl⟩ := H
  go_enter Try.func53, Try.ntmps53
  go_wp2_with (first | ((with_reducible refine gate_dst (N := 2) rfl ?_); refine box_event ?hg (N := 2) ?hd (cs := #[.slice A0_0 l0_0.length c0_0, .int .i64 a0_1, .int .i64 a0_2]) (t := 42) ?hr ?_; (case hd => rfl); (case hg => rfl); (case hr => first | (go_simp; done) | (go_simp; rfl)); intro gb104 hg w27 hbox hb; have BK104 := Aside0.mk (hbox); have GW104 := Aside0.mk (xZ HB hg); have GE104 := Aside0.mk (xZ HB hg); replace HB := Aside0.mk (xS HB hb); clear hb hbox hg) | ((with_reducible refine gate_dst (N := 4) rfl ?_); refine box_event ?hg (N := 4) ?hd (cs := #[.int .i64 0, .int .i64 0, .int .i64 0, .int .i64 0, .int .i64 0, .int .i64 0, .int .i64 0, .int .i64 0, .bool false, .int .i64 0]) (t := 45) ?hr ?_; (case hd => rfl); (case hg => rfl); (case hr => first | (go_simp; done) | (go_simp; rfl)); intro gb105 hg w28 hbox hb; have BK105 := Aside0.mk (hbox); have GW105 := Aside0.mk (xZ HB hg); have GE105 := Aside0.mk (xZ HB hg); have NB104_105 := Aside0.mk (xN BK104 hg); have NB105_104 := Aside0.mk (xM BK104 hg); replace BK104 := Aside0.mk (xB BK104 hb); replace HB := Aside0.mk (xS HB hb); clear hb hbox hg; have hnb29 := NB104_105.out; have hnc29 := NB105_104.out; have hcz30_0 := blkc3 BK104.out) | ((with_reducible refine gate_callee (f := 56) rfl ?_); refine goesL_ (some 9) rfl rfl Try.func56 (by kernel_rfl) rfl #[.agg #[.slice A0_0 l0_0.length c0_0, .int .i64 a0_1, .int .i64 a0_2]] rfl (by (try simp only [List.map_toArray, List.map_cons, List.map_nil]); first | done | rfl | (simp only [List.length_drop, List.length_take]; rfl)) ?_; (with_reducible refine (clock_Check.calls k _ _ l0_0 a0_1 a0_2 t106 _ ?side1 ?side2 A3.out).mono ?_); (case side1 => exact xC (Kd.C_below HR0_0.out HB.out)); (case side2 => exact HC0_0.out); rintro e w31 ⟨rfl, hb⟩; refine ⟨_, rfl, ?_⟩; replace BK104 := Aside0.mk (xB BK104 hb); replace BK105 := Aside0.mk (xB BK105 hb); replace HB := Aside0.mk (xS HB hb); (try clear hb); (try clear hb2); (try clear hk); (try clear hi); have hcz32_0 := blkc10 BK105.out))
  refine bodyPost_ret (results_ct rfl _ _ gb105 45 #[.int .i64 0, .int .i64 0, .int .i64 0, .int .i64 0, .int .i64 0, .int .i64 0, .int .i64 0, .int .i64 0, .bool false, .int .i64 0] (0, 0) _ rfl (xQ BK105) Try.underlying45 rfl (by kernel_rfl)) rfl ?_
  exact ⟨xer, xW HB⟩

/-! ### gamehalllaw3_minute: function 54 -/
def gamehalllaw3_minute.f  : Option ((List (S91)) × Int × Int) := some ((([(⟨0, 60000⟩ : S91)] : List (S91))), 1000, 0)
set_option maxHeartbeats 8000000 in
set_option maxRecDepth 100000 in
theorem gamehalllaw3_minute.calls  (r1 : List (S91)) (r2 : Int) (r3 : Int) (w : World) (h : gamehalllaw3_minute.f  = some (r1, r2, r3)) :
    Calls Try.prog 54 #[] w fun e w' => ∃ v0_ : Value, e = .returned (.agg #[v0_, .int .i64 r2, .int .i64 r3]) ∧ Kd.R k91 91 w' w.heap.size (fun _ => True) v0_ r1 ∧ Below w.heap.size w w' := by
 have hu42 := Try.underlying42; have hu91 := Try.underlying91; have HB := Aside0.mk (Below.refl w.heap.size w); have hss_ := @isSome_setCell
 have H : (some ((([(⟨0, 60000⟩ : S91)] : List (S91))), 1000, 0)) = some (r1, r2, r3) := h
 clear h
 obtain ⟨y109, hy109⟩ : ∃ y_ : List (S91), y_ = (([(⟨0, 60000⟩ : S91)] : List (S91))) := ⟨_, rfl⟩
 replace H : (some (y109, 1000, 0)) = some (r1, r2, r3) := by first | (rw [hy109]; with_reducible exact H) | (have H2_ := (Option.bind_some _ _).symm.trans H; rw [hy109]; with_reducible exact H2_) | (have H2_ := (Option.bind_some _ _).symm.trans H; with_reducible exact H2_) | with_reducible exact H | (rw [hy109]; exact H) | exact H
 have Ny109 := Aside0.mk hy109; clear hy109
 simp only [Option.some.injEq, Prod.mk.injEq] at H
 obtain ⟨rfl, rfl, rfl⟩ := H
 go_enter Try.func54, Try.ntmps54
 go_wp2_with (first | ((with_reducible refine gate_dst (N := 0) rfl ?_); refine box_event ?hg (N := 0) ?hd (cs := #[.slice none 0 0, .int .i64 0, .int .i64 0]) (t := 42) ?hr ?_; (case hd => rfl); (case hg => rfl); (case hr => first | (go_simp; done) | (go_simp; rfl)); intro gb108 hg w1 hbox hb; have BK108 := Aside0.mk (hbox); have GW108 := Aside0.mk (xZ HB hg); have GE108 := Aside0.mk (xZ HB hg); replace HB := Aside0.mk (xS HB hb); clear hb hbox hg) | ((with_reducible refine gate_dst (N := 2) rfl ?_); refine Kd.R_lit k91 _ 91 ?hg (N := 2) ?hd (xs := ([(⟨0, 60000⟩ : S91)] : List (S91))) (inner := [.int .i64 0, .int .i64 60000]) (ok := fun _ => True) (okp := fun _ => True) ?hr ?hp (fun _ hk => hk) trivial (Below.refl _ _) (Nat.le_refl _) (by simp) ?_; (case hd => rfl); (case hg => rfl); (case hr => first | (go_simp; done) | (go_simp; rfl)); (case hp => exact (Reps.c2 (show Kd.M k91 _ _ _ (⟨0, 60000⟩ : S91) [.int .i64 0, .int .i64 60000] from (k91_mkM _ _ _ (⟨0, 60000⟩ : S91) )) (Reps.none _ _))); intro v110 w2 ho3 hb hg_ hnew_; clear hg_ hnew_; (first | rw [← Ny109.out] at ho3 | (simp only [Int.reduceToNat] at ho3; rw [← Ny109.out] at ho3)); have HO111 := Aside0.mk (Kd.R_lower ho3 (below_size (xW HB))); replace BK108 := Aside0.mk (xB BK108 hb); replace HB := Aside0.mk (xS HB hb); clear hb ho3; obtain ⟨Ao4, co4, eo4⟩ := Kd.R_slice HO111.out; subst eo4; have hcz5_0 := blkc3 BK108.out))
 refine bodyPost_ret (results_cell_row rfl _ _ gb108 42 #[.slice Ao4 y109.length co4, .int .i64 1000, .int .i64 0] (0, 0) _ rfl (xQ BK108) Try.underlying42 rfl (by kernel_rfl)) rfl ?_
 exact ⟨_, xer, by (with_reducible repeat (first | apply Kd.R_alloc | apply Kd.R_drewN | apply Kd.R_drew)); exact Kd.R_mono (Kd.R_far (p := ⟨gb108, 2, none⟩) (Kd.R_far (p := ⟨gb108, 1, none⟩) (Kd.R_far (p := ⟨gb108, 0, none⟩) (Kd.R_types HO111.out BK108.out (by decide)) (fun _ hk => hk.2) (.slice Ao4 y109.length co4)) (fun _ hk => hk.2) (.int .i64 1000)) (fun _ hk => hk.2) (.int .i64 0)) (fun _ hk => trivial), xW HB⟩

/-! ### gamehalllaw3_ticks: function 21 -/
def gamehalllaw3_ticks.f (k : Nat)  : Option (Bool) := (gamehalllaw3_minute.f).bind fun bt112 => ((clock_Start.f k bt112.1 bt112.2.1 bt112.2.2 5).bind fun bt117 => (if bt117.2.2.2.2.2.2.2.2.2.2 = 0 then (some (bt117.1 == 60000 && (bt117.2.1 == 60000))) else (some false)))
theorem gamehalllaw3_ticks.mono : ∀ k, LeO (gamehalllaw3_ticks.f k ) (gamehalllaw3_ticks.f (k + 1) ) := by
  intro  k
  unfold gamehalllaw3_ticks.f
  repeat' first
      | (with_reducible apply clock_Start.mono)
      | (with_reducible exact LeO.refl _)
      | (with_reducible exact LeO.none _)
      | (with_reducible refine LeO.ite ?_ ?_)
      | (with_reducible refine LeO.bind ?_ (fun _ => ?_))
      | apply clock_Start.mono
      | exact LeO.none _
      | refine LeO.ite ?_ ?_
      | refine LeO.bind ?_ (fun _ => ?_)
set_option maxHeartbeats 8000000 in
set_option maxRecDepth 100000 in
theorem gamehalllaw3_ticks.calls (k : Nat)  (r : Bool) (w : World) (h : gamehalllaw3_ticks.f k  = some r) :
    Calls Try.prog 21 #[] w fun e w' => e = .returned (.bool r) ∧ Below w.heap.size w w' := by
 have hu45 := Try.underlying45; have hu43 := Try.underlying43; have HB := Aside0.mk (Below.refl w.heap.size w); have hss_ := @isSome_setCell
 have H : ((gamehalllaw3_minute.f).bind fun bt112 => ((clock_Start.f k bt112.1 bt112.2.1 bt112.2.2 5).bind fun bt117 => (if bt117.2.2.2.2.2.2.2.2.2.2 = 0 then (some (bt117.1 == 60000 && (bt117.2.1 == 60000))) else (some false)))) = some r := h
 clear h; replace H := Option.bind_eq_some_iff.mp H
 obtain ⟨⟨t112, t115, t116⟩, A10, H⟩ := H
 try dsimp only at H
 have A1 := Aside0.mk A10; clear A10; replace H := Option.bind_eq_some_iff.mp H
 obtain ⟨⟨t117, t118, t119, t120, t121, t122, t123, t124, t125, t126, t127⟩, A20, H⟩ := H
 replace H : (if t127 = 0 then (some (t117 == 60000 && (t118 == 60000))) else (some false)) = some r := H
 have A2 := Aside0.mk A20; clear A20
 by_cases c3 : t127 = 0
 ·rw [if_pos c3] at H
  have c3b0 : (t127 == 0) = true := beq_iff_eq.mpr c3
  have c3b1 : (t127 != 0) = false := bne_eq_false_iff_eq.mpr c3
  clear c3
  obtain rfl := Option.some.inj H
  go_enter Try.func21, Try.ntmps21
  go_wp2_with (first | ((with_reducible refine gate_callee (f := 54) rfl ?_); refine goesL_ (some 4) rfl rfl Try.func54 (by kernel_rfl) rfl #[] rfl (by (try simp only [List.map_toArray, List.map_cons, List.map_nil]); first | done | rfl | (simp only [List.length_drop, List.length_take]; rfl)) ?_; (with_reducible refine (gamehalllaw3_minute.calls  t112 t115 t116 _ A1.out).mono ?_); rintro e w4 ⟨v113, rfl, ho0, hb⟩; refine ⟨_, rfl, ?_⟩; have HO114 := Aside0.mk (Kd.R_lower ho0 (below_size (xW HB))); replace HB := Aside0.mk (xS HB hb); (try clear hb); (try clear hb2); (try clear hk); (try clear hi); (try clear ho0); obtain ⟨Ao5, co5, eo5⟩ := Kd.R_slice HO114.out; subst eo5) | ((with_reducible refine gate_callee (f := 53) rfl ?_); refine goesL_ (some 5) rfl rfl Try.func53 (by kernel_rfl) rfl #[.agg #[.slice Ao5 t112.length co5, .int .i64 t115, .int .i64 t116], .int .i64 5] rfl (by (try simp only [List.map_toArray, List.map_cons, List.map_nil]); first | done | rfl | (simp only [List.length_drop, List.length_take]; rfl)) ?_; (with_reducible refine (clock_Start.calls k _ _ t112 t115 t116 5 t117 t118 t119 t120 t121 t122 t123 t124 t125 t126 t127 _ ?side1 ?side2 A2.out).mono ?_); (case side1 => repeat (first | exact (Kd.R_reads' HO114.out).2.2 | (with_reducible refine Kd.C_alloc ?_ _) | (with_reducible refine Kd.C_drewN ?_ _) | (with_reducible refine Kd.C_drew ?_))); (case side2 => exact (Kd.R_reads' HO114.out).2.1); rintro e w6 ⟨rfl, hb⟩; refine ⟨_, rfl, ?_⟩; replace HO114 := Aside0.mk (Kd.R_below (by (with_reducible repeat (first | apply Kd.R_alloc | apply Kd.R_drewN | apply Kd.R_drew)); exact HO114.out) hb); replace HB := Aside0.mk (xS HB hb); (try clear hb); (try clear hb2); (try clear hk); (try clear hi)) | ((with_reducible refine gate_dst (N := 1) rfl ?_); refine box_event ?hg (N := 1) ?hd (cs := #[.int .i64 0, .int .i64 0, .int .i64 0, .int .i64 0, .int .i64 0, .int .i64 0, .int .i64 0, .int .i64 0, .bool false, .int .i64 0]) (t := 45) ?hr ?_; (case hd => rfl); (case hg => rfl); (case hr => first | (go_simp; done) | (go_simp; rfl)); intro gb128 hg w7 hbox hb; have BK128 := Aside0.mk (hbox); have GW128 := Aside0.mk (xZ HB hg); have GE128 := Aside0.mk (xZ HB hg); replace HO114 := Aside0.mk (Kd.R_below (by (with_reducible repeat (first | apply Kd.R_alloc | apply Kd.R_drewN | apply Kd.R_drew)); exact HO114.out) hb); replace HB := Aside0.mk (xS HB hb); clear hb hbox hg; have hcz8_0 := blkc10 BK128.out))
  go_ret
  exact ⟨xer, xW HB⟩
 ·rw [if_neg c3] at H
  have c3b0 : (t127 == 0) = false := beq_eq_false_iff_ne.mpr c3
  have c3b1 : (t127 != 0) = true := bne_iff_ne.mpr c3
  obtain rfl := Option.some.inj H
  go_enter Try.func21, Try.ntmps21
  go_wp2_with (first | ((with_reducible refine gate_callee (f := 54) rfl ?_); refine goesL_ (some 4) rfl rfl Try.func54 (by kernel_rfl) rfl #[] rfl (by (try simp only [List.map_toArray, List.map_cons, List.map_nil]); first | done | rfl | (simp only [List.length_drop, List.length_take]; rfl)) ?_; (with_reducible refine (gamehalllaw3_minute.calls  t112 t115 t116 _ A1.out).mono ?_); rintro e w9 ⟨v113, rfl, ho0, hb⟩; refine ⟨_, rfl, ?_⟩; have HO114 := Aside0.mk (Kd.R_lower ho0 (below_size (xW HB))); replace HB := Aside0.mk (xS HB hb); (try clear hb); (try clear hb2); (try clear hk); (try clear hi); (try clear ho0); obtain ⟨Ao10, co10, eo10⟩ := Kd.R_slice HO114.out; subst eo10) | ((with_reducible refine gate_callee (f := 53) rfl ?_); refine goesL_ (some 5) rfl rfl Try.func53 (by kernel_rfl) rfl #[.agg #[.slice Ao10 t112.length co10, .int .i64 t115, .int .i64 t116], .int .i64 5] rfl (by (try simp only [List.map_toArray, List.map_cons, List.map_nil]); first | done | rfl | (simp only [List.length_drop, List.length_take]; rfl)) ?_; (with_reducible refine (clock_Start.calls k _ _ t112 t115 t116 5 t117 t118 t119 t120 t121 t122 t123 t124 t125 t126 t127 _ ?side1 ?side2 A2.out).mono ?_); (case side1 => repeat (first | exact (Kd.R_reads' HO114.out).2.2 | (with_reducible refine Kd.C_alloc ?_ _) | (with_reducible refine Kd.C_drewN ?_ _) | (with_reducible refine Kd.C_drew ?_))); (case side2 => exact (Kd.R_reads' HO114.out).2.1); rintro e w11 ⟨rfl, hb⟩; refine ⟨_, rfl, ?_⟩; replace HO114 := Aside0.mk (Kd.R_below (by (with_reducible repeat (first | apply Kd.R_alloc | apply Kd.R_drewN | apply Kd.R_drew)); exact HO114.out) hb); replace HB := Aside0.mk (xS HB hb); (try clear hb); (try clear hb2); (try clear hk); (try clear hi)) | ((with_reducible refine gate_dst (N := 1) rfl ?_); refine box_event ?hg (N := 1) ?hd (cs := #[.int .i64 0, .int .i64 0, .int .i64 0, .int .i64 0, .int .i64 0, .int .i64 0, .int .i64 0, .int .i64 0, .bool false, .int .i64 0]) (t := 45) ?hr ?_; (case hd => rfl); (case hg => rfl); (case hr => first | (go_simp; done) | (go_simp; rfl)); intro gb128 hg w12 hbox hb; have BK128 := Aside0.mk (hbox); have GW128 := Aside0.mk (xZ HB hg); have GE128 := Aside0.mk (xZ HB hg); replace HO114 := Aside0.mk (Kd.R_below (by (with_reducible repeat (first | apply Kd.R_alloc | apply Kd.R_drewN | apply Kd.R_drew)); exact HO114.out) hb); replace HB := Aside0.mk (xS HB hb); clear hb hbox hg; have hcz13_0 := blkc10 BK128.out))
  go_ret
  exact ⟨xer, xW HB⟩

/-! ### clock_Valid: function 25 -/
mutual
def clock_Valid.j0 : Nat → Bool → List (S91) → Int → Int → Int → Int → Int → Int → Int → Int → Int → Int → Bool → Int → Option (Int)
  | 0, _, _, _, _, _, _, _, _, _, _, _, _, _, _ => none
  | k + 1, x39, z130a, z130b, z130c, z131a, z131b, z131c, z131d, z131e, z131f, z131g, z131h, z131i, z131j => if x39 = true then (some 4) else (clock_Valid.l0 k 0 z130a z130b z130c z131a z131b z131c z131d z131e z131f z131g z131h z131i z131j)
def clock_Valid.l0 : Nat → Int → List (S91) → Int → Int → Int → Int → Int → Int → Int → Int → Int → Int → Bool → Int → Option (Int)
  | 0, _, _, _, _, _, _, _, _, _, _, _, _, _, _ => none
  | k + 1, x40, z130a, z130b, z130c, z131a, z131b, z131c, z131d, z131e, z131f, z131g, z131h, z131i, z131j => if x40 < 2 then (if 0 ≤ x40 then (if x40 = 0 then (if z131e < 0 then (some 4) else (if z131e ≥ (z130a.length : Int) then (some 4) else (if z131c < 0 then (some 4) else (if z131c > 400 then (some 4) else (if z131a < 0 then (some 4) else (if z131a > 100000000000 then (some 4) else (clock_Valid.l0 k (wrap64 (x40 + 1)) z130a z130b z130c z131a z131b z131c z131d z131e z131f z131g z131h z131i z131j))))))) else (if z131f < 0 then (some 4) else (if z131f ≥ (z130a.length : Int) then (some 4) else (if z131d < 0 then (some 4) else (if z131d > 400 then (some 4) else (if z131b < 0 then (some 4) else (if z131b > 100000000000 then (some 4) else (clock_Valid.l0 k (wrap64 (x40 + 1)) z130a z130b z130c z131a z131b z131c z131d z131e z131f z131g z131h z131i z131j)))))))) else (none)) else (some 0)
end
def clock_Valid.f (k : Nat) (l0_0 : List (S91)) (a0_1 : Int) (a0_2 : Int) (a1_0 : Int) (a1_1 : Int) (a1_2 : Int) (a1_3 : Int) (a1_4 : Int) (a1_5 : Int) (a1_6 : Int) (a1_7 : Int) (a1_8 : Bool) (a1_9 : Int) : Option (Int) := (clock_Check.f k l0_0 a0_1 a0_2).bind fun t131 => (if t131 = 0 then (if a1_6 < 0 then (clock_Valid.j0 k true l0_0 a0_1 a0_2 a1_0 a1_1 a1_2 a1_3 a1_4 a1_5 a1_6 a1_7 a1_8 a1_9) else (if a1_6 > 1 then (clock_Valid.j0 k true l0_0 a0_1 a0_2 a1_0 a1_1 a1_2 a1_3 a1_4 a1_5 a1_6 a1_7 a1_8 a1_9) else (if a1_9 < (-1) then (clock_Valid.j0 k true l0_0 a0_1 a0_2 a1_0 a1_1 a1_2 a1_3 a1_4 a1_5 a1_6 a1_7 a1_8 a1_9) else (if a1_9 > 1 then (clock_Valid.j0 k true l0_0 a0_1 a0_2 a1_0 a1_1 a1_2 a1_3 a1_4 a1_5 a1_6 a1_7 a1_8 a1_9) else (if a1_7 < 0 then (clock_Valid.j0 k true l0_0 a0_1 a0_2 a1_0 a1_1 a1_2 a1_3 a1_4 a1_5 a1_6 a1_7 a1_8 a1_9) else (clock_Valid.j0 k (decide (a1_7 > 100000000)) l0_0 a0_1 a0_2 a1_0 a1_1 a1_2 a1_3 a1_4 a1_5 a1_6 a1_7 a1_8 a1_9)))))) else (some t131))
theorem clock_Valid.mono_l : ∀ k, (∀ y0 y1 y2 y3 y4 y5 y6 y7 y8 y9 y10 y11 y12 y13, LeO (clock_Valid.j0 k y0 y1 y2 y3 y4 y5 y6 y7 y8 y9 y10 y11 y12 y13) (clock_Valid.j0 (k + 1) y0 y1 y2 y3 y4 y5 y6 y7 y8 y9 y10 y11 y12 y13)) ∧ (∀ y0 y1 y2 y3 y4 y5 y6 y7 y8 y9 y10 y11 y12 y13, LeO (clock_Valid.l0 k y0 y1 y2 y3 y4 y5 y6 y7 y8 y9 y10 y11 y12 y13) (clock_Valid.l0 (k + 1) y0 y1 y2 y3 y4 y5 y6 y7 y8 y9 y10 y11 y12 y13))
  | 0 => ⟨fun _ _ _ _ _ _ _ _ _ _ _ _ _ _ r h => by simp [clock_Valid.j0] at h, fun _ _ _ _ _ _ _ _ _ _ _ _ _ _ r h => by simp [clock_Valid.l0] at h⟩
  | k + 1 => by
    obtain ⟨ih0, ih1⟩ := clock_Valid.mono_l k
    refine ⟨?_, ?_⟩
    · intros
      unfold clock_Valid.j0
      repeat' first
      | (with_reducible apply ih0)
      | (with_reducible apply ih1)
      | (with_reducible apply clock_Check.mono)
      | (with_reducible exact LeO.refl _)
      | (with_reducible exact LeO.none _)
      | (with_reducible refine LeO.ite ?_ ?_)
      | (with_reducible refine LeO.bind ?_ (fun _ => ?_))
      | apply ih0
      | apply ih1
      | apply clock_Check.mono
      | exact LeO.none _
      | refine LeO.ite ?_ ?_
      | refine LeO.bind ?_ (fun _ => ?_)
    · intros
      unfold clock_Valid.l0
      repeat' first
      | (with_reducible apply ih0)
      | (with_reducible apply ih1)
      | (with_reducible apply clock_Check.mono)
      | (with_reducible exact LeO.refl _)
      | (with_reducible exact LeO.none _)
      | (with_reducible refine LeO.ite ?_ ?_)
      | (with_reducible refine LeO.bind ?_ (fun _ => ?_))
      | apply ih0
      | apply ih1
      | apply clock_Check.mono
      | exact LeO.none _
      | refine LeO.ite ?_ ?_
      | refine LeO.bind ?_ (fun _ => ?_)
theorem clock_Valid.mono : ∀ a0 a1 a2 a3 a4 a5 a6 a7 a8 a9 a10 a11 a12 k, LeO (clock_Valid.f k a0 a1 a2 a3 a4 a5 a6 a7 a8 a9 a10 a11 a12) (clock_Valid.f (k + 1) a0 a1 a2 a3 a4 a5 a6 a7 a8 a9 a10 a11 a12) := by
  intro a0 a1 a2 a3 a4 a5 a6 a7 a8 a9 a10 a11 a12 k
  obtain ⟨ih0, ih1⟩ := clock_Valid.mono_l k
  unfold clock_Valid.f
  repeat' first
      | (with_reducible apply ih0)
      | (with_reducible apply ih1)
      | (with_reducible apply clock_Check.mono)
      | (with_reducible exact LeO.refl _)
      | (with_reducible exact LeO.none _)
      | (with_reducible refine LeO.ite ?_ ?_)
      | (with_reducible refine LeO.bind ?_ (fun _ => ?_))
      | apply ih0
      | apply ih1
      | apply clock_Check.mono
      | exact LeO.none _
      | refine LeO.ite ?_ ?_
      | refine LeO.bind ?_ (fun _ => ?_)
set_option maxHeartbeats 8000000 in
set_option maxRecDepth 100000 in
theorem clock_Valid.calls (k : Nat) (A0_0 : Option Addr) (c0_0 : Nat) (l0_0 : List (S91)) (a0_1 : Int) (a0_2 : Int) (a1_0 : Int) (a1_1 : Int) (a1_2 : Int) (a1_3 : Int) (a1_4 : Int) (a1_5 : Int) (a1_6 : Int) (a1_7 : Int) (a1_8 : Bool) (a1_9 : Int) (r : Int) (w : World) (hr0_0 : Kd.C k91 w A0_0 l0_0.length l0_0) (hc0_0 : l0_0.length ≤ c0_0) (h : clock_Valid.f k l0_0 a0_1 a0_2 a1_0 a1_1 a1_2 a1_3 a1_4 a1_5 a1_6 a1_7 a1_8 a1_9 = some r) :
    Calls Try.prog 25 #[.agg #[.slice A0_0 l0_0.length c0_0, .int .i64 a0_1, .int .i64 a0_2], .agg #[.int .i64 a1_0, .int .i64 a1_1, .int .i64 a1_2, .int .i64 a1_3, .int .i64 a1_4, .int .i64 a1_5, .int .i64 a1_6, .int .i64 a1_7, .bool a1_8, .int .i64 a1_9]] w fun e w' => e = .returned (.int .i64 r) ∧ Below w.heap.size w w' := by
 have hu42 := Try.underlying42; have hu45 := Try.underlying45; have HR0_0 := Aside0.mk hr0_0; have HC0_0 := Aside0.mk hc0_0; clear hr0_0 hc0_0; have HB := Aside0.mk (Below.refl w.heap.size w); have hss_ := @isSome_setCell
 have H : ((clock_Check.f k l0_0 a0_1 a0_2).bind fun t131 => (if t131 = 0 then (if a1_6 < 0 then (clock_Valid.j0 k true l0_0 a0_1 a0_2 a1_0 a1_1 a1_2 a1_3 a1_4 a1_5 a1_6 a1_7 a1_8 a1_9) else (if a1_6 > 1 then (clock_Valid.j0 k true l0_0 a0_1 a0_2 a1_0 a1_1 a1_2 a1_3 a1_4 a1_5 a1_6 a1_7 a1_8 a1_9) else (if a1_9 < (-1) then (clock_Valid.j0 k true l0_0 a0_1 a0_2 a1_0 a1_1 a1_2 a1_3 a1_4 a1_5 a1_6 a1_7 a1_8 a1_9) else (if a1_9 > 1 then (clock_Valid.j0 k true l0_0 a0_1 a0_2 a1_0 a1_1 a1_2 a1_3 a1_4 a1_5 a1_6 a1_7 a1_8 a1_9) else (if a1_7 < 0 then (clock_Valid.j0 k true l0_0 a0_1 a0_2 a1_0 a1_1 a1_2 a1_3 a1_4 a1_5 a1_6 a1_7 a1_8 a1_9) else (clock_Valid.j0 k (decide (a1_7 > 100000000)) l0_0 a0_1 a0_2 a1_0 a1_1 a1_2 a1_3 a1_4 a1_5 a1_6 a1_7 a1_8 a1_9)))))) else (some t131))) = some r := h
 clear h; replace H := Option.bind_eq_some_iff.mp H
 obtain ⟨t131, A30, H⟩ := H
 try dsimp only at H
 have A3 := Aside0.mk A30; clear A30
 by_cases c4 : t131 = 0
 ·rw [if_pos c4] at H
  have c4b0 : (t131 == 0) = true := beq_iff_eq.mpr c4
  have c4b1 : (t131 != 0) = false := bne_eq_false_iff_eq.mpr c4
  clear c4; have HC5 := Aside0.mk H; clear H
  go_enter Try.func25, Try.ntmps25
  go_upto_region 4 with (first | ((with_reducible refine gate_dst (N := 2) rfl ?_); (try (refine gate_guard (by rfl) ?_; dsimp only)); refine box_event ?hg (N := 2) ?hd (cs := #[.slice A0_0 l0_0.length c0_0, .int .i64 a0_1, .int .i64 a0_2]) (t := 42) ?hr ?_; (case hd => rfl); (case hg => rfl); (case hr => first | (go_simp; done) | (go_simp; rfl)); intro gb129 hg w6 hbox hb; have BK129 := Aside0.mk (hbox); have GW129 := Aside0.mk (xZ HB hg); have GE129 := Aside0.mk (xZ HB hg); replace HB := Aside0.mk (xS HB hb); clear hb hbox hg) | ((with_reducible refine gate_dst (N := 3) rfl ?_); (try (refine gate_guard (by rfl) ?_; dsimp only)); refine box_event ?hg (N := 3) ?hd (cs := #[.int .i64 a1_0, .int .i64 a1_1, .int .i64 a1_2, .int .i64 a1_3, .int .i64 a1_4, .int .i64 a1_5, .int .i64 a1_6, .int .i64 a1_7, .bool a1_8, .int .i64 a1_9]) (t := 45) ?hr ?_; (case hd => rfl); (case hg => rfl); (case hr => first | (go_simp; done) | (go_simp; rfl)); intro gb130 hg w7 hbox hb; have BK130 := Aside0.mk (hbox); have GW130 := Aside0.mk (xZ HB hg); have GE130 := Aside0.mk (xZ HB hg); have NB129_130 := Aside0.mk (xN BK129 hg); have NB130_129 := Aside0.mk (xM BK129 hg); replace BK129 := Aside0.mk (xB BK129 hb); replace HB := Aside0.mk (xS HB hb); clear hb hbox hg; have hnb8 := NB129_130.out; have hnc8 := NB130_129.out; have hcz9_0 := blkc3 BK129.out) | (go_at_call 56; (with_reducible refine (clock_Check.calls k _ _ l0_0 a0_1 a0_2 t131 _ ?side1 ?side2 A3.out).mono ?_); (case side1 => exact xC (Kd.C_below HR0_0.out HB.out)); (case side2 => exact HC0_0.out); rintro e w10 ⟨rfl, hb⟩; replace BK129 := Aside0.mk (xB BK129 hb); replace BK130 := Aside0.mk (xB BK130 hb); replace HB := Aside0.mk (xS HB hb); (try clear hb); (try clear hb2); (try clear hk); (try clear hi)))
  repeat (go_quiet (first | ((with_reducible refine gate_dst (N := 2) rfl ?_); (try (refine gate_guard (by rfl) ?_; dsimp only)); refine box_event ?hg (N := 2) ?hd (cs := #[.slice A0_0 l0_0.length c0_0, .int .i64 a0_1, .int .i64 a0_2]) (t := 42) ?hr ?_; (case hd => rfl); (case hg => rfl); (case hr => first | (go_simp; done) | (go_simp; rfl)); intro gb129 hg w6 hbox hb; have BK129 := Aside0.mk (hbox); have GW129 := Aside0.mk (xZ HB hg); have GE129 := Aside0.mk (xZ HB hg); replace HB := Aside0.mk (xS HB hb); clear hb hbox hg) | ((with_reducible refine gate_dst (N := 3) rfl ?_); (try (refine gate_guard (by rfl) ?_; dsimp only)); refine box_event ?hg (N := 3) ?hd (cs := #[.int .i64 a1_0, .int .i64 a1_1, .int .i64 a1_2, .int .i64 a1_3, .int .i64 a1_4, .int .i64 a1_5, .int .i64 a1_6, .int .i64 a1_7, .bool a1_8, .int .i64 a1_9]) (t := 45) ?hr ?_; (case hd => rfl); (case hg => rfl); (case hr => first | (go_simp; done) | (go_simp; rfl)); intro gb130 hg w7 hbox hb; have BK130 := Aside0.mk (hbox); have GW130 := Aside0.mk (xZ HB hg); have GE130 := Aside0.mk (xZ HB hg); have NB129_130 := Aside0.mk (xN BK129 hg); have NB130_129 := Aside0.mk (xM BK129 hg); replace BK129 := Aside0.mk (xB BK129 hb); replace HB := Aside0.mk (xS HB hb); clear hb hbox hg; have hcz9_0 := blkc3 BK129.out) | (go_at_call 56; (with_reducible refine (clock_Check.calls k _ _ l0_0 a0_1 a0_2 t131 _ ?side1 ?side2 A3.out).mono ?_); (case side1 => exact xC (Kd.C_below HR0_0.out HB.out)); (case side2 => exact HC0_0.out); rintro e w10 ⟨rfl, hb⟩; replace BK129 := Aside0.mk (xB BK129 hb); replace BK130 := Aside0.mk (xB BK130 hb); replace HB := Aside0.mk (xS HB hb); (try clear hb); (try clear hb2); (try clear hk); (try clear hi))); go_upto_region 4 with (first | ((with_reducible refine gate_dst (N := 2) rfl ?_); (try (refine gate_guard (by rfl) ?_; dsimp only)); refine box_event ?hg (N := 2) ?hd (cs := #[.slice A0_0 l0_0.length c0_0, .int .i64 a0_1, .int .i64 a0_2]) (t := 42) ?hr ?_; (case hd => rfl); (case hg => rfl); (case hr => first | (go_simp; done) | (go_simp; rfl)); intro gb129 hg w6 hbox hb; have BK129 := Aside0.mk (hbox); have GW129 := Aside0.mk (xZ HB hg); have GE129 := Aside0.mk (xZ HB hg); replace HB := Aside0.mk (xS HB hb); clear hb hbox hg) | ((with_reducible refine gate_dst (N := 3) rfl ?_); (try (refine gate_guard (by rfl) ?_; dsimp only)); refine box_event ?hg (N := 3) ?hd (cs := #[.int .i64 a1_0, .int .i64 a1_1, .int .i64 a1_2, .int .i64 a1_3, .int .i64 a1_4, .int .i64 a1_5, .int .i64 a1_6, .int .i64 a1_7, .bool a1_8, .int .i64 a1_9]) (t := 45) ?hr ?_; (case hd => rfl); (case hg => rfl); (case hr => first | (go_simp; done) | (go_simp; rfl)); intro gb130 hg w7 hbox hb; have BK130 := Aside0.mk (hbox); have GW130 := Aside0.mk (xZ HB hg); have GE130 := Aside0.mk (xZ HB hg); have NB129_130 := Aside0.mk (xN BK129 hg); have NB130_129 := Aside0.mk (xM BK129 hg); replace BK129 := Aside0.mk (xB BK129 hb); replace HB := Aside0.mk (xS HB hb); clear hb hbox hg; have hcz9_0 := blkc3 BK129.out) | (go_at_call 56; (with_reducible refine (clock_Check.calls k _ _ l0_0 a0_1 a0_2 t131 _ ?side1 ?side2 A3.out).mono ?_); (case side1 => exact xC (Kd.C_below HR0_0.out HB.out)); (case side2 => exact HC0_0.out); rintro e w10 ⟨rfl, hb⟩; replace BK129 := Aside0.mk (xB BK129 hb); replace BK130 := Aside0.mk (xB BK130 hb); replace HB := Aside0.mk (xS HB hb); (try clear hb); (try clear hb2); (try clear hk); (try clear hi))))
  (try have hq130_129 := NB130_129.out); (try have hq129_130 := NB129_130.out)
  (try simp only [Act.put, List.setIfInBounds_toArray, List.set_cons_zero, List.set_cons_succ])
  go_cut [39] (fun vs39 wc => ∃ (kq : Nat) (x39_4 : Bool), vs39 = .bool x39_4 ∧ Aside0 (clock_Valid.j0 kq x39_4 l0_0 a0_1 a0_2 a1_0 a1_1 a1_2 a1_3 a1_4 a1_5 a1_6 a1_7 a1_8 a1_9 = some r) ∧ Aside0 (kq ≤ k) ∧ Aside0 (wc.heap[gb129]? = some (.cells #[(.slice A0_0 l0_0.length c0_0), .int .i64 a0_1, .int .i64 a0_2] 42 (0, 0))) ∧ Aside0 (wc.heap[gb130]? = some (.cells #[.int .i64 a1_0, .int .i64 a1_1, .int .i64 a1_2, .int .i64 a1_3, .int .i64 a1_4, .int .i64 a1_5, .int .i64 a1_6, .int .i64 a1_7, .bool a1_8, .int .i64 a1_9] 45 (0, 0))) ∧ Aside0 (Below w.heap.size w wc))
  case first =>
   have H := HC5.out; clear HC5
   by_cases c11 : a1_6 < 0
   ·rw [if_pos c11] at H
    have c11b0 : decide (a1_6 < 0) = true := decide_eq_true c11
    clear c11
    (first | rw [c11b0] | (simp only [i64_w, i32_w]; rw [c11b0]) | skip)
    have H' := Aside0.mk H
    clear H; have hcz13_0 := blkc10 BK130.out
    go_wp2
    repeat (go_quiet (fail); try go_wp2)
    go_meet
    case rel => exact ⟨_, (true), (xrf), H', ⟨by first | omega | exact Nat.le_refl _⟩, ⟨xK BK129⟩, ⟨xK BK130⟩, ⟨xW HB⟩⟩
   ·rw [if_neg c11] at H
    have c11b0 : decide (a1_6 < 0) = false := decide_eq_false c11
    clear c11
    (first | rw [c11b0] | (simp only [i64_w, i32_w]; rw [c11b0]) | skip)
    by_cases c14 : a1_6 > 1
    ·rw [if_pos c14] at H
     have c14b0 : decide (1 < a1_6) = true := decide_eq_true c14
     clear c14
     have H' := Aside0.mk H
     clear H; have hcz16_0 := blkc10 BK130.out
     go_wp2
     repeat (go_quiet (fail); try go_wp2)
     go_meet
     case rel => exact ⟨_, (true), (xrf), H', ⟨by first | omega | exact Nat.le_refl _⟩, ⟨xK BK129⟩, ⟨xK BK130⟩, ⟨xW HB⟩⟩
    ·rw [if_neg c14] at H
     have c14b0 : decide (1 < a1_6) = false := decide_eq_false c14
     clear c14
     by_cases c17 : a1_9 < (-1)
     ·rw [if_pos c17] at H
      have c17b0 : decide (a1_9 < (-1)) = true := decide_eq_true c17
      clear c17
      have H' := Aside0.mk H
      clear H; have hcz19_0 := blkc10 BK130.out
      go_wp2
      repeat (go_quiet (fail); try go_wp2)
      go_meet
      case rel => exact ⟨_, (true), (xrf), H', ⟨by first | omega | exact Nat.le_refl _⟩, ⟨xK BK129⟩, ⟨xK BK130⟩, ⟨xW HB⟩⟩
     ·rw [if_neg c17] at H
      have c17b0 : decide (a1_9 < (-1)) = false := decide_eq_false c17
      clear c17
      by_cases c20 : a1_9 > 1
      ·rw [if_pos c20] at H
       have c20b0 : decide (1 < a1_9) = true := decide_eq_true c20
       clear c20
       have H' := Aside0.mk H
       clear H; have hcz22_0 := blkc10 BK130.out
       go_wp2
       repeat (go_quiet (fail); try go_wp2)
       go_meet
       case rel => exact ⟨_, (true), (xrf), H', ⟨by first | omega | exact Nat.le_refl _⟩, ⟨xK BK129⟩, ⟨xK BK130⟩, ⟨xW HB⟩⟩
      ·rw [if_neg c20] at H
       have c20b0 : decide (1 < a1_9) = false := decide_eq_false c20
       clear c20
       by_cases c23 : a1_7 < 0
       ·rw [if_pos c23] at H
        have c23b0 : decide (a1_7 < 0) = true := decide_eq_true c23
        clear c23
        have H' := Aside0.mk H
        clear H; have hcz25_0 := blkc10 BK130.out
        go_wp2
        repeat (go_quiet (fail); try go_wp2)
        go_meet
        case rel => exact ⟨_, (true), (xrf), H', ⟨by first | omega | exact Nat.le_refl _⟩, ⟨xK BK129⟩, ⟨xK BK130⟩, ⟨xW HB⟩⟩
       ·rw [if_neg c23] at H
        have c23b0 : decide (a1_7 < 0) = false := decide_eq_false c23
        clear c23
        have H' := Aside0.mk H
        clear H; have hcz27_0 := blkc10 BK130.out
        go_wp2
        repeat (go_quiet (fail); try go_wp2)
        go_meet
        case rel => exact ⟨_, (decide (a1_7 > 100000000)), (xrf), H', ⟨by first | omega | exact Nat.le_refl _⟩, ⟨xK BK129⟩, ⟨xK BK130⟩, ⟨xW HB⟩⟩
  case rest =>
   clear HC5; (try clear p2)
   obtain ⟨kq, x39_4, rfl, HA, HJ4, BK129, BK130, HB⟩ := hcut
   cases kq with
   | zero => exact absurd HA.out (by simp [clock_Valid.j0])
   | succ kj4 =>
    have H := HA.out; clear HA
    simp only [clock_Valid.j0] at H
    by_cases c28 : x39_4 = true
    ·subst c28
     rw [if_pos rfl] at H
     obtain rfl := Option.some.inj H
     go_wp2
     repeat (go_quiet (fail); try go_wp2)
     go_ret
     exact ⟨xer, xW HB⟩
    ·replace c28 := Bool.eq_false_iff.mpr c28
     subst c28
     rw [if_neg (show ¬ (false = true) by decide)] at H
     have H' := Aside0.mk H
     clear H
     go_wp2
     repeat (go_quiet (fail); try go_wp2)
     go_loopg [40] kj4 (fun kq vs40 w' => ∃ (x40_2 : Int), vs40 = .int .i64 x40_2 ∧ Aside0 (clock_Valid.l0 kq x40_2 l0_0 a0_1 a0_2 a1_0 a1_1 a1_2 a1_3 a1_4 a1_5 a1_6 a1_7 a1_8 a1_9 = some r) ∧ Aside0 (kq ≤ kj4) ∧ Aside0 (w'.heap[gb129]? = some (.cells #[(.slice A0_0 l0_0.length c0_0), .int .i64 a0_1, .int .i64 a0_2] 42 (0, 0))) ∧ Aside0 (w'.heap[gb130]? = some (.cells #[.int .i64 a1_0, .int .i64 a1_1, .int .i64 a1_2, .int .i64 a1_3, .int .i64 a1_4, .int .i64 a1_5, .int .i64 a1_6, .int .i64 a1_7, .bool a1_8, .int .i64 a1_9] 45 (0, 0))) ∧ Aside0 (Below w.heap.size w w'))
     case atStart => exact ⟨(0), (xrf), H', ⟨Nat.le_refl _⟩, ⟨xK BK129⟩, ⟨xK BK130⟩, ⟨xW HB⟩⟩
     case round =>
      clear H'; (try clear p2); (try clear p2)
      obtain ⟨x40_2, rfl, HA, HK2, BK129, BK130, HB⟩ := hrel
      cases gk with
      | zero => exact absurd HA.out (by simp [clock_Valid.l0])
      | succ k2 =>
       have H := HA.out; clear HA
       simp only [clock_Valid.l0] at H
       by_cases c29 : x40_2 < 2
       ·rw [if_pos c29] at H
        have c29b0 : decide (x40_2 < 2) = true := decide_eq_true c29
        clear c29
        by_cases c30 : 0 ≤ x40_2
        ·rw [if_pos c30] at H
         have c30b0 : decide (0 ≤ x40_2) = true := decide_eq_true c30
         clear c30
         by_cases c31 : x40_2 = 0
         ·rw [if_pos c31] at H
          have c31b0 : (x40_2 == 0) = true := beq_iff_eq.mpr c31
          have c31b1 : (x40_2 != 0) = false := bne_eq_false_iff_eq.mpr c31
          clear c31; obtain ⟨c32b, c32g, c32c, c32d⟩ := xar (x40_2 : Int) 0 0 2
          by_cases c33 : a1_4 < 0
          ·rw [if_pos c33] at H
           have c33b0 : decide (a1_4 < 0) = true := decide_eq_true c33
           clear c33
           obtain rfl := Option.some.inj H
           have hcz35_0 := blkc10 BK130.out
           go_wp2
           repeat (go_quiet (fail); try go_wp2)
           go_ret
           exact ⟨xer, xW HB⟩
          ·rw [if_neg c33] at H
           have c33b0 : decide (a1_4 < 0) = false := decide_eq_false c33
           clear c33; obtain ⟨c36b, c36g, c36c, c36d⟩ := xar (x40_2 : Int) 0 0 2
           by_cases c37 : a1_4 ≥ (l0_0.length : Int)
           ·rw [if_pos c37] at H
            have c37b0 : decide ((l0_0.length : Int) ≤ a1_4) = true := decide_eq_true c37
            clear c37
            obtain rfl := Option.some.inj H
            have hcz39_0 := blkc10 BK130.out; have hcz40_0 := blkc3 BK129.out
            go_wp2
            repeat (go_quiet (fail); try go_wp2)
            go_ret
            exact ⟨xer, xW HB⟩
           ·rw [if_neg c37] at H
            have c37b0 : decide ((l0_0.length : Int) ≤ a1_4) = false := decide_eq_false c37
            clear c37; obtain ⟨c41b, c41g, c41c, c41d⟩ := xar (x40_2 : Int) 0 0 2
            by_cases c42 : a1_2 < 0
            ·rw [if_pos c42] at H
             have c42b0 : decide (a1_2 < 0) = true := decide_eq_true c42
             clear c42
             obtain rfl := Option.some.inj H
             have hcz44_0 := blkc10 BK130.out; have hcz45_0 := blkc3 BK129.out
             go_wp2
             repeat (go_quiet (fail); try go_wp2)
             go_ret
             exact ⟨xer, xW HB⟩
            ·rw [if_neg c42] at H
             have c42b0 : decide (a1_2 < 0) = false := decide_eq_false c42
             clear c42; obtain ⟨c46b, c46g, c46c, c46d⟩ := xar (x40_2 : Int) 0 0 2
             by_cases c47 : a1_2 > 400
             ·rw [if_pos c47] at H
              have c47b0 : decide (400 < a1_2) = true := decide_eq_true c47
              clear c47
              obtain rfl := Option.some.inj H
              have hcz49_0 := blkc10 BK130.out; have hcz50_0 := blkc3 BK129.out
              go_wp2
              repeat (go_quiet (fail); try go_wp2)
              go_ret
              exact ⟨xer, xW HB⟩
             ·rw [if_neg c47] at H
              have c47b0 : decide (400 < a1_2) = false := decide_eq_false c47
              clear c47; obtain ⟨c51b, c51g, c51c, c51d⟩ := xar (x40_2 : Int) 0 0 2
              by_cases c52 : a1_0 < 0
              ·rw [if_pos c52] at H
               have c52b0 : decide (a1_0 < 0) = true := decide_eq_true c52
               clear c52
               obtain rfl := Option.some.inj H
               have hcz54_0 := blkc10 BK130.out; have hcz55_0 := blkc3 BK129.out
               go_wp2
               repeat (go_quiet (fail); try go_wp2)
               go_ret
               exact ⟨xer, xW HB⟩
              ·rw [if_neg c52] at H
               have c52b0 : decide (a1_0 < 0) = false := decide_eq_false c52
               clear c52; obtain ⟨c56b, c56g, c56c, c56d⟩ := xar (x40_2 : Int) 0 0 2
               by_cases c57 : a1_0 > 100000000000
               ·rw [if_pos c57] at H
                have c57b0 : decide (100000000000 < a1_0) = true := decide_eq_true c57
                clear c57
                obtain rfl := Option.some.inj H
                have hcz59_0 := blkc10 BK130.out; have hcz60_0 := blkc3 BK129.out
                go_wp2
                repeat (go_quiet (fail); try go_wp2)
                go_ret
                exact ⟨xer, xW HB⟩
               ·rw [if_neg c57] at H
                have c57b0 : decide (100000000000 < a1_0) = false := decide_eq_false c57
                clear c57
                have H' := Aside0.mk H
                clear H; have hcz62_0 := blkc10 BK130.out; have hcz63_0 := blkc3 BK129.out
                go_wp2
                repeat (go_quiet (fail); try go_wp2)
                go_roundg k2
                case measure => have := HJ4.out; have := HK2.out; omega
                case rel => exact ⟨(wrap64 (x40_2 + 1)), (xrf), H', ⟨by have := HJ4.out; have := HK2.out; omega⟩, ⟨xK BK129⟩, ⟨xK BK130⟩, ⟨xW HB⟩⟩
         ·rw [if_neg c31] at H
          have c31b0 : (x40_2 == 0) = false := beq_eq_false_iff_ne.mpr c31
          have c31b1 : (x40_2 != 0) = true := bne_iff_ne.mpr c31
          obtain ⟨c64b, c64g, c64c, c64d⟩ := xar (x40_2 : Int) 1 1 2
          by_cases c65 : a1_5 < 0
          ·rw [if_pos c65] at H
           have c65b0 : decide (a1_5 < 0) = true := decide_eq_true c65
           clear c65
           obtain rfl := Option.some.inj H
           have hcz67_0 := blkc10 BK130.out
           go_wp2
           repeat (go_quiet (fail); try go_wp2)
           go_ret
           exact ⟨xer, xW HB⟩
          ·rw [if_neg c65] at H
           have c65b0 : decide (a1_5 < 0) = false := decide_eq_false c65
           clear c65; obtain ⟨c68b, c68g, c68c, c68d⟩ := xar (x40_2 : Int) 1 1 2
           by_cases c69 : a1_5 ≥ (l0_0.length : Int)
           ·rw [if_pos c69] at H
            have c69b0 : decide ((l0_0.length : Int) ≤ a1_5) = true := decide_eq_true c69
            clear c69
            obtain rfl := Option.some.inj H
            have hcz71_0 := blkc10 BK130.out; have hcz72_0 := blkc3 BK129.out
            go_wp2
            repeat (go_quiet (fail); try go_wp2)
            go_ret
            exact ⟨xer, xW HB⟩
           ·rw [if_neg c69] at H
            have c69b0 : decide ((l0_0.length : Int) ≤ a1_5) = false := decide_eq_false c69
            clear c69; obtain ⟨c73b, c73g, c73c, c73d⟩ := xar (x40_2 : Int) 1 1 2
            by_cases c74 : a1_3 < 0
            ·rw [if_pos c74] at H
             have c74b0 : decide (a1_3 < 0) = true := decide_eq_true c74
             clear c74
             obtain rfl := Option.some.inj H
             have hcz76_0 := blkc10 BK130.out; have hcz77_0 := blkc3 BK129.out
             go_wp2
             repeat (go_quiet (fail); try go_wp2)
             go_ret
             exact ⟨xer, xW HB⟩
            ·rw [if_neg c74] at H
             have c74b0 : decide (a1_3 < 0) = false := decide_eq_false c74
             clear c74; obtain ⟨c78b, c78g, c78c, c78d⟩ := xar (x40_2 : Int) 1 1 2
             by_cases c79 : a1_3 > 400
             ·rw [if_pos c79] at H
              have c79b0 : decide (400 < a1_3) = true := decide_eq_true c79
              clear c79
              obtain rfl := Option.some.inj H
              have hcz81_0 := blkc10 BK130.out; have hcz82_0 := blkc3 BK129.out
              go_wp2
              repeat (go_quiet (fail); try go_wp2)
              go_ret
              exact ⟨xer, xW HB⟩
             ·rw [if_neg c79] at H
              have c79b0 : decide (400 < a1_3) = false := decide_eq_false c79
              clear c79; obtain ⟨c83b, c83g, c83c, c83d⟩ := xar (x40_2 : Int) 1 1 2
              by_cases c84 : a1_1 < 0
              ·rw [if_pos c84] at H
               have c84b0 : decide (a1_1 < 0) = true := decide_eq_true c84
               clear c84
               obtain rfl := Option.some.inj H
               have hcz86_0 := blkc10 BK130.out; have hcz87_0 := blkc3 BK129.out
               go_wp2
               repeat (go_quiet (fail); try go_wp2)
               go_ret
               exact ⟨xer, xW HB⟩
              ·rw [if_neg c84] at H
               have c84b0 : decide (a1_1 < 0) = false := decide_eq_false c84
               clear c84; obtain ⟨c88b, c88g, c88c, c88d⟩ := xar (x40_2 : Int) 1 1 2
               by_cases c89 : a1_1 > 100000000000
               ·rw [if_pos c89] at H
                have c89b0 : decide (100000000000 < a1_1) = true := decide_eq_true c89
                clear c89
                obtain rfl := Option.some.inj H
                have hcz91_0 := blkc10 BK130.out; have hcz92_0 := blkc3 BK129.out
                go_wp2
                repeat (go_quiet (fail); try go_wp2)
                go_ret
                exact ⟨xer, xW HB⟩
               ·rw [if_neg c89] at H
                have c89b0 : decide (100000000000 < a1_1) = false := decide_eq_false c89
                clear c89
                have H' := Aside0.mk H
                clear H; have hcz94_0 := blkc10 BK130.out; have hcz95_0 := blkc3 BK129.out
                go_wp2
                repeat (go_quiet (fail); try go_wp2)
                go_roundg k2
                case measure => have := HJ4.out; have := HK2.out; omega
                case rel => exact ⟨(wrap64 (x40_2 + 1)), (xrf), H', ⟨by have := HJ4.out; have := HK2.out; omega⟩, ⟨xK BK129⟩, ⟨xK BK130⟩, ⟨xW HB⟩⟩
        ·rw [if_neg c30] at H
         exact absurd H (by simp)
       ·rw [if_neg c29] at H
        have c29b0 : decide (x40_2 < 2) = false := decide_eq_false c29
        clear c29
        obtain rfl := Option.some.inj H
        go_wp2
        repeat (go_quiet (fail); try go_wp2)
        go_ret
        exact ⟨xer, xW HB⟩
 ·rw [if_neg c4] at H
  have c4b0 : (t131 == 0) = false := beq_eq_false_iff_ne.mpr c4
  have c4b1 : (t131 != 0) = true := bne_iff_ne.mpr c4
  obtain rfl := Option.some.inj H
  go_enter Try.func25, Try.ntmps25
  go_wp2_with (first | ((with_reducible refine gate_dst (N := 2) rfl ?_); (try (refine gate_guard (by rfl) ?_; dsimp only)); refine box_event ?hg (N := 2) ?hd (cs := #[.slice A0_0 l0_0.length c0_0, .int .i64 a0_1, .int .i64 a0_2]) (t := 42) ?hr ?_; (case hd => rfl); (case hg => rfl); (case hr => first | (go_simp; done) | (go_simp; rfl)); intro gb129 hg w96 hbox hb; have BK129 := Aside0.mk (hbox); have GW129 := Aside0.mk (xZ HB hg); have GE129 := Aside0.mk (xZ HB hg); replace HB := Aside0.mk (xS HB hb); clear hb hbox hg) | ((with_reducible refine gate_dst (N := 3) rfl ?_); (try (refine gate_guard (by rfl) ?_; dsimp only)); refine box_event ?hg (N := 3) ?hd (cs := #[.int .i64 a1_0, .int .i64 a1_1, .int .i64 a1_2, .int .i64 a1_3, .int .i64 a1_4, .int .i64 a1_5, .int .i64 a1_6, .int .i64 a1_7, .bool a1_8, .int .i64 a1_9]) (t := 45) ?hr ?_; (case hd => rfl); (case hg => rfl); (case hr => first | (go_simp; done) | (go_simp; rfl)); intro gb130 hg w97 hbox hb; have BK130 := Aside0.mk (hbox); have GW130 := Aside0.mk (xZ HB hg); have GE130 := Aside0.mk (xZ HB hg); have NB129_130 := Aside0.mk (xN BK129 hg); have NB130_129 := Aside0.mk (xM BK129 hg); replace BK129 := Aside0.mk (xB BK129 hb); replace HB := Aside0.mk (xS HB hb); clear hb hbox hg; have hnb98 := NB129_130.out; have hnc98 := NB130_129.out; have hcz99_0 := blkc3 BK129.out) | (go_at_call 56; (with_reducible refine (clock_Check.calls k _ _ l0_0 a0_1 a0_2 t131 _ ?side1 ?side2 A3.out).mono ?_); (case side1 => exact xC (Kd.C_below HR0_0.out HB.out)); (case side2 => exact HC0_0.out); rintro e w100 ⟨rfl, hb⟩; replace BK129 := Aside0.mk (xB BK129 hb); replace BK130 := Aside0.mk (xB BK130 hb); replace HB := Aside0.mk (xS HB hb); (try clear hb); (try clear hb2); (try clear hk); (try clear hi)))
  repeat (go_quiet (first | ((with_reducible refine gate_dst (N := 2) rfl ?_); (try (refine gate_guard (by rfl) ?_; dsimp only)); refine box_event ?hg (N := 2) ?hd (cs := #[.slice A0_0 l0_0.length c0_0, .int .i64 a0_1, .int .i64 a0_2]) (t := 42) ?hr ?_; (case hd => rfl); (case hg => rfl); (case hr => first | (go_simp; done) | (go_simp; rfl)); intro gb129 hg w96 hbox hb; have BK129 := Aside0.mk (hbox); have GW129 := Aside0.mk (xZ HB hg); have GE129 := Aside0.mk (xZ HB hg); replace HB := Aside0.mk (xS HB hb); clear hb hbox hg) | ((with_reducible refine gate_dst (N := 3) rfl ?_); (try (refine gate_guard (by rfl) ?_; dsimp only)); refine box_event ?hg (N := 3) ?hd (cs := #[.int .i64 a1_0, .int .i64 a1_1, .int .i64 a1_2, .int .i64 a1_3, .int .i64 a1_4, .int .i64 a1_5, .int .i64 a1_6, .int .i64 a1_7, .bool a1_8, .int .i64 a1_9]) (t := 45) ?hr ?_; (case hd => rfl); (case hg => rfl); (case hr => first | (go_simp; done) | (go_simp; rfl)); intro gb130 hg w97 hbox hb; have BK130 := Aside0.mk (hbox); have GW130 := Aside0.mk (xZ HB hg); have GE130 := Aside0.mk (xZ HB hg); have NB129_130 := Aside0.mk (xN BK129 hg); have NB130_129 := Aside0.mk (xM BK129 hg); replace BK129 := Aside0.mk (xB BK129 hb); replace HB := Aside0.mk (xS HB hb); clear hb hbox hg; have hcz99_0 := blkc3 BK129.out) | (go_at_call 56; (with_reducible refine (clock_Check.calls k _ _ l0_0 a0_1 a0_2 t131 _ ?side1 ?side2 A3.out).mono ?_); (case side1 => exact xC (Kd.C_below HR0_0.out HB.out)); (case side2 => exact HC0_0.out); rintro e w100 ⟨rfl, hb⟩; replace BK129 := Aside0.mk (xB BK129 hb); replace BK130 := Aside0.mk (xB BK130 hb); replace HB := Aside0.mk (xS HB hb); (try clear hb); (try clear hb2); (try clear hk); (try clear hi))); try go_wp2_with (first | ((with_reducible refine gate_dst (N := 2) rfl ?_); (try (refine gate_guard (by rfl) ?_; dsimp only)); refine box_event ?hg (N := 2) ?hd (cs := #[.slice A0_0 l0_0.length c0_0, .int .i64 a0_1, .int .i64 a0_2]) (t := 42) ?hr ?_; (case hd => rfl); (case hg => rfl); (case hr => first | (go_simp; done) | (go_simp; rfl)); intro gb129 hg w96 hbox hb; have BK129 := Aside0.mk (hbox); have GW129 := Aside0.mk (xZ HB hg); have GE129 := Aside0.mk (xZ HB hg); replace HB := Aside0.mk (xS HB hb); clear hb hbox hg) | ((with_reducible refine gate_dst (N := 3) rfl ?_); (try (refine gate_guard (by rfl) ?_; dsimp only)); refine box_event ?hg (N := 3) ?hd (cs := #[.int .i64 a1_0, .int .i64 a1_1, .int .i64 a1_2, .int .i64 a1_3, .int .i64 a1_4, .int .i64 a1_5, .int .i64 a1_6, .int .i64 a1_7, .bool a1_8, .int .i64 a1_9]) (t := 45) ?hr ?_; (case hd => rfl); (case hg => rfl); (case hr => first | (go_simp; done) | (go_simp; rfl)); intro gb130 hg w97 hbox hb; have BK130 := Aside0.mk (hbox); have GW130 := Aside0.mk (xZ HB hg); have GE130 := Aside0.mk (xZ HB hg); have NB129_130 := Aside0.mk (xN BK129 hg); have NB130_129 := Aside0.mk (xM BK129 hg); replace BK129 := Aside0.mk (xB BK129 hb); replace HB := Aside0.mk (xS HB hb); clear hb hbox hg; have hcz99_0 := blkc3 BK129.out) | (go_at_call 56; (with_reducible refine (clock_Check.calls k _ _ l0_0 a0_1 a0_2 t131 _ ?side1 ?side2 A3.out).mono ?_); (case side1 => exact xC (Kd.C_below HR0_0.out HB.out)); (case side2 => exact HC0_0.out); rintro e w100 ⟨rfl, hb⟩; replace BK129 := Aside0.mk (xB BK129 hb); replace BK130 := Aside0.mk (xB BK130 hb); replace HB := Aside0.mk (xS HB hb); (try clear hb); (try clear hb2); (try clear hk); (try clear hi))))
  go_ret
  exact ⟨xer, xW HB⟩

end Go.Proofs.Ytcncilipmekfhaa.PClockStops
