-- Printed by a program of this claim's writer (wip/ext): an extension of the kit's print.
import Derived.Test.YtikijopbgjncbaaPClockRunsx0
import Derived.Test.YtikijopbgjncbaaPClockRunsx3
namespace Go.Proofs.Ytikijopbgjncbaa.PClockRuns
open Go.RowKit Go.Proofs.YtikijopbgjncbaaW.PrintWords Go.Proofs.YtikijopbgjncbaaW.PrintLast Go.Proofs.YtikijopbgjncbaaW.PrintMore
attribute [local go_sem] max2_int min2_int max_two min_two max_three min_three max_four min_four   -- for this text's walks alone
set_option linter.unusedVariables false
set_option linter.unusedSimpArgs false

/-! ### gamehallref3_Budget: function 9 -/
def gamehallref3_Budget.l0 : Nat → Int → Int → Int → Int → Int → List (S54) → Int → Int → Option (Int × Int × Int)
  | 0, _, _, _, _, _, _, _, _ => none
  | k + 1, x7, x8, x9, x16, x17, z133a, z133b, z133c => if x17 < x16 then (if 0 ≤ x8 then (if x8 < (z133a.length : Int) then (if ((rd_T54 z133a x8).f0) = 0 then (gamehallref3_Budget.l0 k (wrap64 (x7 + z133b)) x8 (wrap64 (x9 + 1)) x16 (wrap64 (x17 + 1)) z133a z133b z133c) else (if (wrap64 (x9 + 1)) = ((rd_T54 z133a x8).f0) then (if 0 ≤ (wrap64 (x8 + 1)) then (if (wrap64 (x8 + 1)) < (z133a.length : Int) then (gamehallref3_Budget.l0 k (wrap64 ((wrap64 (x7 + z133b)) + ((rd_T54 z133a (wrap64 (x8 + 1))).f1))) (wrap64 (x8 + 1)) 0 x16 (wrap64 (x17 + 1)) z133a z133b z133c) else (none)) else (none)) else (gamehallref3_Budget.l0 k (wrap64 (x7 + z133b)) x8 (wrap64 (x9 + 1)) x16 (wrap64 (x17 + 1)) z133a z133b z133c))) else (none)) else (none)) else (some (x7, x8, x9))
def gamehallref3_Budget.f (k : Nat) (l0_0 : List (S54)) (a0_1 : Int) (a0_2 : Int) (a1 : Int) : Option (Int × Int × Int) := if 0 < (l0_0.length : Int) then (gamehallref3_Budget.l0 k ((rd_T54 l0_0 0).f1) 0 0 a1 0 l0_0 a0_1 a0_2) else (none)
theorem gamehallref3_Budget.mono_l : ∀ k, (∀ y0 y1 y2 y3 y4 y5 y6 y7, LeO (gamehallref3_Budget.l0 k y0 y1 y2 y3 y4 y5 y6 y7) (gamehallref3_Budget.l0 (k + 1) y0 y1 y2 y3 y4 y5 y6 y7))
  | 0 => fun _ _ _ _ _ _ _ _ r h => by simp [gamehallref3_Budget.l0] at h
  | k + 1 => by
    have ih0 := gamehallref3_Budget.mono_l k
    · intros
      unfold gamehallref3_Budget.l0
      repeat' first
      | (with_reducible apply ih0)
      | (with_reducible exact LeO.refl _)
      | (with_reducible exact LeO.none _)
      | (with_reducible refine LeO.ite ?_ ?_)
      | (with_reducible refine LeO.bind ?_ (fun _ => ?_))
      | apply ih0
      | exact LeO.none _
      | refine LeO.ite ?_ ?_
      | refine LeO.bind ?_ (fun _ => ?_)
theorem gamehallref3_Budget.mono : ∀ a0 a1 a2 a3 k, LeO (gamehallref3_Budget.f k a0 a1 a2 a3) (gamehallref3_Budget.f (k + 1) a0 a1 a2 a3) := by
  intro a0 a1 a2 a3 k
  have ih0 := gamehallref3_Budget.mono_l k
  unfold gamehallref3_Budget.f
  repeat' first
      | (with_reducible apply ih0)
      | (with_reducible exact LeO.refl _)
      | (with_reducible exact LeO.none _)
      | (with_reducible refine LeO.ite ?_ ?_)
      | (with_reducible refine LeO.bind ?_ (fun _ => ?_))
      | apply ih0
      | exact LeO.none _
      | refine LeO.ite ?_ ?_
      | refine LeO.bind ?_ (fun _ => ?_)
set_option maxHeartbeats 8000000 in
set_option maxRecDepth 100000 in
theorem gamehallref3_Budget.calls (k : Nat) (A0_0 : Option Addr) (c0_0 : Nat) (l0_0 : List (S54)) (a0_1 : Int) (a0_2 : Int) (a1 : Int) (r1 : Int) (r2 : Int) (r3 : Int) (w : World) (hr0_0 : Kd.C k54 w A0_0 l0_0.length l0_0) (hc0_0 : l0_0.length ≤ c0_0) (h : gamehallref3_Budget.f k l0_0 a0_1 a0_2 a1 = some (r1, r2, r3)) :
    Calls Try.prog 9 #[.agg #[.slice A0_0 l0_0.length c0_0, .int .i64 a0_1, .int .i64 a0_2], .int .i64 a1] w fun e w' => e = .returned (.tuple #[.int .i64 r1, .int .i64 r2, .int .i64 r3]) ∧ Below w.heap.size w w' := by
 have hu24 := Try.underlying24; have HR0_0 := Aside0.mk hr0_0; have HC0_0 := Aside0.mk hc0_0; clear hr0_0 hc0_0; have HB := Aside0.mk (Below.refl w.heap.size w); have hss_ := @isSome_setCell
 have H : (if 0 < (l0_0.length : Int) then (gamehallref3_Budget.l0 k ((rd_T54 l0_0 0).f1) 0 0 a1 0 l0_0 a0_1 a0_2) else (none)) = some (r1, r2, r3) := h
 clear h
 by_cases c3 : 0 < (l0_0.length : Int)
 ·rw [if_pos c3] at H
  have c3b0 : decide (0 < (l0_0.length : Int)) = true := decide_eq_true c3
  have c3b1 : decide (0 < l0_0.length) = true := decide_eq_true (by omega)
  clear c3
  have H' := Aside0.mk H
  clear H
  go_enter Try.func9, Try.ntmps9
  go_wp2_with (first | ((with_reducible refine gate_dst (N := 2) rfl ?_); refine box_event ?hg (N := 2) ?hd (cs := #[.slice A0_0 l0_0.length c0_0, .int .i64 a0_1, .int .i64 a0_2]) (t := 24) ?hr ?_; (case hd => rfl); (case hg => rfl); (case hr => first | (go_simp; done) | (go_simp; rfl)); intro gb132 hg w4 hbox hb; have BK132 := Aside0.mk (hbox); have GW132 := Aside0.mk (xZ HB hg); have GE132 := Aside0.mk (xZ HB hg); replace HB := Aside0.mk (xS HB hb); clear hb hbox hg; have hcz5_0 := blkc3 BK132.out; have p133 : 0 ≤ (0 : Int) := (by omega); have q133 : 0 < (l0_0.length : Int) := of_decide_eq_true (by first | (with_reducible assumption) | assumption); obtain ⟨ad133, e133, hx133_0, hx133_1⟩ := at_T54 HR0_0.out 0 p133 q133; cases e133; have qi133 : (0 < l0_0.length) = True := eq_true (by omega); (try rw [show ((0 : Int)).toNat = 0 from rfl] at hx133_0); (try rw [show 0 * 2 = 0 from rfl] at hx133_0); (try rw [Addr.add_zero'] at hx133_0); (try rw [show ((0 : Int)).toNat = 0 from rfl] at hx133_1); (try rw [show 0 * 2 = 0 from rfl] at hx133_1); (try rw [Addr.add_zero'] at hx133_1); replace hx133_0 := (HB.out.cell (World.block_lt_of_cell? w _ hx133_0)).trans hx133_0; replace hx133_1 := (HB.out.cell (World.block_lt_of_cell? w _ hx133_1)).trans hx133_1; replace p133 := eq_true p133; replace q133 := eq_true q133))
  go_loopg [7, 8, 9, 17] k (fun kq vs7 vs8 vs9 vs17 w' => ∃ (x7_1 : Int) (x8_1 : Int) (x9_1 : Int) (x17_1 : Int), vs7 = .int .i64 x7_1 ∧ vs8 = .int .i64 x8_1 ∧ vs9 = .int .i64 x9_1 ∧ vs17 = .int .i64 x17_1 ∧ Aside0 (gamehallref3_Budget.l0 kq x7_1 x8_1 x9_1 a1 x17_1 l0_0 a0_1 a0_2 = some (r1, r2, r3)) ∧ Aside0 (kq ≤ k) ∧ Aside0 (w'.heap[gb132]? = some (.cells #[(.slice (some ad133) l0_0.length c0_0), .int .i64 a0_1, .int .i64 a0_2] 24 (0, 0))) ∧ Aside0 (Below w.heap.size w w'))
  case atStart => exact ⟨((rd_T54 l0_0 0).f1), (0), (0), (0), (xrf), (xrf), (xrf), (xrf), H', ⟨Nat.le_refl _⟩, ⟨xK BK132⟩, ⟨xW HB⟩⟩
  case round =>
   clear H'; (try clear p1); (try clear q1); (try clear hx1); (try clear qi1); (try clear p2); (try clear hx133_0); (try clear hx133_1); (try clear p133); (try clear q133)
   obtain ⟨x7_1, x8_1, x9_1, x17_1, rfl, rfl, rfl, rfl, HA, HK1, BK132, HB⟩ := hrel
   cases gk with
   | zero => exact absurd HA.out (by simp [gamehallref3_Budget.l0])
   | succ k1 =>
    have H := HA.out; clear HA
    simp only [gamehallref3_Budget.l0] at H
    by_cases c6 : x17_1 < a1
    ·rw [if_pos c6] at H
     have c6b0 : decide (x17_1 < a1) = true := decide_eq_true c6
     clear c6
     by_cases c7 : 0 ≤ x8_1
     ·rw [if_pos c7] at H
      have c7b0 : decide (0 ≤ x8_1) = true := decide_eq_true c7
      clear c7
      by_cases c8 : x8_1 < (l0_0.length : Int)
      ·rw [if_pos c8] at H
       have c8b0 : decide (x8_1 < (l0_0.length : Int)) = true := decide_eq_true c8
       clear c8
       by_cases c9 : ((rd_T54 l0_0 x8_1).f0) = 0
       ·rw [if_pos c9] at H
        have c9b0 : (((rd_T54 l0_0 x8_1).f0) == 0) = true := beq_iff_eq.mpr c9
        have c9b1 : (((rd_T54 l0_0 x8_1).f0) != 0) = false := bne_eq_false_iff_eq.mpr c9
        clear c9
        have H' := Aside0.mk H
        clear H; have hcz10_0 := blkc3 BK132.out
        have p134 : 0 ≤ (x8_1 : Int) := of_decide_eq_true (by first | (with_reducible assumption) | assumption)
        have q134 : x8_1 < (l0_0.length : Int) := of_decide_eq_true (by first | (with_reducible assumption) | assumption)
        obtain ⟨ad134, e134, hx134_0, hx134_1⟩ := at_T54 HR0_0.out x8_1 p134 q134
        obtain rfl : ad133 = ad134 := (by injection e134)
        replace hx134_0 := (HB.out.cell (World.block_lt_of_cell? w _ hx134_0)).trans hx134_0; replace hx134_1 := (HB.out.cell (World.block_lt_of_cell? w _ hx134_1)).trans hx134_1; replace p134 := eq_true p134; replace q134 := eq_true q134
        go_wp2
        go_roundg k1
        case measure => have := HK1.out; omega
        case rel => exact ⟨(wrap64 (x7_1 + a0_1)), (x8_1), (wrap64 (x9_1 + 1)), (wrap64 (x17_1 + 1)), (xrf), (xrf), (xrf), (xrf), H', ⟨by have := HK1.out; omega⟩, ⟨xK BK132⟩, ⟨xW HB⟩⟩
       ·rw [if_neg c9] at H
        have c9b0 : (((rd_T54 l0_0 x8_1).f0) == 0) = false := beq_eq_false_iff_ne.mpr c9
        have c9b1 : (((rd_T54 l0_0 x8_1).f0) != 0) = true := bne_iff_ne.mpr c9
        by_cases c11 : (wrap64 (x9_1 + 1)) = ((rd_T54 l0_0 x8_1).f0)
        ·rw [if_pos c11] at H
         have c11b0 : ((wrap64 (x9_1 + 1)) == ((rd_T54 l0_0 x8_1).f0)) = true := beq_iff_eq.mpr c11
         have c11b1 : ((wrap64 (x9_1 + 1)) != ((rd_T54 l0_0 x8_1).f0)) = false := bne_eq_false_iff_eq.mpr c11
         clear c11
         obtain ⟨ji12, hji12⟩ : ∃ j_ : Int, (wrap64 (x8_1 + 1)) = j_ := ⟨_, rfl⟩
         (first | rw [hji12] at H | simp only [hji12] at H)
         have hji12w : (IntKind.i64.wrap (x8_1 + 1)) = ji12 := (i64_w _).trans hji12
         by_cases c13 : 0 ≤ (ji12)
         ·rw [if_pos c13] at H
          have c13b0 : decide (0 ≤ (ji12)) = true := decide_eq_true c13
          clear c13
          by_cases c14 : (ji12) < (l0_0.length : Int)
          ·rw [if_pos c14] at H
           have c14b0 : decide ((ji12) < (l0_0.length : Int)) = true := decide_eq_true c14
           clear c14
           have H' := Aside0.mk H
           clear H; have hcz15_0 := blkc3 BK132.out
           have p134 : 0 ≤ (x8_1 : Int) := of_decide_eq_true (by first | (with_reducible assumption) | assumption)
           have q134 : x8_1 < (l0_0.length : Int) := of_decide_eq_true (by first | (with_reducible assumption) | assumption)
           obtain ⟨ad134, e134, hx134_0, hx134_1⟩ := at_T54 HR0_0.out x8_1 p134 q134
           obtain rfl : ad133 = ad134 := (by injection e134)
           replace hx134_0 := (HB.out.cell (World.block_lt_of_cell? w _ hx134_0)).trans hx134_0; replace hx134_1 := (HB.out.cell (World.block_lt_of_cell? w _ hx134_1)).trans hx134_1; replace p134 := eq_true p134; replace q134 := eq_true q134
           have p135 : 0 ≤ ((ji12) : Int) := of_decide_eq_true (by first | (with_reducible assumption) | assumption)
           have q135 : (ji12) < (l0_0.length : Int) := of_decide_eq_true (by first | (with_reducible assumption) | assumption)
           obtain ⟨ad135, e135, hx135_0, hx135_1⟩ := at_T54 HR0_0.out (ji12) p135 q135
           obtain rfl : ad133 = ad135 := (by injection e135)
           replace hx135_0 := (HB.out.cell (World.block_lt_of_cell? w _ hx135_0)).trans hx135_0; replace hx135_1 := (HB.out.cell (World.block_lt_of_cell? w _ hx135_1)).trans hx135_1; replace p135 := eq_true p135; replace q135 := eq_true q135
           go_wp2
           (first | go_roundg k1 | (simp only [← hji12]; go_roundg k1))
           case measure => have := HK1.out; omega
           case rel => exact ⟨(wrap64 ((wrap64 (x7_1 + a0_1)) + ((rd_T54 l0_0 (ji12)).f1))), (ji12), (0), (wrap64 (x17_1 + 1)), (by first | rfl | (simp; done) | (simp only [← hji12] <;> (first | rfl | simp)) | (simp [*]; done)), (by first | rfl | (simp; done) | (simp only [← hji12] <;> (first | rfl | simp)) | (simp [*]; done)), (xrf), (xrf), H', ⟨by have := HK1.out; omega⟩, ⟨xK BK132⟩, ⟨xW HB⟩⟩
          ·rw [if_neg c14] at H
           exact absurd H (by simp)
         ·rw [if_neg c13] at H
          exact absurd H (by simp)
        ·rw [if_neg c11] at H
         have c11b0 : ((wrap64 (x9_1 + 1)) == ((rd_T54 l0_0 x8_1).f0)) = false := beq_eq_false_iff_ne.mpr c11
         have c11b1 : ((wrap64 (x9_1 + 1)) != ((rd_T54 l0_0 x8_1).f0)) = true := bne_iff_ne.mpr c11
         have H' := Aside0.mk H
         clear H; have hcz16_0 := blkc3 BK132.out
         have p134 : 0 ≤ (x8_1 : Int) := of_decide_eq_true (by first | (with_reducible assumption) | assumption)
         have q134 : x8_1 < (l0_0.length : Int) := of_decide_eq_true (by first | (with_reducible assumption) | assumption)
         obtain ⟨ad134, e134, hx134_0, hx134_1⟩ := at_T54 HR0_0.out x8_1 p134 q134
         obtain rfl : ad133 = ad134 := (by injection e134)
         replace hx134_0 := (HB.out.cell (World.block_lt_of_cell? w _ hx134_0)).trans hx134_0; replace hx134_1 := (HB.out.cell (World.block_lt_of_cell? w _ hx134_1)).trans hx134_1; replace p134 := eq_true p134; replace q134 := eq_true q134
         go_wp2
         go_roundg k1
         case measure => have := HK1.out; omega
         case rel => exact ⟨(wrap64 (x7_1 + a0_1)), (x8_1), (wrap64 (x9_1 + 1)), (wrap64 (x17_1 + 1)), (xrf), (xrf), (xrf), (xrf), H', ⟨by have := HK1.out; omega⟩, ⟨xK BK132⟩, ⟨xW HB⟩⟩
      ·rw [if_neg c8] at H
       exact absurd H (by simp)
     ·rw [if_neg c7] at H
      exact absurd H (by simp)
    ·rw [if_neg c6] at H
     have c6b0 : decide (x17_1 < a1) = false := decide_eq_false c6
     clear c6
     simp only [Option.some.injEq, Prod.mk.injEq] at H
     obtain ⟨rfl, rfl, rfl⟩ := H
     go_wp2
     go_ret3
     exact ⟨xer, xW HB⟩
 ·rw [if_neg c3] at H
  exact absurd H (by simp)

/-! ### clock_used: function 24 -/
def clock_used.f (l0_0 : List (S54)) (a0_1 : Int) (a0_2 : Int) (a1_0 : Int) (a1_1 : Int) (a1_2 : Int) (a1_3 : Int) (a1_4 : Int) (a1_5 : Int) (a1_6 : Int) (a1_7 : Int) (a1_8 : Bool) (a1_9 : Int) (a2 : Int) : Option (Int) := if a1_8 = true then (some 0) else (some (mx 0 (wrap64 ((wrap64 (a2 - a1_7)) - a0_2))))
set_option maxHeartbeats 8000000 in
set_option maxRecDepth 100000 in
theorem clock_used.calls (A0_0 : Option Addr) (c0_0 : Nat) (l0_0 : List (S54)) (a0_1 : Int) (a0_2 : Int) (a1_0 : Int) (a1_1 : Int) (a1_2 : Int) (a1_3 : Int) (a1_4 : Int) (a1_5 : Int) (a1_6 : Int) (a1_7 : Int) (a1_8 : Bool) (a1_9 : Int) (a2 : Int) (r : Int) (w : World) (hr0_0 : Kd.C k54 w A0_0 l0_0.length l0_0) (hc0_0 : l0_0.length ≤ c0_0) (h : clock_used.f l0_0 a0_1 a0_2 a1_0 a1_1 a1_2 a1_3 a1_4 a1_5 a1_6 a1_7 a1_8 a1_9 a2 = some r) :
    Calls Try.prog 24 #[.agg #[.slice A0_0 l0_0.length c0_0, .int .i64 a0_1, .int .i64 a0_2], .agg #[.int .i64 a1_0, .int .i64 a1_1, .int .i64 a1_2, .int .i64 a1_3, .int .i64 a1_4, .int .i64 a1_5, .int .i64 a1_6, .int .i64 a1_7, .bool a1_8, .int .i64 a1_9], .int .i64 a2] w fun e w' => e = .returned (.int .i64 r) ∧ Below w.heap.size w w' := by
 have hu24 := Try.underlying24; have hu31 := Try.underlying31; have HR0_0 := Aside0.mk hr0_0; have HC0_0 := Aside0.mk hc0_0; clear hr0_0 hc0_0; have HB := Aside0.mk (Below.refl w.heap.size w); have hss_ := @isSome_setCell
 have H : (if a1_8 = true then (some 0) else (some (mx 0 (wrap64 ((wrap64 (a2 - a1_7)) - a0_2))))) = some r := h
 clear h
 by_cases c4 : a1_8 = true
 ·subst c4
  rw [if_pos rfl] at H
  obtain rfl := Option.some.inj H
  go_enter Try.func24, Try.ntmps24
  go_wp2_with (first | ((with_reducible refine gate_dst (N := 3) rfl ?_); refine box_event ?hg (N := 3) ?hd (cs := #[.slice A0_0 l0_0.length c0_0, .int .i64 a0_1, .int .i64 a0_2]) (t := 24) ?hr ?_; (case hd => rfl); (case hg => rfl); (case hr => first | (go_simp; done) | (go_simp; rfl)); intro gb136 hg w5 hbox hb; have BK136 := Aside0.mk (hbox); have GW136 := Aside0.mk (xZ HB hg); have GE136 := Aside0.mk (xZ HB hg); replace HB := Aside0.mk (xS HB hb); clear hb hbox hg) | ((with_reducible refine gate_dst (N := 4) rfl ?_); refine box_event ?hg (N := 4) ?hd (cs := #[.int .i64 a1_0, .int .i64 a1_1, .int .i64 a1_2, .int .i64 a1_3, .int .i64 a1_4, .int .i64 a1_5, .int .i64 a1_6, .int .i64 a1_7, .bool true, .int .i64 a1_9]) (t := 31) ?hr ?_; (case hd => rfl); (case hg => rfl); (case hr => first | (go_simp; done) | (go_simp; rfl)); intro gb137 hg w6 hbox hb; have BK137 := Aside0.mk (hbox); have GW137 := Aside0.mk (xZ HB hg); have GE137 := Aside0.mk (xZ HB hg); have NB136_137 := Aside0.mk (xN BK136 hg); have NB137_136 := Aside0.mk (xM BK136 hg); replace BK136 := Aside0.mk (xB BK136 hb); replace HB := Aside0.mk (xS HB hb); clear hb hbox hg; have hnb7 := NB137_136.out; have hnc7 := NB136_137.out; have hcz8_0 := blkc10 BK137.out))
  go_ret
  exact ⟨xer, xW HB⟩
 ·replace c4 := Bool.eq_false_iff.mpr c4
  subst c4
  rw [if_neg (show ¬ (false = true) by decide)] at H
  obtain ⟨ji9, hji9⟩ : ∃ j_ : Int, (mx 0 (wrap64 ((wrap64 (a2 - a1_7)) - a0_2))) = j_ := ⟨_, rfl⟩
  (first | rw [hji9] at H | simp only [hji9] at H)
  (try (have hji9l : 0 ≤ ji9 := by (rw [← hji9]; unfold mx; (repeat' split) <;> omega)))
  (try (have hji9m : 0 ≤ ji9 := by omega))
  have hji9_ : (if 0 < (wrap64 ((wrap64 (a2 - a1_7)) - a0_2)) then (wrap64 ((wrap64 (a2 - a1_7)) - a0_2)) else 0) = ji9 := hji9
  obtain rfl := Option.some.inj H
  go_enter Try.func24, Try.ntmps24
  go_wp2_with (first | ((with_reducible refine gate_dst (N := 3) rfl ?_); refine box_event ?hg (N := 3) ?hd (cs := #[.slice A0_0 l0_0.length c0_0, .int .i64 a0_1, .int .i64 a0_2]) (t := 24) ?hr ?_; (case hd => rfl); (case hg => rfl); (case hr => first | (go_simp; done) | (go_simp; rfl)); intro gb136 hg w10 hbox hb; have BK136 := Aside0.mk (hbox); have GW136 := Aside0.mk (xZ HB hg); have GE136 := Aside0.mk (xZ HB hg); replace HB := Aside0.mk (xS HB hb); clear hb hbox hg) | ((with_reducible refine gate_dst (N := 4) rfl ?_); refine box_event ?hg (N := 4) ?hd (cs := #[.int .i64 a1_0, .int .i64 a1_1, .int .i64 a1_2, .int .i64 a1_3, .int .i64 a1_4, .int .i64 a1_5, .int .i64 a1_6, .int .i64 a1_7, .bool false, .int .i64 a1_9]) (t := 31) ?hr ?_; (case hd => rfl); (case hg => rfl); (case hr => first | (go_simp; done) | (go_simp; rfl)); intro gb137 hg w11 hbox hb; have BK137 := Aside0.mk (hbox); have GW137 := Aside0.mk (xZ HB hg); have GE137 := Aside0.mk (xZ HB hg); have NB136_137 := Aside0.mk (xN BK136 hg); have NB137_136 := Aside0.mk (xM BK136 hg); replace BK136 := Aside0.mk (xB BK136 hb); replace HB := Aside0.mk (xS HB hb); clear hb hbox hg; have hnb12 := NB137_136.out; have hnc12 := NB136_137.out; have hcz13_0 := blkc10 BK137.out; have hcz14_0 := blkc3 BK136.out))
  go_ret
  exact ⟨by first | rfl | (simp [errW_none, errW_some] <;> rfl) | (simp only [← hji9]; first | rfl | (simp [errW_none, errW_some] <;> rfl)) | (simp [*, errW_none, errW_some] <;> rfl), xW HB⟩

/-! ### clock_Valid: function 25 -/
mutual
def clock_Valid.j0 : Nat → Bool → List (S54) → Int → Int → Int → Int → Int → Int → Int → Int → Int → Int → Bool → Int → Option (Int)
  | 0, _, _, _, _, _, _, _, _, _, _, _, _, _, _ => none
  | k + 1, x39, z139a, z139b, z139c, z140a, z140b, z140c, z140d, z140e, z140f, z140g, z140h, z140i, z140j => if x39 = true then (some 4) else (clock_Valid.l0 k 0 z139a z139b z139c z140a z140b z140c z140d z140e z140f z140g z140h z140i z140j)
def clock_Valid.l0 : Nat → Int → List (S54) → Int → Int → Int → Int → Int → Int → Int → Int → Int → Int → Bool → Int → Option (Int)
  | 0, _, _, _, _, _, _, _, _, _, _, _, _, _, _ => none
  | k + 1, x40, z139a, z139b, z139c, z140a, z140b, z140c, z140d, z140e, z140f, z140g, z140h, z140i, z140j => if x40 < 2 then (if 0 ≤ x40 then (if x40 = 0 then (if z140e < 0 then (some 4) else (if z140e ≥ (z139a.length : Int) then (some 4) else (if z140c < 0 then (some 4) else (if z140c > 400 then (some 4) else (if z140a < 0 then (some 4) else (if z140a > 100000000000 then (some 4) else (clock_Valid.l0 k (wrap64 (x40 + 1)) z139a z139b z139c z140a z140b z140c z140d z140e z140f z140g z140h z140i z140j))))))) else (if z140f < 0 then (some 4) else (if z140f ≥ (z139a.length : Int) then (some 4) else (if z140d < 0 then (some 4) else (if z140d > 400 then (some 4) else (if z140b < 0 then (some 4) else (if z140b > 100000000000 then (some 4) else (clock_Valid.l0 k (wrap64 (x40 + 1)) z139a z139b z139c z140a z140b z140c z140d z140e z140f z140g z140h z140i z140j)))))))) else (none)) else (some 0)
end
def clock_Valid.f (k : Nat) (l0_0 : List (S54)) (a0_1 : Int) (a0_2 : Int) (a1_0 : Int) (a1_1 : Int) (a1_2 : Int) (a1_3 : Int) (a1_4 : Int) (a1_5 : Int) (a1_6 : Int) (a1_7 : Int) (a1_8 : Bool) (a1_9 : Int) : Option (Int) := (clock_Check.f k l0_0 a0_1 a0_2).bind fun t140 => (if t140 = 0 then (if a1_6 < 0 then (clock_Valid.j0 k true l0_0 a0_1 a0_2 a1_0 a1_1 a1_2 a1_3 a1_4 a1_5 a1_6 a1_7 a1_8 a1_9) else (if a1_6 > 1 then (clock_Valid.j0 k true l0_0 a0_1 a0_2 a1_0 a1_1 a1_2 a1_3 a1_4 a1_5 a1_6 a1_7 a1_8 a1_9) else (if a1_9 < (-1) then (clock_Valid.j0 k true l0_0 a0_1 a0_2 a1_0 a1_1 a1_2 a1_3 a1_4 a1_5 a1_6 a1_7 a1_8 a1_9) else (if a1_9 > 1 then (clock_Valid.j0 k true l0_0 a0_1 a0_2 a1_0 a1_1 a1_2 a1_3 a1_4 a1_5 a1_6 a1_7 a1_8 a1_9) else (if a1_7 < 0 then (clock_Valid.j0 k true l0_0 a0_1 a0_2 a1_0 a1_1 a1_2 a1_3 a1_4 a1_5 a1_6 a1_7 a1_8 a1_9) else (clock_Valid.j0 k (decide (a1_7 > 100000000)) l0_0 a0_1 a0_2 a1_0 a1_1 a1_2 a1_3 a1_4 a1_5 a1_6 a1_7 a1_8 a1_9)))))) else (some t140))
theorem clock_Valid.mono_l : ∀ k, (∀ y0 y1 y2 y3 y4 y5 y6 y7 y8 y9 y10 y11 y12 y13, LeO (clock_Valid.j0 k y0 y1 y2 y3 y4 y5 y6 y7 y8 y9 y10 y11 y12 y13) (clock_Valid.j0 (k + 1) y0 y1 y2 y3 y4 y5 y6 y7 y8 y9 y10 y11 y12 y13)) ∧ (∀ y0 y1 y2 y3 y4 y5 y6 y7 y8 y9 y10 y11 y12 y13, LeO (clock_Valid.l0 k y0 y1 y2 y3 y4 y5 y6 y7 y8 y9 y10 y11 y12 y13) (clock_Valid.l0 (k + 1) y0 y1 y2 y3 y4 y5 y6 y7 y8 y9 y10 y11 y12 y13))
  | 0 => ⟨fun _ _ _ _ _ _ _ _ _ _ _ _ _ _ r h => by simp [clock_Valid.j0] at h, fun _ _ _ _ _ _ _ _ _ _ _ _ _ _ r h => by simp [clock_Valid.l0] at h⟩
  | k + 1 => by
    obtain ⟨ih0, ih1⟩ := clock_Valid.mono_l k
    refine ⟨?_, ?_⟩
    · intros
      unfold clock_Valid.j0
      repeat' first
      | (with_reducible apply ih0)
      | (with_reducible apply ih1)
      | (with_reducible apply clock_Check.mono)
      | (with_reducible exact LeO.refl _)
      | (with_reducible exact LeO.none _)
      | (with_reducible refine LeO.ite ?_ ?_)
      | (with_reducible refine LeO.bind ?_ (fun _ => ?_))
      | apply ih0
      | apply ih1
      | apply clock_Check.mono
      | exact LeO.none _
      | refine LeO.ite ?_ ?_
      | refine LeO.bind ?_ (fun _ => ?_)
    · intros
      unfold clock_Valid.l0
      repeat' first
      | (with_reducible apply ih0)
      | (with_reducible apply ih1)
      | (with_reducible apply clock_Check.mono)
      | (with_reducible exact LeO.refl _)
      | (with_reducible exact LeO.none _)
      | (with_reducible refine LeO.ite ?_ ?_)
      | (with_reducible refine LeO.bind ?_ (fun _ => ?_))
      | apply ih0
      | apply ih1
      | apply clock_Check.mono
      | exact LeO.none _
      | refine LeO.ite ?_ ?_
      | refine LeO.bind ?_ (fun _ => ?_)
theorem clock_Valid.mono : ∀ a0 a1 a2 a3 a4 a5 a6 a7 a8 a9 a10 a11 a12 k, LeO (clock_Valid.f k a0 a1 a2 a3 a4 a5 a6 a7 a8 a9 a10 a11 a12) (clock_Valid.f (k + 1) a0 a1 a2 a3 a4 a5 a6 a7 a8 a9 a10 a11 a12) := by
  intro a0 a1 a2 a3 a4 a5 a6 a7 a8 a9 a10 a11 a12 k
  obtain ⟨ih0, ih1⟩ := clock_Valid.mono_l k
  unfold clock_Valid.f
  repeat' first
      | (with_reducible apply ih0)
      | (with_reducible apply ih1)
      | (with_reducible apply clock_Check.mono)
      | (with_reducible exact LeO.refl _)
      | (with_reducible exact LeO.none _)
      | (with_reducible refine LeO.ite ?_ ?_)
      | (with_reducible refine LeO.bind ?_ (fun _ => ?_))
      | apply ih0
      | apply ih1
      | apply clock_Check.mono
      | exact LeO.none _
      | refine LeO.ite ?_ ?_
      | refine LeO.bind ?_ (fun _ => ?_)
set_option maxHeartbeats 8000000 in
set_option maxRecDepth 100000 in
theorem clock_Valid.calls (k : Nat) (A0_0 : Option Addr) (c0_0 : Nat) (l0_0 : List (S54)) (a0_1 : Int) (a0_2 : Int) (a1_0 : Int) (a1_1 : Int) (a1_2 : Int) (a1_3 : Int) (a1_4 : Int) (a1_5 : Int) (a1_6 : Int) (a1_7 : Int) (a1_8 : Bool) (a1_9 : Int) (r : Int) (w : World) (hr0_0 : Kd.C k54 w A0_0 l0_0.length l0_0) (hc0_0 : l0_0.length ≤ c0_0) (h : clock_Valid.f k l0_0 a0_1 a0_2 a1_0 a1_1 a1_2 a1_3 a1_4 a1_5 a1_6 a1_7 a1_8 a1_9 = some r) :
    Calls Try.prog 25 #[.agg #[.slice A0_0 l0_0.length c0_0, .int .i64 a0_1, .int .i64 a0_2], .agg #[.int .i64 a1_0, .int .i64 a1_1, .int .i64 a1_2, .int .i64 a1_3, .int .i64 a1_4, .int .i64 a1_5, .int .i64 a1_6, .int .i64 a1_7, .bool a1_8, .int .i64 a1_9]] w fun e w' => e = .returned (.int .i64 r) ∧ Below w.heap.size w w' := by
 have hu24 := Try.underlying24; have hu31 := Try.underlying31; have HR0_0 := Aside0.mk hr0_0; have HC0_0 := Aside0.mk hc0_0; clear hr0_0 hc0_0; have HB := Aside0.mk (Below.refl w.heap.size w); have hss_ := @isSome_setCell
 have H : ((clock_Check.f k l0_0 a0_1 a0_2).bind fun t140 => (if t140 = 0 then (if a1_6 < 0 then (clock_Valid.j0 k true l0_0 a0_1 a0_2 a1_0 a1_1 a1_2 a1_3 a1_4 a1_5 a1_6 a1_7 a1_8 a1_9) else (if a1_6 > 1 then (clock_Valid.j0 k true l0_0 a0_1 a0_2 a1_0 a1_1 a1_2 a1_3 a1_4 a1_5 a1_6 a1_7 a1_8 a1_9) else (if a1_9 < (-1) then (clock_Valid.j0 k true l0_0 a0_1 a0_2 a1_0 a1_1 a1_2 a1_3 a1_4 a1_5 a1_6 a1_7 a1_8 a1_9) else (if a1_9 > 1 then (clock_Valid.j0 k true l0_0 a0_1 a0_2 a1_0 a1_1 a1_2 a1_3 a1_4 a1_5 a1_6 a1_7 a1_8 a1_9) else (if a1_7 < 0 then (clock_Valid.j0 k true l0_0 a0_1 a0_2 a1_0 a1_1 a1_2 a1_3 a1_4 a1_5 a1_6 a1_7 a1_8 a1_9) else (clock_Valid.j0 k (decide (a1_7 > 100000000)) l0_0 a0_1 a0_2 a1_0 a1_1 a1_2 a1_3 a1_4 a1_5 a1_6 a1_7 a1_8 a1_9)))))) else (some t140))) = some r := h
 clear h; replace H := Option.bind_eq_some_iff.mp H
 obtain ⟨t140, A30, H⟩ := H
 try dsimp only at H
 have A3 := Aside0.mk A30; clear A30
 by_cases c4 : t140 = 0
 ·rw [if_pos c4] at H
  have c4b0 : (t140 == 0) = true := beq_iff_eq.mpr c4
  have c4b1 : (t140 != 0) = false := bne_eq_false_iff_eq.mpr c4
  clear c4; have HC5 := Aside0.mk H; clear H
  go_enter Try.func25, Try.ntmps25
  go_upto_region 4 with (first | ((with_reducible refine gate_dst (N := 2) rfl ?_); (try (refine gate_guard (by rfl) ?_; dsimp only)); refine box_event ?hg (N := 2) ?hd (cs := #[.slice A0_0 l0_0.length c0_0, .int .i64 a0_1, .int .i64 a0_2]) (t := 24) ?hr ?_; (case hd => rfl); (case hg => rfl); (case hr => first | (go_simp; done) | (go_simp; rfl)); intro gb138 hg w6 hbox hb; have BK138 := Aside0.mk (hbox); have GW138 := Aside0.mk (xZ HB hg); have GE138 := Aside0.mk (xZ HB hg); replace HB := Aside0.mk (xS HB hb); clear hb hbox hg) | ((with_reducible refine gate_dst (N := 3) rfl ?_); (try (refine gate_guard (by rfl) ?_; dsimp only)); refine box_event ?hg (N := 3) ?hd (cs := #[.int .i64 a1_0, .int .i64 a1_1, .int .i64 a1_2, .int .i64 a1_3, .int .i64 a1_4, .int .i64 a1_5, .int .i64 a1_6, .int .i64 a1_7, .bool a1_8, .int .i64 a1_9]) (t := 31) ?hr ?_; (case hd => rfl); (case hg => rfl); (case hr => first | (go_simp; done) | (go_simp; rfl)); intro gb139 hg w7 hbox hb; have BK139 := Aside0.mk (hbox); have GW139 := Aside0.mk (xZ HB hg); have GE139 := Aside0.mk (xZ HB hg); have NB138_139 := Aside0.mk (xN BK138 hg); have NB139_138 := Aside0.mk (xM BK138 hg); replace BK138 := Aside0.mk (xB BK138 hb); replace HB := Aside0.mk (xS HB hb); clear hb hbox hg; have hnb8 := NB138_139.out; have hnc8 := NB139_138.out; have hcz9_0 := blkc3 BK138.out) | (go_at_call 8; (with_reducible refine (clock_Check.calls k _ _ l0_0 a0_1 a0_2 t140 _ ?side1 ?side2 A3.out).mono ?_); (case side1 => exact xC (Kd.C_below HR0_0.out HB.out)); (case side2 => exact HC0_0.out); rintro e w10 ⟨rfl, hb⟩; replace BK138 := Aside0.mk (xB BK138 hb); replace BK139 := Aside0.mk (xB BK139 hb); replace HB := Aside0.mk (xS HB hb); (try clear hb); (try clear hb2); (try clear hk); (try clear hi)))
  repeat (go_quiet (first | ((with_reducible refine gate_dst (N := 2) rfl ?_); (try (refine gate_guard (by rfl) ?_; dsimp only)); refine box_event ?hg (N := 2) ?hd (cs := #[.slice A0_0 l0_0.length c0_0, .int .i64 a0_1, .int .i64 a0_2]) (t := 24) ?hr ?_; (case hd => rfl); (case hg => rfl); (case hr => first | (go_simp; done) | (go_simp; rfl)); intro gb138 hg w6 hbox hb; have BK138 := Aside0.mk (hbox); have GW138 := Aside0.mk (xZ HB hg); have GE138 := Aside0.mk (xZ HB hg); replace HB := Aside0.mk (xS HB hb); clear hb hbox hg) | ((with_reducible refine gate_dst (N := 3) rfl ?_); (try (refine gate_guard (by rfl) ?_; dsimp only)); refine box_event ?hg (N := 3) ?hd (cs := #[.int .i64 a1_0, .int .i64 a1_1, .int .i64 a1_2, .int .i64 a1_3, .int .i64 a1_4, .int .i64 a1_5, .int .i64 a1_6, .int .i64 a1_7, .bool a1_8, .int .i64 a1_9]) (t := 31) ?hr ?_; (case hd => rfl); (case hg => rfl); (case hr => first | (go_simp; done) | (go_simp; rfl)); intro gb139 hg w7 hbox hb; have BK139 := Aside0.mk (hbox); have GW139 := Aside0.mk (xZ HB hg); have GE139 := Aside0.mk (xZ HB hg); have NB138_139 := Aside0.mk (xN BK138 hg); have NB139_138 := Aside0.mk (xM BK138 hg); replace BK138 := Aside0.mk (xB BK138 hb); replace HB := Aside0.mk (xS HB hb); clear hb hbox hg; have hcz9_0 := blkc3 BK138.out) | (go_at_call 8; (with_reducible refine (clock_Check.calls k _ _ l0_0 a0_1 a0_2 t140 _ ?side1 ?side2 A3.out).mono ?_); (case side1 => exact xC (Kd.C_below HR0_0.out HB.out)); (case side2 => exact HC0_0.out); rintro e w10 ⟨rfl, hb⟩; replace BK138 := Aside0.mk (xB BK138 hb); replace BK139 := Aside0.mk (xB BK139 hb); replace HB := Aside0.mk (xS HB hb); (try clear hb); (try clear hb2); (try clear hk); (try clear hi))); go_upto_region 4 with (first | ((with_reducible refine gate_dst (N := 2) rfl ?_); (try (refine gate_guard (by rfl) ?_; dsimp only)); refine box_event ?hg (N := 2) ?hd (cs := #[.slice A0_0 l0_0.length c0_0, .int .i64 a0_1, .int .i64 a0_2]) (t := 24) ?hr ?_; (case hd => rfl); (case hg => rfl); (case hr => first | (go_simp; done) | (go_simp; rfl)); intro gb138 hg w6 hbox hb; have BK138 := Aside0.mk (hbox); have GW138 := Aside0.mk (xZ HB hg); have GE138 := Aside0.mk (xZ HB hg); replace HB := Aside0.mk (xS HB hb); clear hb hbox hg) | ((with_reducible refine gate_dst (N := 3) rfl ?_); (try (refine gate_guard (by rfl) ?_; dsimp only)); refine box_event ?hg (N := 3) ?hd (cs := #[.int .i64 a1_0, .int .i64 a1_1, .int .i64 a1_2, .int .i64 a1_3, .int .i64 a1_4, .int .i64 a1_5, .int .i64 a1_6, .int .i64 a1_7, .bool a1_8, .int .i64 a1_9]) (t := 31) ?hr ?_; (case hd => rfl); (case hg => rfl); (case hr => first | (go_simp; done) | (go_simp; rfl)); intro gb139 hg w7 hbox hb; have BK139 := Aside0.mk (hbox); have GW139 := Aside0.mk (xZ HB hg); have GE139 := Aside0.mk (xZ HB hg); have NB138_139 := Aside0.mk (xN BK138 hg); have NB139_138 := Aside0.mk (xM BK138 hg); replace BK138 := Aside0.mk (xB BK138 hb); replace HB := Aside0.mk (xS HB hb); clear hb hbox hg; have hcz9_0 := blkc3 BK138.out) | (go_at_call 8; (with_reducible refine (clock_Check.calls k _ _ l0_0 a0_1 a0_2 t140 _ ?side1 ?side2 A3.out).mono ?_); (case side1 => exact xC (Kd.C_below HR0_0.out HB.out)); (case side2 => exact HC0_0.out); rintro e w10 ⟨rfl, hb⟩; replace BK138 := Aside0.mk (xB BK138 hb); replace BK139 := Aside0.mk (xB BK139 hb); replace HB := Aside0.mk (xS HB hb); (try clear hb); (try clear hb2); (try clear hk); (try clear hi))))
  (try have hq139_138 := NB139_138.out); (try have hq138_139 := NB138_139.out)
  (try simp only [Act.put, List.setIfInBounds_toArray, List.set_cons_zero, List.set_cons_succ])
  go_cut [39] (fun vs39 wc => ∃ (kq : Nat) (x39_4 : Bool), vs39 = .bool x39_4 ∧ Aside0 (clock_Valid.j0 kq x39_4 l0_0 a0_1 a0_2 a1_0 a1_1 a1_2 a1_3 a1_4 a1_5 a1_6 a1_7 a1_8 a1_9 = some r) ∧ Aside0 (kq ≤ k) ∧ Aside0 (wc.heap[gb138]? = some (.cells #[(.slice A0_0 l0_0.length c0_0), .int .i64 a0_1, .int .i64 a0_2] 24 (0, 0))) ∧ Aside0 (wc.heap[gb139]? = some (.cells #[.int .i64 a1_0, .int .i64 a1_1, .int .i64 a1_2, .int .i64 a1_3, .int .i64 a1_4, .int .i64 a1_5, .int .i64 a1_6, .int .i64 a1_7, .bool a1_8, .int .i64 a1_9] 31 (0, 0))) ∧ Aside0 (Below w.heap.size w wc))
  case first =>
   have H := HC5.out; clear HC5
   by_cases c11 : a1_6 < 0
   ·rw [if_pos c11] at H
    have c11b0 : decide (a1_6 < 0) = true := decide_eq_true c11
    clear c11
    (first | rw [c11b0] | (simp only [i64_w, i32_w]; rw [c11b0]) | skip)
    have H' := Aside0.mk H
    clear H; have hcz13_0 := blkc10 BK139.out
    go_wp2
    repeat (go_quiet (fail); try go_wp2)
    go_meet
    case rel => exact ⟨_, (true), (xrf), H', ⟨by first | omega | exact Nat.le_refl _⟩, ⟨xK BK138⟩, ⟨xK BK139⟩, ⟨xW HB⟩⟩
   ·rw [if_neg c11] at H
    have c11b0 : decide (a1_6 < 0) = false := decide_eq_false c11
    clear c11
    (first | rw [c11b0] | (simp only [i64_w, i32_w]; rw [c11b0]) | skip)
    by_cases c14 : a1_6 > 1
    ·rw [if_pos c14] at H
     have c14b0 : decide (1 < a1_6) = true := decide_eq_true c14
     clear c14
     have H' := Aside0.mk H
     clear H; have hcz16_0 := blkc10 BK139.out
     go_wp2
     repeat (go_quiet (fail); try go_wp2)
     go_meet
     case rel => exact ⟨_, (true), (xrf), H', ⟨by first | omega | exact Nat.le_refl _⟩, ⟨xK BK138⟩, ⟨xK BK139⟩, ⟨xW HB⟩⟩
    ·rw [if_neg c14] at H
     have c14b0 : decide (1 < a1_6) = false := decide_eq_false c14
     clear c14
     by_cases c17 : a1_9 < (-1)
     ·rw [if_pos c17] at H
      have c17b0 : decide (a1_9 < (-1)) = true := decide_eq_true c17
      clear c17
      have H' := Aside0.mk H
      clear H; have hcz19_0 := blkc10 BK139.out
      go_wp2
      repeat (go_quiet (fail); try go_wp2)
      go_meet
      case rel => exact ⟨_, (true), (xrf), H', ⟨by first | omega | exact Nat.le_refl _⟩, ⟨xK BK138⟩, ⟨xK BK139⟩, ⟨xW HB⟩⟩
     ·rw [if_neg c17] at H
      have c17b0 : decide (a1_9 < (-1)) = false := decide_eq_false c17
      clear c17
      by_cases c20 : a1_9 > 1
      ·rw [if_pos c20] at H
       have c20b0 : decide (1 < a1_9) = true := decide_eq_true c20
       clear c20
       have H' := Aside0.mk H
       clear H; have hcz22_0 := blkc10 BK139.out
       go_wp2
       repeat (go_quiet (fail); try go_wp2)
       go_meet
       case rel => exact ⟨_, (true), (xrf), H', ⟨by first | omega | exact Nat.le_refl _⟩, ⟨xK BK138⟩, ⟨xK BK139⟩, ⟨xW HB⟩⟩
      ·rw [if_neg c20] at H
       have c20b0 : decide (1 < a1_9) = false := decide_eq_false c20
       clear c20
       by_cases c23 : a1_7 < 0
       ·rw [if_pos c23] at H
        have c23b0 : decide (a1_7 < 0) = true := decide_eq_true c23
        clear c23
        have H' := Aside0.mk H
        clear H; have hcz25_0 := blkc10 BK139.out
        go_wp2
        repeat (go_quiet (fail); try go_wp2)
        go_meet
        case rel => exact ⟨_, (true), (xrf), H', ⟨by first | omega | exact Nat.le_refl _⟩, ⟨xK BK138⟩, ⟨xK BK139⟩, ⟨xW HB⟩⟩
       ·rw [if_neg c23] at H
        have c23b0 : decide (a1_7 < 0) = false := decide_eq_false c23
        clear c23
        have H' := Aside0.mk H
        clear H; have hcz27_0 := blkc10 BK139.out
        go_wp2
        repeat (go_quiet (fail); try go_wp2)
        go_meet
        case rel => exact ⟨_, (decide (a1_7 > 100000000)), (xrf), H', ⟨by first | omega | exact Nat.le_refl _⟩, ⟨xK BK138⟩, ⟨xK BK139⟩, ⟨xW HB⟩⟩
  case rest =>
   clear HC5; (try clear p2)
   obtain ⟨kq, x39_4, rfl, HA, HJ4, BK138, BK139, HB⟩ := hcut
   cases kq with
   | zero => exact absurd HA.out (by simp [clock_Valid.j0])
   | succ kj4 =>
    have H := HA.out; clear HA
    simp only [clock_Valid.j0] at H
    by_cases c28 : x39_4 = true
    ·subst c28
     rw [if_pos rfl] at H
     obtain rfl := Option.some.inj H
     go_wp2
     repeat (go_quiet (fail); try go_wp2)
     go_ret
     exact ⟨xer, xW HB⟩
    ·replace c28 := Bool.eq_false_iff.mpr c28
     subst c28
     rw [if_neg (show ¬ (false = true) by decide)] at H
     have H' := Aside0.mk H
     clear H
     go_wp2
     repeat (go_quiet (fail); try go_wp2)
     go_loopg [40] kj4 (fun kq vs40 w' => ∃ (x40_2 : Int), vs40 = .int .i64 x40_2 ∧ Aside0 (clock_Valid.l0 kq x40_2 l0_0 a0_1 a0_2 a1_0 a1_1 a1_2 a1_3 a1_4 a1_5 a1_6 a1_7 a1_8 a1_9 = some r) ∧ Aside0 (kq ≤ kj4) ∧ Aside0 (w'.heap[gb138]? = some (.cells #[(.slice A0_0 l0_0.length c0_0), .int .i64 a0_1, .int .i64 a0_2] 24 (0, 0))) ∧ Aside0 (w'.heap[gb139]? = some (.cells #[.int .i64 a1_0, .int .i64 a1_1, .int .i64 a1_2, .int .i64 a1_3, .int .i64 a1_4, .int .i64 a1_5, .int .i64 a1_6, .int .i64 a1_7, .bool a1_8, .int .i64 a1_9] 31 (0, 0))) ∧ Aside0 (Below w.heap.size w w'))
     case atStart => exact ⟨(0), (xrf), H', ⟨Nat.le_refl _⟩, ⟨xK BK138⟩, ⟨xK BK139⟩, ⟨xW HB⟩⟩
     case round =>
      clear H'; (try clear p2); (try clear p2)
      obtain ⟨x40_2, rfl, HA, HK2, BK138, BK139, HB⟩ := hrel
      cases gk with
      | zero => exact absurd HA.out (by simp [clock_Valid.l0])
      | succ k2 =>
       have H := HA.out; clear HA
       simp only [clock_Valid.l0] at H
       by_cases c29 : x40_2 < 2
       ·rw [if_pos c29] at H
        have c29b0 : decide (x40_2 < 2) = true := decide_eq_true c29
        clear c29
        by_cases c30 : 0 ≤ x40_2
        ·rw [if_pos c30] at H
         have c30b0 : decide (0 ≤ x40_2) = true := decide_eq_true c30
         clear c30
         by_cases c31 : x40_2 = 0
         ·rw [if_pos c31] at H
          have c31b0 : (x40_2 == 0) = true := beq_iff_eq.mpr c31
          have c31b1 : (x40_2 != 0) = false := bne_eq_false_iff_eq.mpr c31
          clear c31; obtain ⟨c32b, c32g, c32c, c32d⟩ := xar (x40_2 : Int) 0 0 2
          by_cases c33 : a1_4 < 0
          ·rw [if_pos c33] at H
           have c33b0 : decide (a1_4 < 0) = true := decide_eq_true c33
           clear c33
           obtain rfl := Option.some.inj H
           have hcz35_0 := blkc10 BK139.out
           go_wp2
           repeat (go_quiet (fail); try go_wp2)
           go_ret
           exact ⟨xer, xW HB⟩
          ·rw [if_neg c33] at H
           have c33b0 : decide (a1_4 < 0) = false := decide_eq_false c33
           clear c33; obtain ⟨c36b, c36g, c36c, c36d⟩ := xar (x40_2 : Int) 0 0 2
           by_cases c37 : a1_4 ≥ (l0_0.length : Int)
           ·rw [if_pos c37] at H
            have c37b0 : decide ((l0_0.length : Int) ≤ a1_4) = true := decide_eq_true c37
            clear c37
            obtain rfl := Option.some.inj H
            have hcz39_0 := blkc10 BK139.out; have hcz40_0 := blkc3 BK138.out
            go_wp2
            repeat (go_quiet (fail); try go_wp2)
            go_ret
            exact ⟨xer, xW HB⟩
           ·rw [if_neg c37] at H
            have c37b0 : decide ((l0_0.length : Int) ≤ a1_4) = false := decide_eq_false c37
            clear c37; obtain ⟨c41b, c41g, c41c, c41d⟩ := xar (x40_2 : Int) 0 0 2
            by_cases c42 : a1_2 < 0
            ·rw [if_pos c42] at H
             have c42b0 : decide (a1_2 < 0) = true := decide_eq_true c42
             clear c42
             obtain rfl := Option.some.inj H
             have hcz44_0 := blkc10 BK139.out; have hcz45_0 := blkc3 BK138.out
             go_wp2
             repeat (go_quiet (fail); try go_wp2)
             go_ret
             exact ⟨xer, xW HB⟩
            ·rw [if_neg c42] at H
             have c42b0 : decide (a1_2 < 0) = false := decide_eq_false c42
             clear c42; obtain ⟨c46b, c46g, c46c, c46d⟩ := xar (x40_2 : Int) 0 0 2
             by_cases c47 : a1_2 > 400
             ·rw [if_pos c47] at H
              have c47b0 : decide (400 < a1_2) = true := decide_eq_true c47
              clear c47
              obtain rfl := Option.some.inj H
              have hcz49_0 := blkc10 BK139.out; have hcz50_0 := blkc3 BK138.out
              go_wp2
              repeat (go_quiet (fail); try go_wp2)
              go_ret
              exact ⟨xer, xW HB⟩
             ·rw [if_neg c47] at H
              have c47b0 : decide (400 < a1_2) = false := decide_eq_false c47
              clear c47; obtain ⟨c51b, c51g, c51c, c51d⟩ := xar (x40_2 : Int) 0 0 2
              by_cases c52 : a1_0 < 0
              ·rw [if_pos c52] at H
               have c52b0 : decide (a1_0 < 0) = true := decide_eq_true c52
               clear c52
               obtain rfl := Option.some.inj H
               have hcz54_0 := blkc10 BK139.out; have hcz55_0 := blkc3 BK138.out
               go_wp2
               repeat (go_quiet (fail); try go_wp2)
               go_ret
               exact ⟨xer, xW HB⟩
              ·rw [if_neg c52] at H
               have c52b0 : decide (a1_0 < 0) = false := decide_eq_false c52
               clear c52; obtain ⟨c56b, c56g, c56c, c56d⟩ := xar (x40_2 : Int) 0 0 2
               by_cases c57 : a1_0 > 100000000000
               ·rw [if_pos c57] at H
                have c57b0 : decide (100000000000 < a1_0) = true := decide_eq_true c57
                clear c57
                obtain rfl := Option.some.inj H
                have hcz59_0 := blkc10 BK139.out; have hcz60_0 := blkc3 BK138.out
                go_wp2
                repeat (go_quiet (fail); try go_wp2)
                go_ret
                exact ⟨xer, xW HB⟩
               ·rw [if_neg c57] at H
                have c57b0 : decide (100000000000 < a1_0) = false := decide_eq_false c57
                clear c57
                have H' := Aside0.mk H
                clear H; have hcz62_0 := blkc10 BK139.out; have hcz63_0 := blkc3 BK138.out
                go_wp2
                repeat (go_quiet (fail); try go_wp2)
                go_roundg k2
                case measure => have := HJ4.out; have := HK2.out; omega
                case rel => exact ⟨(wrap64 (x40_2 + 1)), (xrf), H', ⟨by have := HJ4.out; have := HK2.out; omega⟩, ⟨xK BK138⟩, ⟨xK BK139⟩, ⟨xW HB⟩⟩
         ·rw [if_neg c31] at H
          have c31b0 : (x40_2 == 0) = false := beq_eq_false_iff_ne.mpr c31
          have c31b1 : (x40_2 != 0) = true := bne_iff_ne.mpr c31
          obtain ⟨c64b, c64g, c64c, c64d⟩ := xar (x40_2 : Int) 1 1 2
          by_cases c65 : a1_5 < 0
          ·rw [if_pos c65] at H
           have c65b0 : decide (a1_5 < 0) = true := decide_eq_true c65
           clear c65
           obtain rfl := Option.some.inj H
           have hcz67_0 := blkc10 BK139.out
           go_wp2
           repeat (go_quiet (fail); try go_wp2)
           go_ret
           exact ⟨xer, xW HB⟩
          ·rw [if_neg c65] at H
           have c65b0 : decide (a1_5 < 0) = false := decide_eq_false c65
           clear c65; obtain ⟨c68b, c68g, c68c, c68d⟩ := xar (x40_2 : Int) 1 1 2
           by_cases c69 : a1_5 ≥ (l0_0.length : Int)
           ·rw [if_pos c69] at H
            have c69b0 : decide ((l0_0.length : Int) ≤ a1_5) = true := decide_eq_true c69
            clear c69
            obtain rfl := Option.some.inj H
            have hcz71_0 := blkc10 BK139.out; have hcz72_0 := blkc3 BK138.out
            go_wp2
            repeat (go_quiet (fail); try go_wp2)
            go_ret
            exact ⟨xer, xW HB⟩
           ·rw [if_neg c69] at H
            have c69b0 : decide ((l0_0.length : Int) ≤ a1_5) = false := decide_eq_false c69
            clear c69; obtain ⟨c73b, c73g, c73c, c73d⟩ := xar (x40_2 : Int) 1 1 2
            by_cases c74 : a1_3 < 0
            ·rw [if_pos c74] at H
             have c74b0 : decide (a1_3 < 0) = true := decide_eq_true c74
             clear c74
             obtain rfl := Option.some.inj H
             have hcz76_0 := blkc10 BK139.out; have hcz77_0 := blkc3 BK138.out
             go_wp2
             repeat (go_quiet (fail); try go_wp2)
             go_ret
             exact ⟨xer, xW HB⟩
            ·rw [if_neg c74] at H
             have c74b0 : decide (a1_3 < 0) = false := decide_eq_false c74
             clear c74; obtain ⟨c78b, c78g, c78c, c78d⟩ := xar (x40_2 : Int) 1 1 2
             by_cases c79 : a1_3 > 400
             ·rw [if_pos c79] at H
              have c79b0 : decide (400 < a1_3) = true := decide_eq_true c79
              clear c79
              obtain rfl := Option.some.inj H
              have hcz81_0 := blkc10 BK139.out; have hcz82_0 := blkc3 BK138.out
              go_wp2
              repeat (go_quiet (fail); try go_wp2)
              go_ret
              exact ⟨xer, xW HB⟩
             ·rw [if_neg c79] at H
              have c79b0 : decide (400 < a1_3) = false := decide_eq_false c79
              clear c79; obtain ⟨c83b, c83g, c83c, c83d⟩ := xar (x40_2 : Int) 1 1 2
              by_cases c84 : a1_1 < 0
              ·rw [if_pos c84] at H
               have c84b0 : decide (a1_1 < 0) = true := decide_eq_true c84
               clear c84
               obtain rfl := Option.some.inj H
               have hcz86_0 := blkc10 BK139.out; have hcz87_0 := blkc3 BK138.out
               go_wp2
               repeat (go_quiet (fail); try go_wp2)
               go_ret
               exact ⟨xer, xW HB⟩
              ·rw [if_neg c84] at H
               have c84b0 : decide (a1_1 < 0) = false := decide_eq_false c84
               clear c84; obtain ⟨c88b, c88g, c88c, c88d⟩ := xar (x40_2 : Int) 1 1 2
               by_cases c89 : a1_1 > 100000000000
               ·rw [if_pos c89] at H
                have c89b0 : decide (100000000000 < a1_1) = true := decide_eq_true c89
                clear c89
                obtain rfl := Option.some.inj H
                have hcz91_0 := blkc10 BK139.out; have hcz92_0 := blkc3 BK138.out
                go_wp2
                repeat (go_quiet (fail); try go_wp2)
                go_ret
                exact ⟨xer, xW HB⟩
               ·rw [if_neg c89] at H
                have c89b0 : decide (100000000000 < a1_1) = false := decide_eq_false c89
                clear c89
                have H' := Aside0.mk H
                clear H; have hcz94_0 := blkc10 BK139.out; have hcz95_0 := blkc3 BK138.out
                go_wp2
                repeat (go_quiet (fail); try go_wp2)
                go_roundg k2
                case measure => have := HJ4.out; have := HK2.out; omega
                case rel => exact ⟨(wrap64 (x40_2 + 1)), (xrf), H', ⟨by have := HJ4.out; have := HK2.out; omega⟩, ⟨xK BK138⟩, ⟨xK BK139⟩, ⟨xW HB⟩⟩
        ·rw [if_neg c30] at H
         exact absurd H (by simp)
       ·rw [if_neg c29] at H
        have c29b0 : decide (x40_2 < 2) = false := decide_eq_false c29
        clear c29
        obtain rfl := Option.some.inj H
        go_wp2
        repeat (go_quiet (fail); try go_wp2)
        go_ret
        exact ⟨xer, xW HB⟩
 ·rw [if_neg c4] at H
  have c4b0 : (t140 == 0) = false := beq_eq_false_iff_ne.mpr c4
  have c4b1 : (t140 != 0) = true := bne_iff_ne.mpr c4
  obtain rfl := Option.some.inj H
  go_enter Try.func25, Try.ntmps25
  go_wp2_with (first | ((with_reducible refine gate_dst (N := 2) rfl ?_); (try (refine gate_guard (by rfl) ?_; dsimp only)); refine box_event ?hg (N := 2) ?hd (cs := #[.slice A0_0 l0_0.length c0_0, .int .i64 a0_1, .int .i64 a0_2]) (t := 24) ?hr ?_; (case hd => rfl); (case hg => rfl); (case hr => first | (go_simp; done) | (go_simp; rfl)); intro gb138 hg w96 hbox hb; have BK138 := Aside0.mk (hbox); have GW138 := Aside0.mk (xZ HB hg); have GE138 := Aside0.mk (xZ HB hg); replace HB := Aside0.mk (xS HB hb); clear hb hbox hg) | ((with_reducible refine gate_dst (N := 3) rfl ?_); (try (refine gate_guard (by rfl) ?_; dsimp only)); refine box_event ?hg (N := 3) ?hd (cs := #[.int .i64 a1_0, .int .i64 a1_1, .int .i64 a1_2, .int .i64 a1_3, .int .i64 a1_4, .int .i64 a1_5, .int .i64 a1_6, .int .i64 a1_7, .bool a1_8, .int .i64 a1_9]) (t := 31) ?hr ?_; (case hd => rfl); (case hg => rfl); (case hr => first | (go_simp; done) | (go_simp; rfl)); intro gb139 hg w97 hbox hb; have BK139 := Aside0.mk (hbox); have GW139 := Aside0.mk (xZ HB hg); have GE139 := Aside0.mk (xZ HB hg); have NB138_139 := Aside0.mk (xN BK138 hg); have NB139_138 := Aside0.mk (xM BK138 hg); replace BK138 := Aside0.mk (xB BK138 hb); replace HB := Aside0.mk (xS HB hb); clear hb hbox hg; have hnb98 := NB138_139.out; have hnc98 := NB139_138.out; have hcz99_0 := blkc3 BK138.out) | (go_at_call 8; (with_reducible refine (clock_Check.calls k _ _ l0_0 a0_1 a0_2 t140 _ ?side1 ?side2 A3.out).mono ?_); (case side1 => exact xC (Kd.C_below HR0_0.out HB.out)); (case side2 => exact HC0_0.out); rintro e w100 ⟨rfl, hb⟩; replace BK138 := Aside0.mk (xB BK138 hb); replace BK139 := Aside0.mk (xB BK139 hb); replace HB := Aside0.mk (xS HB hb); (try clear hb); (try clear hb2); (try clear hk); (try clear hi)))
  repeat (go_quiet (first | ((with_reducible refine gate_dst (N := 2) rfl ?_); (try (refine gate_guard (by rfl) ?_; dsimp only)); refine box_event ?hg (N := 2) ?hd (cs := #[.slice A0_0 l0_0.length c0_0, .int .i64 a0_1, .int .i64 a0_2]) (t := 24) ?hr ?_; (case hd => rfl); (case hg => rfl); (case hr => first | (go_simp; done) | (go_simp; rfl)); intro gb138 hg w96 hbox hb; have BK138 := Aside0.mk (hbox); have GW138 := Aside0.mk (xZ HB hg); have GE138 := Aside0.mk (xZ HB hg); replace HB := Aside0.mk (xS HB hb); clear hb hbox hg) | ((with_reducible refine gate_dst (N := 3) rfl ?_); (try (refine gate_guard (by rfl) ?_; dsimp only)); refine box_event ?hg (N := 3) ?hd (cs := #[.int .i64 a1_0, .int .i64 a1_1, .int .i64 a1_2, .int .i64 a1_3, .int .i64 a1_4, .int .i64 a1_5, .int .i64 a1_6, .int .i64 a1_7, .bool a1_8, .int .i64 a1_9]) (t := 31) ?hr ?_; (case hd => rfl); (case hg => rfl); (case hr => first | (go_simp; done) | (go_simp; rfl)); intro gb139 hg w97 hbox hb; have BK139 := Aside0.mk (hbox); have GW139 := Aside0.mk (xZ HB hg); have GE139 := Aside0.mk (xZ HB hg); have NB138_139 := Aside0.mk (xN BK138 hg); have NB139_138 := Aside0.mk (xM BK138 hg); replace BK138 := Aside0.mk (xB BK138 hb); replace HB := Aside0.mk (xS HB hb); clear hb hbox hg; have hcz99_0 := blkc3 BK138.out) | (go_at_call 8; (with_reducible refine (clock_Check.calls k _ _ l0_0 a0_1 a0_2 t140 _ ?side1 ?side2 A3.out).mono ?_); (case side1 => exact xC (Kd.C_below HR0_0.out HB.out)); (case side2 => exact HC0_0.out); rintro e w100 ⟨rfl, hb⟩; replace BK138 := Aside0.mk (xB BK138 hb); replace BK139 := Aside0.mk (xB BK139 hb); replace HB := Aside0.mk (xS HB hb); (try clear hb); (try clear hb2); (try clear hk); (try clear hi))); try go_wp2_with (first | ((with_reducible refine gate_dst (N := 2) rfl ?_); (try (refine gate_guard (by rfl) ?_; dsimp only)); refine box_event ?hg (N := 2) ?hd (cs := #[.slice A0_0 l0_0.length c0_0, .int .i64 a0_1, .int .i64 a0_2]) (t := 24) ?hr ?_; (case hd => rfl); (case hg => rfl); (case hr => first | (go_simp; done) | (go_simp; rfl)); intro gb138 hg w96 hbox hb; have BK138 := Aside0.mk (hbox); have GW138 := Aside0.mk (xZ HB hg); have GE138 := Aside0.mk (xZ HB hg); replace HB := Aside0.mk (xS HB hb); clear hb hbox hg) | ((with_reducible refine gate_dst (N := 3) rfl ?_); (try (refine gate_guard (by rfl) ?_; dsimp only)); refine box_event ?hg (N := 3) ?hd (cs := #[.int .i64 a1_0, .int .i64 a1_1, .int .i64 a1_2, .int .i64 a1_3, .int .i64 a1_4, .int .i64 a1_5, .int .i64 a1_6, .int .i64 a1_7, .bool a1_8, .int .i64 a1_9]) (t := 31) ?hr ?_; (case hd => rfl); (case hg => rfl); (case hr => first | (go_simp; done) | (go_simp; rfl)); intro gb139 hg w97 hbox hb; have BK139 := Aside0.mk (hbox); have GW139 := Aside0.mk (xZ HB hg); have GE139 := Aside0.mk (xZ HB hg); have NB138_139 := Aside0.mk (xN BK138 hg); have NB139_138 := Aside0.mk (xM BK138 hg); replace BK138 := Aside0.mk (xB BK138 hb); replace HB := Aside0.mk (xS HB hb); clear hb hbox hg; have hcz99_0 := blkc3 BK138.out) | (go_at_call 8; (with_reducible refine (clock_Check.calls k _ _ l0_0 a0_1 a0_2 t140 _ ?side1 ?side2 A3.out).mono ?_); (case side1 => exact xC (Kd.C_below HR0_0.out HB.out)); (case side2 => exact HC0_0.out); rintro e w100 ⟨rfl, hb⟩; replace BK138 := Aside0.mk (xB BK138 hb); replace BK139 := Aside0.mk (xB BK139 hb); replace HB := Aside0.mk (xS HB hb); (try clear hb); (try clear hb2); (try clear hk); (try clear hi))))
  go_ret
  exact ⟨xer, xW HB⟩

/-! ### clock_Look: function 13 -/
def clock_Look.j0 : Nat → Int → Bool → List (S54) → Int → Int → Int → Int → Int → Int → Int → Int → Int → Int → Bool → Int → Option (Int × Int × Int × Int × Int × Int × Int × Int × Bool × Int × Int)
  | 0, _, _, _, _, _, _, _, _, _, _, _, _, _, _, _ => none
  | k + 1, x2, x23, z142a, z142b, z142c, z143a, z143b, z143c, z143d, z143e, z143f, z143g, z143h, z143i, z143j => if x23 = true then (some (0, 0, 0, 0, 0, 0, 0, 0, false, 0, 11)) else (if z143j < 0 then ((clock_used.f z142a z142b z142c z143a z143b z143c z143d z143e z143f z143g z143h z143i z143j x2).bind fun t145 => (if 0 ≤ z143g then (if z143g < 2 then (if z143g = 0 then (if t145 > z143a then (some (0, z143b, z143c, z143d, z143e, z143f, z143g, z143h, z143i, z143g, 0)) else (some (z143a, z143b, z143c, z143d, z143e, z143f, z143g, z143h, z143i, z143j, 0))) else (if t145 > z143b then (some (z143a, 0, z143c, z143d, z143e, z143f, z143g, z143h, z143i, z143g, 0)) else (some (z143a, z143b, z143c, z143d, z143e, z143f, z143g, z143h, z143i, z143j, 0)))) else (none)) else (none))) else (some (z143a, z143b, z143c, z143d, z143e, z143f, z143g, z143h, z143i, z143j, 0)))
def clock_Look.f (k : Nat) (l0_0 : List (S54)) (a0_1 : Int) (a0_2 : Int) (a1_0 : Int) (a1_1 : Int) (a1_2 : Int) (a1_3 : Int) (a1_4 : Int) (a1_5 : Int) (a1_6 : Int) (a1_7 : Int) (a1_8 : Bool) (a1_9 : Int) (a2 : Int) : Option (Int × Int × Int × Int × Int × Int × Int × Int × Bool × Int × Int) := (clock_Valid.f k l0_0 a0_1 a0_2 a1_0 a1_1 a1_2 a1_3 a1_4 a1_5 a1_6 a1_7 a1_8 a1_9).bind fun t144 => (if t144 = 0 then (if a2 < a1_7 then (clock_Look.j0 k a2 true l0_0 a0_1 a0_2 a1_0 a1_1 a1_2 a1_3 a1_4 a1_5 a1_6 a1_7 a1_8 a1_9) else (clock_Look.j0 k a2 (decide (a2 > 100000000)) l0_0 a0_1 a0_2 a1_0 a1_1 a1_2 a1_3 a1_4 a1_5 a1_6 a1_7 a1_8 a1_9)) else (some (0, 0, 0, 0, 0, 0, 0, 0, false, 0, t144)))
theorem clock_Look.mono_l : ∀ k, (∀ y0 y1 y2 y3 y4 y5 y6 y7 y8 y9 y10 y11 y12 y13 y14, LeO (clock_Look.j0 k y0 y1 y2 y3 y4 y5 y6 y7 y8 y9 y10 y11 y12 y13 y14) (clock_Look.j0 (k + 1) y0 y1 y2 y3 y4 y5 y6 y7 y8 y9 y10 y11 y12 y13 y14))
  | 0 => fun _ _ _ _ _ _ _ _ _ _ _ _ _ _ _ r h => by simp [clock_Look.j0] at h
  | k + 1 => by
    have ih0 := clock_Look.mono_l k
    · intros
      unfold clock_Look.j0
      repeat' first
      | (with_reducible apply ih0)
      | (with_reducible apply clock_Valid.mono)
      | (with_reducible exact LeO.refl _)
      | (with_reducible exact LeO.none _)
      | (with_reducible refine LeO.ite ?_ ?_)
      | (with_reducible refine LeO.bind ?_ (fun _ => ?_))
      | apply ih0
      | apply clock_Valid.mono
      | exact LeO.none _
      | refine LeO.ite ?_ ?_
      | refine LeO.bind ?_ (fun _ => ?_)
theorem clock_Look.mono : ∀ a0 a1 a2 a3 a4 a5 a6 a7 a8 a9 a10 a11 a12 a13 k, LeO (clock_Look.f k a0 a1 a2 a3 a4 a5 a6 a7 a8 a9 a10 a11 a12 a13) (clock_Look.f (k + 1) a0 a1 a2 a3 a4 a5 a6 a7 a8 a9 a10 a11 a12 a13) := by
  intro a0 a1 a2 a3 a4 a5 a6 a7 a8 a9 a10 a11 a12 a13 k
  have ih0 := clock_Look.mono_l k
  unfold clock_Look.f
  repeat' first
      | (with_reducible apply ih0)
      | (with_reducible apply clock_Valid.mono)
      | (with_reducible exact LeO.refl _)
      | (with_reducible exact LeO.none _)
      | (with_reducible refine LeO.ite ?_ ?_)
      | (with_reducible refine LeO.bind ?_ (fun _ => ?_))
      | apply ih0
      | apply clock_Valid.mono
      | exact LeO.none _
      | refine LeO.ite ?_ ?_
      | refine LeO.bind ?_ (fun _ => ?_)
def clock_Look.T6 : Bool × List (List Nat × List Nat) := (true, [([], []), ([0], [0]), ([1], [1]), ([2], [2]), ([3], [3]), ([3], [3]), ([3], [3]), ([4, 5, 6, 3, 3], [3, 4, 5, 6]), ([3], [3]), ([8, 3], [3, 8]), ([3], [3]), ([10, 9, 3], [3, 9, 10]), ([11, 3], [3, 11]), ([7, 12, 3], [3, 7, 12]), ([3, 13], [3, 13])])
def clock_Look.B6 : List Nat := [0, 1, 3, 7, 15, 15, 15, 127, 15, 271, 15, 1807, 3855, 8191, 16383]
theorem clock_Look.tab6 : rtab .any (opsOf Try.f13 6) = clock_Look.T6 := by kernel_rfl
theorem clock_Look.bits6 : waitsOk clock_Look.T6.2 clock_Look.B6 = true := by kernel_rfl
set_option maxHeartbeats 8000000 in
set_option maxRecDepth 100000 in
theorem clock_Look.calls (k : Nat) (A0_0 : Option Addr) (c0_0 : Nat) (l0_0 : List (S54)) (a0_1 : Int) (a0_2 : Int) (a1_0 : Int) (a1_1 : Int) (a1_2 : Int) (a1_3 : Int) (a1_4 : Int) (a1_5 : Int) (a1_6 : Int) (a1_7 : Int) (a1_8 : Bool) (a1_9 : Int) (a2 : Int) (r1 : Int) (r2 : Int) (r3 : Int) (r4 : Int) (r5 : Int) (r6 : Int) (r7 : Int) (r8 : Int) (r9 : Bool) (r10 : Int) (r11 : Int) (w : World) (hr0_0 : Kd.C k54 w A0_0 l0_0.length l0_0) (hc0_0 : l0_0.length ≤ c0_0) (h : clock_Look.f k l0_0 a0_1 a0_2 a1_0 a1_1 a1_2 a1_3 a1_4 a1_5 a1_6 a1_7 a1_8 a1_9 a2 = some (r1, r2, r3, r4, r5, r6, r7, r8, r9, r10, r11)) :
    Calls Try.prog 13 #[.agg #[.slice A0_0 l0_0.length c0_0, .int .i64 a0_1, .int .i64 a0_2], .agg #[.int .i64 a1_0, .int .i64 a1_1, .int .i64 a1_2, .int .i64 a1_3, .int .i64 a1_4, .int .i64 a1_5, .int .i64 a1_6, .int .i64 a1_7, .bool a1_8, .int .i64 a1_9], .int .i64 a2] w fun e w' => e = .returned (.tuple #[.agg #[.int .i64 r1, .int .i64 r2, .int .i64 r3, .int .i64 r4, .int .i64 r5, .int .i64 r6, .int .i64 r7, .int .i64 r8, .bool r9, .int .i64 r10], .int .i64 r11]) ∧ Below w.heap.size w w' := by
 have hu24 := Try.underlying24; have hu31 := Try.underlying31; have HR0_0 := Aside0.mk hr0_0; have HC0_0 := Aside0.mk hc0_0; clear hr0_0 hc0_0; have HB := Aside0.mk (Below.refl w.heap.size w); have hss_ := @isSome_setCell
 have H : ((clock_Valid.f k l0_0 a0_1 a0_2 a1_0 a1_1 a1_2 a1_3 a1_4 a1_5 a1_6 a1_7 a1_8 a1_9).bind fun t144 => (if t144 = 0 then (if a2 < a1_7 then (clock_Look.j0 k a2 true l0_0 a0_1 a0_2 a1_0 a1_1 a1_2 a1_3 a1_4 a1_5 a1_6 a1_7 a1_8 a1_9) else (clock_Look.j0 k a2 (decide (a2 > 100000000)) l0_0 a0_1 a0_2 a1_0 a1_1 a1_2 a1_3 a1_4 a1_5 a1_6 a1_7 a1_8 a1_9)) else (some (0, 0, 0, 0, 0, 0, 0, 0, false, 0, t144)))) = some (r1, r2, r3, r4, r5, r6, r7, r8, r9, r10, r11) := h
 clear h; replace H := Option.bind_eq_some_iff.mp H
 obtain ⟨t144, A40, H⟩ := H
 try dsimp only at H
 have A4 := Aside0.mk A40; clear A40
 by_cases c5 : t144 = 0
 ·rw [if_pos c5] at H
  have c5b0 : (t144 == 0) = true := beq_iff_eq.mpr c5
  have c5b1 : (t144 != 0) = false := bne_eq_false_iff_eq.mpr c5
  clear c5; have HC6 := Aside0.mk H; clear H
  go_enter Try.func13, Try.ntmps13
  go_upto_region 4 with (first | ((with_reducible refine gate_dst (N := 3) rfl ?_); refine box_event ?hg (N := 3) ?hd (cs := #[.slice A0_0 l0_0.length c0_0, .int .i64 a0_1, .int .i64 a0_2]) (t := 24) ?hr ?_; (case hd => rfl); (case hg => rfl); (case hr => first | (go_simp; done) | (go_simp; rfl)); intro gb141 hg w7 hbox hb; have BK141 := Aside0.mk (hbox); have GW141 := Aside0.mk (xZ HB hg); have GE141 := Aside0.mk (xZ HB hg); replace HB := Aside0.mk (xS HB hb); clear hb hbox hg) | ((with_reducible refine gate_dst (N := 4) rfl ?_); refine box_event ?hg (N := 4) ?hd (cs := #[.int .i64 a1_0, .int .i64 a1_1, .int .i64 a1_2, .int .i64 a1_3, .int .i64 a1_4, .int .i64 a1_5, .int .i64 a1_6, .int .i64 a1_7, .bool a1_8, .int .i64 a1_9]) (t := 31) ?hr ?_; (case hd => rfl); (case hg => rfl); (case hr => first | (go_simp; done) | (go_simp; rfl)); intro gb142 hg w8 hbox hb; have BK142 := Aside0.mk (hbox); have GW142 := Aside0.mk (xZ HB hg); have GE142 := Aside0.mk (xZ HB hg); have NB141_142 := Aside0.mk (xN BK141 hg); have NB142_141 := Aside0.mk (xM BK141 hg); replace BK141 := Aside0.mk (xB BK141 hb); replace HB := Aside0.mk (xS HB hb); clear hb hbox hg) | ((with_reducible refine gate_dst (N := 6) rfl ?_); refine box_event ?hg (N := 6) ?hd (cs := #[.int .i64 0, .int .i64 0, .int .i64 0, .int .i64 0, .int .i64 0, .int .i64 0, .int .i64 0, .int .i64 0, .bool false, .int .i64 0]) (t := 31) ?hr ?_; (case hd => rfl); (case hg => rfl); (case hr => first | (go_simp; done) | (go_simp; rfl)); intro gb143 hg w9 hbox hb; have BK143 := Aside0.mk (hbox); have GW143 := Aside0.mk (xZ HB hg); have GE143 := Aside0.mk (xZ HB hg); have NB141_143 := Aside0.mk (xN BK141 hg); have NB143_141 := Aside0.mk (xM BK141 hg); have NB142_143 := Aside0.mk (xN BK142 hg); have NB143_142 := Aside0.mk (xM BK142 hg); replace BK141 := Aside0.mk (xB BK141 hb); replace BK142 := Aside0.mk (xB BK142 hb); replace HB := Aside0.mk (xS HB hb); clear hb hbox hg; have hnb10 := NB141_142.out; have hnc10 := NB142_141.out; have hnb11 := NB141_143.out; have hnc11 := NB143_141.out; have hcz12_0 := blkc3 BK141.out; have hnb13 := NB142_143.out; have hnc13 := NB143_142.out; have hcz14_0 := blkc10 BK142.out) | ((with_reducible refine gate_callee (f := 25) rfl ?_); refine goesL_ (some 11) rfl rfl Try.func25 (by kernel_rfl) rfl #[.agg #[.slice A0_0 l0_0.length c0_0, .int .i64 a0_1, .int .i64 a0_2], .agg #[.int .i64 a1_0, .int .i64 a1_1, .int .i64 a1_2, .int .i64 a1_3, .int .i64 a1_4, .int .i64 a1_5, .int .i64 a1_6, .int .i64 a1_7, .bool a1_8, .int .i64 a1_9]] rfl (by (try simp only [List.map_toArray, List.map_cons, List.map_nil]); first | done | rfl | (simp only [List.length_drop, List.length_take]; rfl)) ?_; (with_reducible refine (clock_Valid.calls k _ _ l0_0 a0_1 a0_2 a1_0 a1_1 a1_2 a1_3 a1_4 a1_5 a1_6 a1_7 a1_8 a1_9 t144 _ ?side1 ?side2 A4.out).mono ?_); (case side1 => exact xC (Kd.C_below HR0_0.out HB.out)); (case side2 => exact HC0_0.out); rintro e w15 ⟨rfl, hb⟩; refine ⟨_, rfl, ?_⟩; replace BK141 := Aside0.mk (xB BK141 hb); replace BK142 := Aside0.mk (xB BK142 hb); replace BK143 := Aside0.mk (xB BK143 hb); replace HB := Aside0.mk (xS HB hb); (try clear hb); (try clear hb2); (try clear hk); (try clear hi)))
  (try have hq142_141 := NB142_141.out); (try have hq141_142 := NB141_142.out); (try have hq142_143 := NB142_143.out); (try have hq143_142 := NB143_142.out); (try have hq143_141 := NB143_141.out); (try have hq141_143 := NB141_143.out)
  (try simp only [Act.put, List.setIfInBounds_toArray, List.set_cons_zero, List.set_cons_succ])
  go_cut [23] (fun vs23 wc => ∃ (kq : Nat) (x23_5 : Bool), vs23 = .bool x23_5 ∧ Aside0 (clock_Look.j0 kq a2 x23_5 l0_0 a0_1 a0_2 a1_0 a1_1 a1_2 a1_3 a1_4 a1_5 a1_6 a1_7 a1_8 a1_9 = some (r1, r2, r3, r4, r5, r6, r7, r8, r9, r10, r11)) ∧ Aside0 (kq ≤ k) ∧ Aside0 (wc.heap[gb141]? = some (.cells #[(.slice A0_0 l0_0.length c0_0), .int .i64 a0_1, .int .i64 a0_2] 24 (0, 0))) ∧ Aside0 (wc.heap[gb142]? = some (.cells #[.int .i64 a1_0, .int .i64 a1_1, .int .i64 a1_2, .int .i64 a1_3, .int .i64 a1_4, .int .i64 a1_5, .int .i64 a1_6, .int .i64 a1_7, .bool a1_8, .int .i64 a1_9] 31 (0, 0))) ∧ Aside0 (wc.heap[gb143]? = some (.cells #[.int .i64 0, .int .i64 0, .int .i64 0, .int .i64 0, .int .i64 0, .int .i64 0, .int .i64 0, .int .i64 0, .bool false, .int .i64 0] 31 (0, 0))) ∧ Aside0 (Below w.heap.size w wc))
  case first =>
   have H := HC6.out; clear HC6
   by_cases c16 : a2 < a1_7
   ·rw [if_pos c16] at H
    have c16b0 : decide (a2 < a1_7) = true := decide_eq_true c16
    clear c16
    (first | rw [c16b0] | (simp only [i64_w, i32_w]; rw [c16b0]) | skip)
    have H' := Aside0.mk H
    clear H; have hcz19_0 := blkc10 BK142.out
    go_wp2
    go_meet
    case rel => exact ⟨_, (true), (xrf), H', ⟨by first | omega | exact Nat.le_refl _⟩, ⟨xK BK141⟩, ⟨xK BK142⟩, ⟨xK BK143⟩, ⟨xW HB⟩⟩
   ·rw [if_neg c16] at H
    have c16b0 : decide (a2 < a1_7) = false := decide_eq_false c16
    clear c16
    (first | rw [c16b0] | (simp only [i64_w, i32_w]; rw [c16b0]) | skip)
    have H' := Aside0.mk H
    clear H; have hcz22_0 := blkc10 BK142.out
    go_wp2
    go_meet
    case rel => exact ⟨_, (decide (a2 > 100000000)), (xrf), H', ⟨by first | omega | exact Nat.le_refl _⟩, ⟨xK BK141⟩, ⟨xK BK142⟩, ⟨xK BK143⟩, ⟨xW HB⟩⟩
  case rest =>
   clear HC6; (try clear p2)
   obtain ⟨kq, x23_5, rfl, HA, HJ5, BK141, BK142, BK143, HB⟩ := hcut
   cases kq with
   | zero => exact absurd HA.out (by simp [clock_Look.j0])
   | succ kj5 =>
    have H := HA.out; clear HA
    simp only [clock_Look.j0] at H
    by_cases c23 : x23_5 = true
    ·subst c23
     rw [if_pos rfl] at H
     simp only [Option.some.injEq, Prod.mk.injEq] at H
     obtain ⟨rfl, rfl, rfl, rfl, rfl, rfl, rfl, rfl, rfl, rfl, rfl⟩ := H
     have hcz26_0 := blkc10 BK143.out
     go_wp2
     refine bodyPost_ret (results_ct rfl _ _ gb143 31 #[.int .i64 0, .int .i64 0, .int .i64 0, .int .i64 0, .int .i64 0, .int .i64 0, .int .i64 0, .int .i64 0, .bool false, .int .i64 0] (0, 0) _ rfl (xQ BK143) Try.underlying31 rfl (by kernel_rfl)) rfl ?_
     exact ⟨xer, xW HB⟩
    ·replace c23 := Bool.eq_false_iff.mpr c23
     subst c23
     rw [if_neg (show ¬ (false = true) by decide)] at H
     by_cases c27 : a1_9 < 0
     ·rw [if_pos c27] at H
      have c27b0 : decide (a1_9 < 0) = true := decide_eq_true c27
      clear c27; replace H := Option.bind_eq_some_iff.mp H
      obtain ⟨t145, A280, H⟩ := H
      try dsimp only at H
      have A28 := Aside0.mk A280; clear A280
      by_cases c29 : 0 ≤ a1_6
      ·rw [if_pos c29] at H
       have c29b0 : decide (0 ≤ a1_6) = true := decide_eq_true c29
       clear c29
       by_cases c30 : a1_6 < 2
       ·rw [if_pos c30] at H
        have c30b0 : decide (a1_6 < 2) = true := decide_eq_true c30
        clear c30
        by_cases c31 : a1_6 = 0
        ·rw [if_pos c31] at H
         have c31b0 : (a1_6 == 0) = true := beq_iff_eq.mpr c31
         have c31b1 : (a1_6 != 0) = false := bne_eq_false_iff_eq.mpr c31
         clear c31; obtain ⟨c32b, c32g, c32c, c32d⟩ := xar (a1_6 : Int) 0 0 2
         by_cases c33 : t145 > a1_0
         ·rw [if_pos c33] at H
          have c33b0 : decide (a1_0 < t145) = true := decide_eq_true c33
          clear c33; obtain ⟨c34b, c34g, c34c, c34d⟩ := xar (a1_6 : Int) 0 0 2
          simp only [Option.some.injEq, Prod.mk.injEq] at H
          obtain ⟨rfl, rfl, rfl, rfl, rfl, rfl, rfl, rfl, rfl, rfl, rfl⟩ := H
          try go_wp2
          replace BK141 := Aside0.mk (blk_drew BK141.out); replace BK142 := Aside0.mk (blk_drew BK142.out); replace BK143 := Aside0.mk (blk_drew BK143.out); replace HB := Aside0.mk (below_drew1 HB.out)
          refine start_ (n := 15) (S := fun w' => ce w' gb142 0 (.int .i64 a1_0) ∧ ce w' gb142 1 (.int .i64 a1_1) ∧ ce w' gb142 2 (.int .i64 a1_2) ∧ ce w' gb142 3 (.int .i64 a1_3) ∧ ce w' gb142 4 (.int .i64 a1_4) ∧ ce w' gb142 5 (.int .i64 a1_5) ∧ ce w' gb142 6 (.int .i64 a1_6) ∧ ce w' gb142 7 (.int .i64 a1_7) ∧ ce w' gb142 8 (.bool a1_8) ∧ ce w' gb142 9 (.int .i64 a1_9) ∧ ce w' gb141 0 (.slice A0_0 l0_0.length c0_0) ∧ ce w' gb141 1 (.int .i64 a0_1) ∧ ce w' gb141 2 (.int .i64 a0_2)) (ds := []) (mk 15 0) (by kernel_rfl) rfl rfl ⟨xc BK142 0, xc BK142 1, xc BK142 2, xc BK142 3, xc BK142 4, xc BK142 5, xc BK142 6, xc BK142 7, xc BK142 8, xc BK142 9, xc BK141 0, xc BK141 1, xc BK141 2⟩ (fun hHeld => ?_); refine with_tabW clock_Look.tab6 clock_Look.bits6 (fun HT_ HW_ => ?_)
          generalize wc.drew = w35 at BK141 BK142 BK143 HB hHeld ⊢; refine pu_ 0 25 HT_ ?_; refine tk_ 1 26 HT_ HW_ hHeld ?_; refine pu_ 2 27 HT_ ?_; refine pu_ 3 28 HT_ ?_; refine pu_ 6 31 HT_ ?_; refine pu_ 8 33 HT_ ?_; refine pu_ 10 35 HT_ ?_; refine tk_ 4 29 HT_ HW_ hHeld ?_; refine tk_ 5 30 HT_ HW_ hHeld ?_; refine tk_ 9 34 HT_ HW_ hHeld ?_; refine pu_ 11 36 HT_ ?_; refine tk_ 12 37 HT_ HW_ hHeld ?_
          refine one_ (i := 7) (N := some 32) #[true, true, true, true, true, true, true, true, true, true, true, true, true, false, false] rfl rfl (one_of HT_.out (by kernel_rfl)) (by decide) (fun K hK => ?_)
          refine goes_ Try.func24 (by kernel_rfl) rfl #[.agg #[.slice A0_0 l0_0.length c0_0, .int .i64 a0_1, .int .i64 a0_2], .agg #[.int .i64 a1_0, .int .i64 a1_1, .int .i64 a1_2, .int .i64 a1_3, .int .i64 a1_4, .int .i64 a1_5, .int .i64 a1_6, .int .i64 a1_7, .bool a1_8, .int .i64 a1_9], .int .i64 a2] (by rfl) rfl rfl (by (try simp only [List.map_toArray, List.map_cons, List.map_nil]); first | done | rfl | (simp only [List.length_drop, List.length_take]; rfl)) ?_
          with_reducible refine (clock_used.calls _ _ l0_0 a0_1 a0_2 a1_0 a1_1 a1_2 a1_3 a1_4 a1_5 a1_6 a1_7 a1_8 a1_9 a2 t145 _ ?side1 ?side2 A28.out).mono ?_
          (case side1 => exact xC (Kd.C_below HR0_0.out HB.out))
          (case side2 => exact HC0_0.out)
          rintro e w36 ⟨rfl, hb⟩
          refine ⟨_, rfl, ?_⟩
          replace BK141 := Aside0.mk (xB BK141 hb); replace BK142 := Aside0.mk (xB BK142 hb); replace BK143 := Aside0.mk (xB BK143 hb); replace HB := Aside0.mk (xS HB hb)
          (try clear hb)
          (try clear hb2)
          (try clear hk)
          (try clear hi)
          refine hK.out _ _ ⟨(blk_cell BK142.out 0).trans rfl, (blk_cell BK142.out 1).trans rfl, (blk_cell BK142.out 2).trans rfl, (blk_cell BK142.out 3).trans rfl, (blk_cell BK142.out 4).trans rfl, (blk_cell BK142.out 5).trans rfl, (blk_cell BK142.out 6).trans rfl, (blk_cell BK142.out 7).trans rfl, (blk_cell BK142.out 8).trans rfl, (blk_cell BK142.out 9).trans rfl, (blk_cell BK141.out 0).trans rfl, (blk_cell BK141.out 1).trans rfl, (blk_cell BK141.out 2).trans rfl⟩ (fun hHeld => ?_)
          clear hK K
          refine norm_ (a' := ?_) ?_ ?_
          rotate_left
          ·show Act.put _ (some 32) _ = _
           simp only [Act.put, List.setIfInBounds_toArray, List.set_cons_zero, List.set_cons_succ, i64_w, i32_w]
           rfl
          refine pu_ 13 38 HT_ ?_; refine pu_ 14 39 HT_ ?_
          refine done_ (done_of HT_.out (by kernel_rfl)) ?_
          have hcz39_0 := blkc10 BK142.out; have hcz41_0 := blkc10 BK143.out
          try go_wp2
          refine bodyPost_ret (results_ct rfl _ _ gb143 31 #[.int .i64 0, .int .i64 a1_1, .int .i64 a1_2, .int .i64 a1_3, .int .i64 a1_4, .int .i64 a1_5, .int .i64 a1_6, .int .i64 a1_7, .bool a1_8, .int .i64 a1_6] (0, 0) _ rfl (xQ BK143) Try.underlying31 rfl (by kernel_rfl)) rfl ?_
          exact ⟨xer, xW HB⟩
         ·rw [if_neg c33] at H
          have c33b0 : decide (a1_0 < t145) = false := decide_eq_false c33
          clear c33
          simp only [Option.some.injEq, Prod.mk.injEq] at H
          obtain ⟨rfl, rfl, rfl, rfl, rfl, rfl, rfl, rfl, rfl, rfl, rfl⟩ := H
          try go_wp2
          replace BK141 := Aside0.mk (blk_drew BK141.out); replace BK142 := Aside0.mk (blk_drew BK142.out); replace BK143 := Aside0.mk (blk_drew BK143.out); replace HB := Aside0.mk (below_drew1 HB.out)
          refine start_ (n := 15) (S := fun w' => ce w' gb142 0 (.int .i64 a1_0) ∧ ce w' gb142 1 (.int .i64 a1_1) ∧ ce w' gb142 2 (.int .i64 a1_2) ∧ ce w' gb142 3 (.int .i64 a1_3) ∧ ce w' gb142 4 (.int .i64 a1_4) ∧ ce w' gb142 5 (.int .i64 a1_5) ∧ ce w' gb142 6 (.int .i64 a1_6) ∧ ce w' gb142 7 (.int .i64 a1_7) ∧ ce w' gb142 8 (.bool a1_8) ∧ ce w' gb142 9 (.int .i64 a1_9) ∧ ce w' gb141 0 (.slice A0_0 l0_0.length c0_0) ∧ ce w' gb141 1 (.int .i64 a0_1) ∧ ce w' gb141 2 (.int .i64 a0_2)) (ds := []) (mk 15 0) (by kernel_rfl) rfl rfl ⟨xc BK142 0, xc BK142 1, xc BK142 2, xc BK142 3, xc BK142 4, xc BK142 5, xc BK142 6, xc BK142 7, xc BK142 8, xc BK142 9, xc BK141 0, xc BK141 1, xc BK141 2⟩ (fun hHeld => ?_); refine with_tabW clock_Look.tab6 clock_Look.bits6 (fun HT_ HW_ => ?_)
          generalize wc.drew = w42 at BK141 BK142 BK143 HB hHeld ⊢; refine pu_ 0 25 HT_ ?_; refine tk_ 1 26 HT_ HW_ hHeld ?_; refine pu_ 2 27 HT_ ?_; refine pu_ 3 28 HT_ ?_; refine pu_ 6 31 HT_ ?_; refine pu_ 8 33 HT_ ?_; refine pu_ 10 35 HT_ ?_; refine tk_ 4 29 HT_ HW_ hHeld ?_; refine tk_ 5 30 HT_ HW_ hHeld ?_; refine tk_ 9 34 HT_ HW_ hHeld ?_; refine pu_ 11 36 HT_ ?_; refine tk_ 12 37 HT_ HW_ hHeld ?_
          refine one_ (i := 7) (N := some 32) #[true, true, true, true, true, true, true, true, true, true, true, true, true, false, false] rfl rfl (one_of HT_.out (by kernel_rfl)) (by decide) (fun K hK => ?_)
          refine goes_ Try.func24 (by kernel_rfl) rfl #[.agg #[.slice A0_0 l0_0.length c0_0, .int .i64 a0_1, .int .i64 a0_2], .agg #[.int .i64 a1_0, .int .i64 a1_1, .int .i64 a1_2, .int .i64 a1_3, .int .i64 a1_4, .int .i64 a1_5, .int .i64 a1_6, .int .i64 a1_7, .bool a1_8, .int .i64 a1_9], .int .i64 a2] (by rfl) rfl rfl (by (try simp only [List.map_toArray, List.map_cons, List.map_nil]); first | done | rfl | (simp only [List.length_drop, List.length_take]; rfl)) ?_
          with_reducible refine (clock_used.calls _ _ l0_0 a0_1 a0_2 a1_0 a1_1 a1_2 a1_3 a1_4 a1_5 a1_6 a1_7 a1_8 a1_9 a2 t145 _ ?side1 ?side2 A28.out).mono ?_
          (case side1 => exact xC (Kd.C_below HR0_0.out HB.out))
          (case side2 => exact HC0_0.out)
          rintro e w43 ⟨rfl, hb⟩
          refine ⟨_, rfl, ?_⟩
          replace BK141 := Aside0.mk (xB BK141 hb); replace BK142 := Aside0.mk (xB BK142 hb); replace BK143 := Aside0.mk (xB BK143 hb); replace HB := Aside0.mk (xS HB hb)
          (try clear hb)
          (try clear hb2)
          (try clear hk)
          (try clear hi)
          refine hK.out _ _ ⟨(blk_cell BK142.out 0).trans rfl, (blk_cell BK142.out 1).trans rfl, (blk_cell BK142.out 2).trans rfl, (blk_cell BK142.out 3).trans rfl, (blk_cell BK142.out 4).trans rfl, (blk_cell BK142.out 5).trans rfl, (blk_cell BK142.out 6).trans rfl, (blk_cell BK142.out 7).trans rfl, (blk_cell BK142.out 8).trans rfl, (blk_cell BK142.out 9).trans rfl, (blk_cell BK141.out 0).trans rfl, (blk_cell BK141.out 1).trans rfl, (blk_cell BK141.out 2).trans rfl⟩ (fun hHeld => ?_)
          clear hK K
          refine norm_ (a' := ?_) ?_ ?_
          rotate_left
          ·show Act.put _ (some 32) _ = _
           simp only [Act.put, List.setIfInBounds_toArray, List.set_cons_zero, List.set_cons_succ, i64_w, i32_w]
           rfl
          refine pu_ 13 38 HT_ ?_; refine pu_ 14 39 HT_ ?_
          refine done_ (done_of HT_.out (by kernel_rfl)) ?_
          have hcz46_0 := blkc10 BK142.out; have hcz48_0 := blkc10 BK143.out
          try go_wp2
          refine bodyPost_ret (results_ct rfl _ _ gb143 31 #[.int .i64 a1_0, .int .i64 a1_1, .int .i64 a1_2, .int .i64 a1_3, .int .i64 a1_4, .int .i64 a1_5, .int .i64 a1_6, .int .i64 a1_7, .bool a1_8, .int .i64 a1_9] (0, 0) _ rfl (xQ BK143) Try.underlying31 rfl (by kernel_rfl)) rfl ?_
          exact ⟨xer, xW HB⟩
        ·rw [if_neg c31] at H
         have c31b0 : (a1_6 == 0) = false := beq_eq_false_iff_ne.mpr c31
         have c31b1 : (a1_6 != 0) = true := bne_iff_ne.mpr c31
         obtain ⟨c49b, c49g, c49c, c49d⟩ := xar (a1_6 : Int) 1 1 2
         by_cases c50 : t145 > a1_1
         ·rw [if_pos c50] at H
          have c50b0 : decide (a1_1 < t145) = true := decide_eq_true c50
          clear c50; obtain ⟨c51b, c51g, c51c, c51d⟩ := xar (a1_6 : Int) 1 1 2
          simp only [Option.some.injEq, Prod.mk.injEq] at H
          obtain ⟨rfl, rfl, rfl, rfl, rfl, rfl, rfl, rfl, rfl, rfl, rfl⟩ := H
          try go_wp2
          replace BK141 := Aside0.mk (blk_drew BK141.out); replace BK142 := Aside0.mk (blk_drew BK142.out); replace BK143 := Aside0.mk (blk_drew BK143.out); replace HB := Aside0.mk (below_drew1 HB.out)
          refine start_ (n := 15) (S := fun w' => ce w' gb142 0 (.int .i64 a1_0) ∧ ce w' gb142 1 (.int .i64 a1_1) ∧ ce w' gb142 2 (.int .i64 a1_2) ∧ ce w' gb142 3 (.int .i64 a1_3) ∧ ce w' gb142 4 (.int .i64 a1_4) ∧ ce w' gb142 5 (.int .i64 a1_5) ∧ ce w' gb142 6 (.int .i64 a1_6) ∧ ce w' gb142 7 (.int .i64 a1_7) ∧ ce w' gb142 8 (.bool a1_8) ∧ ce w' gb142 9 (.int .i64 a1_9) ∧ ce w' gb141 0 (.slice A0_0 l0_0.length c0_0) ∧ ce w' gb141 1 (.int .i64 a0_1) ∧ ce w' gb141 2 (.int .i64 a0_2)) (ds := []) (mk 15 0) (by kernel_rfl) rfl rfl ⟨xc BK142 0, xc BK142 1, xc BK142 2, xc BK142 3, xc BK142 4, xc BK142 5, xc BK142 6, xc BK142 7, xc BK142 8, xc BK142 9, xc BK141 0, xc BK141 1, xc BK141 2⟩ (fun hHeld => ?_); refine with_tabW clock_Look.tab6 clock_Look.bits6 (fun HT_ HW_ => ?_)
          generalize wc.drew = w52 at BK141 BK142 BK143 HB hHeld ⊢; refine pu_ 0 25 HT_ ?_; refine tk_ 1 26 HT_ HW_ hHeld ?_; refine pu_ 2 27 HT_ ?_; refine pu_ 3 28 HT_ ?_; refine pu_ 6 31 HT_ ?_; refine pu_ 8 33 HT_ ?_; refine pu_ 10 35 HT_ ?_; refine tk_ 4 29 HT_ HW_ hHeld ?_; refine tk_ 5 30 HT_ HW_ hHeld ?_; refine tk_ 9 34 HT_ HW_ hHeld ?_; refine pu_ 11 36 HT_ ?_; refine tk_ 12 37 HT_ HW_ hHeld ?_
          refine one_ (i := 7) (N := some 32) #[true, true, true, true, true, true, true, true, true, true, true, true, true, false, false] rfl rfl (one_of HT_.out (by kernel_rfl)) (by decide) (fun K hK => ?_)
          refine goes_ Try.func24 (by kernel_rfl) rfl #[.agg #[.slice A0_0 l0_0.length c0_0, .int .i64 a0_1, .int .i64 a0_2], .agg #[.int .i64 a1_0, .int .i64 a1_1, .int .i64 a1_2, .int .i64 a1_3, .int .i64 a1_4, .int .i64 a1_5, .int .i64 a1_6, .int .i64 a1_7, .bool a1_8, .int .i64 a1_9], .int .i64 a2] (by rfl) rfl rfl (by (try simp only [List.map_toArray, List.map_cons, List.map_nil]); first | done | rfl | (simp only [List.length_drop, List.length_take]; rfl)) ?_
          with_reducible refine (clock_used.calls _ _ l0_0 a0_1 a0_2 a1_0 a1_1 a1_2 a1_3 a1_4 a1_5 a1_6 a1_7 a1_8 a1_9 a2 t145 _ ?side1 ?side2 A28.out).mono ?_
          (case side1 => exact xC (Kd.C_below HR0_0.out HB.out))
          (case side2 => exact HC0_0.out)
          rintro e w53 ⟨rfl, hb⟩
          refine ⟨_, rfl, ?_⟩
          replace BK141 := Aside0.mk (xB BK141 hb); replace BK142 := Aside0.mk (xB BK142 hb); replace BK143 := Aside0.mk (xB BK143 hb); replace HB := Aside0.mk (xS HB hb)
          (try clear hb)
          (try clear hb2)
          (try clear hk)
          (try clear hi)
          refine hK.out _ _ ⟨(blk_cell BK142.out 0).trans rfl, (blk_cell BK142.out 1).trans rfl, (blk_cell BK142.out 2).trans rfl, (blk_cell BK142.out 3).trans rfl, (blk_cell BK142.out 4).trans rfl, (blk_cell BK142.out 5).trans rfl, (blk_cell BK142.out 6).trans rfl, (blk_cell BK142.out 7).trans rfl, (blk_cell BK142.out 8).trans rfl, (blk_cell BK142.out 9).trans rfl, (blk_cell BK141.out 0).trans rfl, (blk_cell BK141.out 1).trans rfl, (blk_cell BK141.out 2).trans rfl⟩ (fun hHeld => ?_)
          clear hK K
          refine norm_ (a' := ?_) ?_ ?_
          rotate_left
          ·show Act.put _ (some 32) _ = _
           simp only [Act.put, List.setIfInBounds_toArray, List.set_cons_zero, List.set_cons_succ, i64_w, i32_w]
           rfl
          refine pu_ 13 38 HT_ ?_; refine pu_ 14 39 HT_ ?_
          refine done_ (done_of HT_.out (by kernel_rfl)) ?_
          have hcz56_0 := blkc10 BK142.out; have hcz58_0 := blkc10 BK143.out
          try go_wp2
          refine bodyPost_ret (results_ct rfl _ _ gb143 31 #[.int .i64 a1_0, .int .i64 0, .int .i64 a1_2, .int .i64 a1_3, .int .i64 a1_4, .int .i64 a1_5, .int .i64 a1_6, .int .i64 a1_7, .bool a1_8, .int .i64 a1_6] (0, 0) _ rfl (xQ BK143) Try.underlying31 rfl (by kernel_rfl)) rfl ?_
          exact ⟨xer, xW HB⟩
         ·rw [if_neg c50] at H
          have c50b0 : decide (a1_1 < t145) = false := decide_eq_false c50
          clear c50
          simp only [Option.some.injEq, Prod.mk.injEq] at H
          obtain ⟨rfl, rfl, rfl, rfl, rfl, rfl, rfl, rfl, rfl, rfl, rfl⟩ := H
          try go_wp2
          replace BK141 := Aside0.mk (blk_drew BK141.out); replace BK142 := Aside0.mk (blk_drew BK142.out); replace BK143 := Aside0.mk (blk_drew BK143.out); replace HB := Aside0.mk (below_drew1 HB.out)
          refine start_ (n := 15) (S := fun w' => ce w' gb142 0 (.int .i64 a1_0) ∧ ce w' gb142 1 (.int .i64 a1_1) ∧ ce w' gb142 2 (.int .i64 a1_2) ∧ ce w' gb142 3 (.int .i64 a1_3) ∧ ce w' gb142 4 (.int .i64 a1_4) ∧ ce w' gb142 5 (.int .i64 a1_5) ∧ ce w' gb142 6 (.int .i64 a1_6) ∧ ce w' gb142 7 (.int .i64 a1_7) ∧ ce w' gb142 8 (.bool a1_8) ∧ ce w' gb142 9 (.int .i64 a1_9) ∧ ce w' gb141 0 (.slice A0_0 l0_0.length c0_0) ∧ ce w' gb141 1 (.int .i64 a0_1) ∧ ce w' gb141 2 (.int .i64 a0_2)) (ds := []) (mk 15 0) (by kernel_rfl) rfl rfl ⟨xc BK142 0, xc BK142 1, xc BK142 2, xc BK142 3, xc BK142 4, xc BK142 5, xc BK142 6, xc BK142 7, xc BK142 8, xc BK142 9, xc BK141 0, xc BK141 1, xc BK141 2⟩ (fun hHeld => ?_); refine with_tabW clock_Look.tab6 clock_Look.bits6 (fun HT_ HW_ => ?_)
          generalize wc.drew = w59 at BK141 BK142 BK143 HB hHeld ⊢; refine pu_ 0 25 HT_ ?_; refine tk_ 1 26 HT_ HW_ hHeld ?_; refine pu_ 2 27 HT_ ?_; refine pu_ 3 28 HT_ ?_; refine pu_ 6 31 HT_ ?_; refine pu_ 8 33 HT_ ?_; refine pu_ 10 35 HT_ ?_; refine tk_ 4 29 HT_ HW_ hHeld ?_; refine tk_ 5 30 HT_ HW_ hHeld ?_; refine tk_ 9 34 HT_ HW_ hHeld ?_; refine pu_ 11 36 HT_ ?_; refine tk_ 12 37 HT_ HW_ hHeld ?_
          refine one_ (i := 7) (N := some 32) #[true, true, true, true, true, true, true, true, true, true, true, true, true, false, false] rfl rfl (one_of HT_.out (by kernel_rfl)) (by decide) (fun K hK => ?_)
          refine goes_ Try.func24 (by kernel_rfl) rfl #[.agg #[.slice A0_0 l0_0.length c0_0, .int .i64 a0_1, .int .i64 a0_2], .agg #[.int .i64 a1_0, .int .i64 a1_1, .int .i64 a1_2, .int .i64 a1_3, .int .i64 a1_4, .int .i64 a1_5, .int .i64 a1_6, .int .i64 a1_7, .bool a1_8, .int .i64 a1_9], .int .i64 a2] (by rfl) rfl rfl (by (try simp only [List.map_toArray, List.map_cons, List.map_nil]); first | done | rfl | (simp only [List.length_drop, List.length_take]; rfl)) ?_
          with_reducible refine (clock_used.calls _ _ l0_0 a0_1 a0_2 a1_0 a1_1 a1_2 a1_3 a1_4 a1_5 a1_6 a1_7 a1_8 a1_9 a2 t145 _ ?side1 ?side2 A28.out).mono ?_
          (case side1 => exact xC (Kd.C_below HR0_0.out HB.out))
          (case side2 => exact HC0_0.out)
          rintro e w60 ⟨rfl, hb⟩
          refine ⟨_, rfl, ?_⟩
          replace BK141 := Aside0.mk (xB BK141 hb); replace BK142 := Aside0.mk (xB BK142 hb); replace BK143 := Aside0.mk (xB BK143 hb); replace HB := Aside0.mk (xS HB hb)
          (try clear hb)
          (try clear hb2)
          (try clear hk)
          (try clear hi)
          refine hK.out _ _ ⟨(blk_cell BK142.out 0).trans rfl, (blk_cell BK142.out 1).trans rfl, (blk_cell BK142.out 2).trans rfl, (blk_cell BK142.out 3).trans rfl, (blk_cell BK142.out 4).trans rfl, (blk_cell BK142.out 5).trans rfl, (blk_cell BK142.out 6).trans rfl, (blk_cell BK142.out 7).trans rfl, (blk_cell BK142.out 8).trans rfl, (blk_cell BK142.out 9).trans rfl, (blk_cell BK141.out 0).trans rfl, (blk_cell BK141.out 1).trans rfl, (blk_cell BK141.out 2).trans rfl⟩ (fun hHeld => ?_)
          clear hK K
          refine norm_ (a' := ?_) ?_ ?_
          rotate_left
          ·show Act.put _ (some 32) _ = _
           simp only [Act.put, List.setIfInBounds_toArray, List.set_cons_zero, List.set_cons_succ, i64_w, i32_w]
           rfl
          refine pu_ 13 38 HT_ ?_; refine pu_ 14 39 HT_ ?_
          refine done_ (done_of HT_.out (by kernel_rfl)) ?_
          have hcz63_0 := blkc10 BK142.out; have hcz65_0 := blkc10 BK143.out
          try go_wp2
          refine bodyPost_ret (results_ct rfl _ _ gb143 31 #[.int .i64 a1_0, .int .i64 a1_1, .int .i64 a1_2, .int .i64 a1_3, .int .i64 a1_4, .int .i64 a1_5, .int .i64 a1_6, .int .i64 a1_7, .bool a1_8, .int .i64 a1_9] (0, 0) _ rfl (xQ BK143) Try.underlying31 rfl (by kernel_rfl)) rfl ?_
          exact ⟨xer, xW HB⟩
       ·rw [if_neg c30] at H
        exact absurd H (by simp)
      ·rw [if_neg c29] at H
       exact absurd H (by simp)
     ·rw [if_neg c27] at H
      have c27b0 : decide (a1_9 < 0) = false := decide_eq_false c27
      clear c27
      simp only [Option.some.injEq, Prod.mk.injEq] at H
      obtain ⟨rfl, rfl, rfl, rfl, rfl, rfl, rfl, rfl, rfl, rfl, rfl⟩ := H
      try go_wp2
      replace BK141 := Aside0.mk (blk_drew BK141.out); replace BK142 := Aside0.mk (blk_drew BK142.out); replace BK143 := Aside0.mk (blk_drew BK143.out); replace HB := Aside0.mk (below_drew1 HB.out)
      refine start_ (n := 15) (S := fun w' => ce w' gb142 0 (.int .i64 a1_0) ∧ ce w' gb142 1 (.int .i64 a1_1) ∧ ce w' gb142 2 (.int .i64 a1_2) ∧ ce w' gb142 3 (.int .i64 a1_3) ∧ ce w' gb142 4 (.int .i64 a1_4) ∧ ce w' gb142 5 (.int .i64 a1_5) ∧ ce w' gb142 6 (.int .i64 a1_6) ∧ ce w' gb142 7 (.int .i64 a1_7) ∧ ce w' gb142 8 (.bool a1_8) ∧ ce w' gb142 9 (.int .i64 a1_9)) (ds := []) (mk 15 0) (by kernel_rfl) rfl rfl ⟨xc BK142 0, xc BK142 1, xc BK142 2, xc BK142 3, xc BK142 4, xc BK142 5, xc BK142 6, xc BK142 7, xc BK142 8, xc BK142 9⟩ (fun hHeld => ?_); refine with_tabW clock_Look.tab6 clock_Look.bits6 (fun HT_ HW_ => ?_)
      generalize wc.drew = w66 at BK141 BK142 BK143 HB hHeld ⊢; refine pu_ 0 25 HT_ ?_; refine tk_ 1 26 HT_ HW_ hHeld ?_; refine pu_ 2 27 HT_ ?_; refine pu_ 3 28 HT_ ?_; refine pn_ 4 29 HT_ ?_; refine pn_ 5 30 HT_ ?_; refine pn_ 6 31 HT_ ?_; refine pn_ 7 32 HT_ ?_; refine pn_ 8 33 HT_ ?_; refine pn_ 9 34 HT_ ?_; refine pn_ 10 35 HT_ ?_; refine pn_ 11 36 HT_ ?_; refine pn_ 12 37 HT_ ?_; refine pn_ 13 38 HT_ ?_; refine pu_ 14 39 HT_ ?_
      refine done_ (done_of HT_.out (by kernel_rfl)) ?_
      have hcz69_0 := blkc10 BK142.out; have hcz71_0 := blkc10 BK143.out
      try go_wp2
      refine bodyPost_ret (results_ct rfl _ _ gb143 31 #[.int .i64 a1_0, .int .i64 a1_1, .int .i64 a1_2, .int .i64 a1_3, .int .i64 a1_4, .int .i64 a1_5, .int .i64 a1_6, .int .i64 a1_7, .bool a1_8, .int .i64 a1_9] (0, 0) _ rfl (xQ BK143) Try.underlying31 rfl (by kernel_rfl)) rfl ?_
      exact ⟨xer, xW HB⟩
 ·rw [if_neg c5] at H
  have c5b0 : (t144 == 0) = false := beq_eq_false_iff_ne.mpr c5
  have c5b1 : (t144 != 0) = true := bne_iff_ne.mpr c5
  simp only [Option.some.injEq, Prod.mk.injEq] at H
  obtain ⟨rfl, rfl, rfl, rfl, rfl, rfl, rfl, rfl, rfl, rfl, rfl⟩ := H
  go_enter Try.func13, Try.ntmps13
  go_wp2_with (first | ((with_reducible refine gate_dst (N := 3) rfl ?_); refine box_event ?hg (N := 3) ?hd (cs := #[.slice A0_0 l0_0.length c0_0, .int .i64 a0_1, .int .i64 a0_2]) (t := 24) ?hr ?_; (case hd => rfl); (case hg => rfl); (case hr => first | (go_simp; done) | (go_simp; rfl)); intro gb141 hg w72 hbox hb; have BK141 := Aside0.mk (hbox); have GW141 := Aside0.mk (xZ HB hg); have GE141 := Aside0.mk (xZ HB hg); replace HB := Aside0.mk (xS HB hb); clear hb hbox hg) | ((with_reducible refine gate_dst (N := 4) rfl ?_); refine box_event ?hg (N := 4) ?hd (cs := #[.int .i64 a1_0, .int .i64 a1_1, .int .i64 a1_2, .int .i64 a1_3, .int .i64 a1_4, .int .i64 a1_5, .int .i64 a1_6, .int .i64 a1_7, .bool a1_8, .int .i64 a1_9]) (t := 31) ?hr ?_; (case hd => rfl); (case hg => rfl); (case hr => first | (go_simp; done) | (go_simp; rfl)); intro gb142 hg w73 hbox hb; have BK142 := Aside0.mk (hbox); have GW142 := Aside0.mk (xZ HB hg); have GE142 := Aside0.mk (xZ HB hg); have NB141_142 := Aside0.mk (xN BK141 hg); have NB142_141 := Aside0.mk (xM BK141 hg); replace BK141 := Aside0.mk (xB BK141 hb); replace HB := Aside0.mk (xS HB hb); clear hb hbox hg) | ((with_reducible refine gate_dst (N := 6) rfl ?_); refine box_event ?hg (N := 6) ?hd (cs := #[.int .i64 0, .int .i64 0, .int .i64 0, .int .i64 0, .int .i64 0, .int .i64 0, .int .i64 0, .int .i64 0, .bool false, .int .i64 0]) (t := 31) ?hr ?_; (case hd => rfl); (case hg => rfl); (case hr => first | (go_simp; done) | (go_simp; rfl)); intro gb143 hg w74 hbox hb; have BK143 := Aside0.mk (hbox); have GW143 := Aside0.mk (xZ HB hg); have GE143 := Aside0.mk (xZ HB hg); have NB141_143 := Aside0.mk (xN BK141 hg); have NB143_141 := Aside0.mk (xM BK141 hg); have NB142_143 := Aside0.mk (xN BK142 hg); have NB143_142 := Aside0.mk (xM BK142 hg); replace BK141 := Aside0.mk (xB BK141 hb); replace BK142 := Aside0.mk (xB BK142 hb); replace HB := Aside0.mk (xS HB hb); clear hb hbox hg; have hnb75 := NB141_142.out; have hnc75 := NB142_141.out; have hnb76 := NB141_143.out; have hnc76 := NB143_141.out; have hcz77_0 := blkc3 BK141.out; have hnb78 := NB142_143.out; have hnc78 := NB143_142.out; have hcz79_0 := blkc10 BK142.out) | ((with_reducible refine gate_callee (f := 25) rfl ?_); refine goesL_ (some 11) rfl rfl Try.func25 (by kernel_rfl) rfl #[.agg #[.slice A0_0 l0_0.length c0_0, .int .i64 a0_1, .int .i64 a0_2], .agg #[.int .i64 a1_0, .int .i64 a1_1, .int .i64 a1_2, .int .i64 a1_3, .int .i64 a1_4, .int .i64 a1_5, .int .i64 a1_6, .int .i64 a1_7, .bool a1_8, .int .i64 a1_9]] rfl (by (try simp only [List.map_toArray, List.map_cons, List.map_nil]); first | done | rfl | (simp only [List.length_drop, List.length_take]; rfl)) ?_; (with_reducible refine (clock_Valid.calls k _ _ l0_0 a0_1 a0_2 a1_0 a1_1 a1_2 a1_3 a1_4 a1_5 a1_6 a1_7 a1_8 a1_9 t144 _ ?side1 ?side2 A4.out).mono ?_); (case side1 => exact xC (Kd.C_below HR0_0.out HB.out)); (case side2 => exact HC0_0.out); rintro e w80 ⟨rfl, hb⟩; refine ⟨_, rfl, ?_⟩; replace BK141 := Aside0.mk (xB BK141 hb); replace BK142 := Aside0.mk (xB BK142 hb); replace BK143 := Aside0.mk (xB BK143 hb); replace HB := Aside0.mk (xS HB hb); (try clear hb); (try clear hb2); (try clear hk); (try clear hi); have hcz81_0 := blkc10 BK143.out))
  refine bodyPost_ret (results_ct rfl _ _ gb143 31 #[.int .i64 0, .int .i64 0, .int .i64 0, .int .i64 0, .int .i64 0, .int .i64 0, .int .i64 0, .int .i64 0, .bool false, .int .i64 0] (0, 0) _ rfl (xQ BK143) Try.underlying31 rfl (by kernel_rfl)) rfl ?_
  exact ⟨xer, xW HB⟩

end Go.Proofs.Ytikijopbgjncbaa.PClockRuns
