-- Printed by a program of this claim's writer (wip/ext): an extension of the kit's print.
import Derived.Test.YtcncilipmekfhaaPClockStopsx0
import Derived.Test.YtcncilipmekfhaaPClockStopsx3
namespace Go.Proofs.Ytcncilipmekfhaa.PClockStops
open Go.RowKit Go.Proofs.YtcncilipmekfhaaW.PrintWords Go.Proofs.YtcncilipmekfhaaW.PrintLast Go.Proofs.YtcncilipmekfhaaW.PrintMore
attribute [local go_sem] max2_int min2_int max_two min_two max_three min_three max_four min_four   -- for this text's walks alone
set_option linter.unusedVariables false
set_option linter.unusedSimpArgs false

/-! ### clock_used: function 55 -/
def clock_used.f (l0_0 : List (S91)) (a0_1 : Int) (a0_2 : Int) (a1_0 : Int) (a1_1 : Int) (a1_2 : Int) (a1_3 : Int) (a1_4 : Int) (a1_5 : Int) (a1_6 : Int) (a1_7 : Int) (a1_8 : Bool) (a1_9 : Int) (a2 : Int) : Option (Int) := if a1_8 = true then (some 0) else (some (mx 0 (wrap64 ((wrap64 (a2 - a1_7)) - a0_2))))
set_option maxHeartbeats 8000000 in
set_option maxRecDepth 100000 in
theorem clock_used.calls (A0_0 : Option Addr) (c0_0 : Nat) (l0_0 : List (S91)) (a0_1 : Int) (a0_2 : Int) (a1_0 : Int) (a1_1 : Int) (a1_2 : Int) (a1_3 : Int) (a1_4 : Int) (a1_5 : Int) (a1_6 : Int) (a1_7 : Int) (a1_8 : Bool) (a1_9 : Int) (a2 : Int) (r : Int) (w : World) (hr0_0 : Kd.C k91 w A0_0 l0_0.length l0_0) (hc0_0 : l0_0.length ≤ c0_0) (h : clock_used.f l0_0 a0_1 a0_2 a1_0 a1_1 a1_2 a1_3 a1_4 a1_5 a1_6 a1_7 a1_8 a1_9 a2 = some r) :
    Calls Try.prog 55 #[.agg #[.slice A0_0 l0_0.length c0_0, .int .i64 a0_1, .int .i64 a0_2], .agg #[.int .i64 a1_0, .int .i64 a1_1, .int .i64 a1_2, .int .i64 a1_3, .int .i64 a1_4, .int .i64 a1_5, .int .i64 a1_6, .int .i64 a1_7, .bool a1_8, .int .i64 a1_9], .int .i64 a2] w fun e w' => e = .returned (.int .i64 r) ∧ Below w.heap.size w w' := by
 have hu42 := Try.underlying42; have hu45 := Try.underlying45; have HR0_0 := Aside0.mk hr0_0; have HC0_0 := Aside0.mk hc0_0; clear hr0_0 hc0_0; have HB := Aside0.mk (Below.refl w.heap.size w); have hss_ := @isSome_setCell
 have H : (if a1_8 = true then (some 0) else (some (mx 0 (wrap64 ((wrap64 (a2 - a1_7)) - a0_2))))) = some r := h
 clear h
 by_cases c4 : a1_8 = true
 ·subst c4
  rw [if_pos rfl] at H
  obtain rfl := Option.some.inj H
  go_enter Try.func55, Try.ntmps55
  go_wp2_with (first | ((with_reducible refine gate_dst (N := 3) rfl ?_); refine box_event ?hg (N := 3) ?hd (cs := #[.slice A0_0 l0_0.length c0_0, .int .i64 a0_1, .int .i64 a0_2]) (t := 42) ?hr ?_; (case hd => rfl); (case hg => rfl); (case hr => first | (go_simp; done) | (go_simp; rfl)); intro gb132 hg w5 hbox hb; have BK132 := Aside0.mk (hbox); have GW132 := Aside0.mk (xZ HB hg); have GE132 := Aside0.mk (xZ HB hg); replace HB := Aside0.mk (xS HB hb); clear hb hbox hg) | ((with_reducible refine gate_dst (N := 4) rfl ?_); refine box_event ?hg (N := 4) ?hd (cs := #[.int .i64 a1_0, .int .i64 a1_1, .int .i64 a1_2, .int .i64 a1_3, .int .i64 a1_4, .int .i64 a1_5, .int .i64 a1_6, .int .i64 a1_7, .bool true, .int .i64 a1_9]) (t := 45) ?hr ?_; (case hd => rfl); (case hg => rfl); (case hr => first | (go_simp; done) | (go_simp; rfl)); intro gb133 hg w6 hbox hb; have BK133 := Aside0.mk (hbox); have GW133 := Aside0.mk (xZ HB hg); have GE133 := Aside0.mk (xZ HB hg); have NB132_133 := Aside0.mk (xN BK132 hg); have NB133_132 := Aside0.mk (xM BK132 hg); replace BK132 := Aside0.mk (xB BK132 hb); replace HB := Aside0.mk (xS HB hb); clear hb hbox hg; have hnb7 := NB133_132.out; have hnc7 := NB132_133.out; have hcz8_0 := blkc10 BK133.out))
  go_ret
  exact ⟨xer, xW HB⟩
 ·replace c4 := Bool.eq_false_iff.mpr c4
  subst c4
  rw [if_neg (show ¬ (false = true) by decide)] at H
  obtain ⟨ji9, hji9⟩ : ∃ j_ : Int, (mx 0 (wrap64 ((wrap64 (a2 - a1_7)) - a0_2))) = j_ := ⟨_, rfl⟩
  (first | rw [hji9] at H | simp only [hji9] at H)
  (try (have hji9l : 0 ≤ ji9 := by (rw [← hji9]; unfold mx; (repeat' split) <;> omega)))
  (try (have hji9m : 0 ≤ ji9 := by omega))
  have hji9_ : (if 0 < (wrap64 ((wrap64 (a2 - a1_7)) - a0_2)) then (wrap64 ((wrap64 (a2 - a1_7)) - a0_2)) else 0) = ji9 := hji9
  obtain rfl := Option.some.inj H
  go_enter Try.func55, Try.ntmps55
  go_wp2_with (first | ((with_reducible refine gate_dst (N := 3) rfl ?_); refine box_event ?hg (N := 3) ?hd (cs := #[.slice A0_0 l0_0.length c0_0, .int .i64 a0_1, .int .i64 a0_2]) (t := 42) ?hr ?_; (case hd => rfl); (case hg => rfl); (case hr => first | (go_simp; done) | (go_simp; rfl)); intro gb132 hg w10 hbox hb; have BK132 := Aside0.mk (hbox); have GW132 := Aside0.mk (xZ HB hg); have GE132 := Aside0.mk (xZ HB hg); replace HB := Aside0.mk (xS HB hb); clear hb hbox hg) | ((with_reducible refine gate_dst (N := 4) rfl ?_); refine box_event ?hg (N := 4) ?hd (cs := #[.int .i64 a1_0, .int .i64 a1_1, .int .i64 a1_2, .int .i64 a1_3, .int .i64 a1_4, .int .i64 a1_5, .int .i64 a1_6, .int .i64 a1_7, .bool false, .int .i64 a1_9]) (t := 45) ?hr ?_; (case hd => rfl); (case hg => rfl); (case hr => first | (go_simp; done) | (go_simp; rfl)); intro gb133 hg w11 hbox hb; have BK133 := Aside0.mk (hbox); have GW133 := Aside0.mk (xZ HB hg); have GE133 := Aside0.mk (xZ HB hg); have NB132_133 := Aside0.mk (xN BK132 hg); have NB133_132 := Aside0.mk (xM BK132 hg); replace BK132 := Aside0.mk (xB BK132 hb); replace HB := Aside0.mk (xS HB hb); clear hb hbox hg; have hnb12 := NB133_132.out; have hnc12 := NB132_133.out; have hcz13_0 := blkc10 BK133.out; have hcz14_0 := blkc3 BK132.out))
  go_ret
  exact ⟨by first | rfl | (simp [errW_none, errW_some] <;> rfl) | (simp only [← hji9]; first | rfl | (simp [errW_none, errW_some] <;> rfl)) | (simp [*, errW_none, errW_some] <;> rfl), xW HB⟩

/-! ### clock_Look: function 28 -/
def clock_Look.j0 : Nat → Int → Bool → List (S91) → Int → Int → Int → Int → Int → Int → Int → Int → Int → Int → Bool → Int → Option (Int × Int × Int × Int × Int × Int × Int × Int × Bool × Int × Int)
  | 0, _, _, _, _, _, _, _, _, _, _, _, _, _, _, _ => none
  | k + 1, x2, x23, z135a, z135b, z135c, z136a, z136b, z136c, z136d, z136e, z136f, z136g, z136h, z136i, z136j => if x23 = true then (some (0, 0, 0, 0, 0, 0, 0, 0, false, 0, 11)) else (if z136j < 0 then ((clock_used.f z135a z135b z135c z136a z136b z136c z136d z136e z136f z136g z136h z136i z136j x2).bind fun t138 => (if 0 ≤ z136g then (if z136g < 2 then (if z136g = 0 then (if t138 > z136a then (some (0, z136b, z136c, z136d, z136e, z136f, z136g, z136h, z136i, z136g, 0)) else (some (z136a, z136b, z136c, z136d, z136e, z136f, z136g, z136h, z136i, z136j, 0))) else (if t138 > z136b then (some (z136a, 0, z136c, z136d, z136e, z136f, z136g, z136h, z136i, z136g, 0)) else (some (z136a, z136b, z136c, z136d, z136e, z136f, z136g, z136h, z136i, z136j, 0)))) else (none)) else (none))) else (some (z136a, z136b, z136c, z136d, z136e, z136f, z136g, z136h, z136i, z136j, 0)))
def clock_Look.f (k : Nat) (l0_0 : List (S91)) (a0_1 : Int) (a0_2 : Int) (a1_0 : Int) (a1_1 : Int) (a1_2 : Int) (a1_3 : Int) (a1_4 : Int) (a1_5 : Int) (a1_6 : Int) (a1_7 : Int) (a1_8 : Bool) (a1_9 : Int) (a2 : Int) : Option (Int × Int × Int × Int × Int × Int × Int × Int × Bool × Int × Int) := (clock_Valid.f k l0_0 a0_1 a0_2 a1_0 a1_1 a1_2 a1_3 a1_4 a1_5 a1_6 a1_7 a1_8 a1_9).bind fun t137 => (if t137 = 0 then (if a2 < a1_7 then (clock_Look.j0 k a2 true l0_0 a0_1 a0_2 a1_0 a1_1 a1_2 a1_3 a1_4 a1_5 a1_6 a1_7 a1_8 a1_9) else (clock_Look.j0 k a2 (decide (a2 > 100000000)) l0_0 a0_1 a0_2 a1_0 a1_1 a1_2 a1_3 a1_4 a1_5 a1_6 a1_7 a1_8 a1_9)) else (some (0, 0, 0, 0, 0, 0, 0, 0, false, 0, t137)))
theorem clock_Look.mono_l : ∀ k, (∀ y0 y1 y2 y3 y4 y5 y6 y7 y8 y9 y10 y11 y12 y13 y14, LeO (clock_Look.j0 k y0 y1 y2 y3 y4 y5 y6 y7 y8 y9 y10 y11 y12 y13 y14) (clock_Look.j0 (k + 1) y0 y1 y2 y3 y4 y5 y6 y7 y8 y9 y10 y11 y12 y13 y14))
  | 0 => fun _ _ _ _ _ _ _ _ _ _ _ _ _ _ _ r h => by simp [clock_Look.j0] at h
  | k + 1 => by
    have ih0 := clock_Look.mono_l k
    · intros
      unfold clock_Look.j0
      repeat' first
      | (with_reducible apply ih0)
      | (with_reducible apply clock_Valid.mono)
      | (with_reducible exact LeO.refl _)
      | (with_reducible exact LeO.none _)
      | (with_reducible refine LeO.ite ?_ ?_)
      | (with_reducible refine LeO.bind ?_ (fun _ => ?_))
      | apply ih0
      | apply clock_Valid.mono
      | exact LeO.none _
      | refine LeO.ite ?_ ?_
      | refine LeO.bind ?_ (fun _ => ?_)
theorem clock_Look.mono : ∀ a0 a1 a2 a3 a4 a5 a6 a7 a8 a9 a10 a11 a12 a13 k, LeO (clock_Look.f k a0 a1 a2 a3 a4 a5 a6 a7 a8 a9 a10 a11 a12 a13) (clock_Look.f (k + 1) a0 a1 a2 a3 a4 a5 a6 a7 a8 a9 a10 a11 a12 a13) := by
  intro a0 a1 a2 a3 a4 a5 a6 a7 a8 a9 a10 a11 a12 a13 k
  have ih0 := clock_Look.mono_l k
  unfold clock_Look.f
  repeat' first
      | (with_reducible apply ih0)
      | (with_reducible apply clock_Valid.mono)
      | (with_reducible exact LeO.refl _)
      | (with_reducible exact LeO.none _)
      | (with_reducible refine LeO.ite ?_ ?_)
      | (with_reducible refine LeO.bind ?_ (fun _ => ?_))
      | apply ih0
      | apply clock_Valid.mono
      | exact LeO.none _
      | refine LeO.ite ?_ ?_
      | refine LeO.bind ?_ (fun _ => ?_)
def clock_Look.T6 : Bool × List (List Nat × List Nat) := (true, [([], []), ([0], [0]), ([1], [1]), ([2], [2]), ([3], [3]), ([3], [3]), ([3], [3]), ([4, 5, 6, 3, 3], [3, 4, 5, 6]), ([3], [3]), ([8, 3], [3, 8]), ([3], [3]), ([10, 9, 3], [3, 9, 10]), ([11, 3], [3, 11]), ([7, 12, 3], [3, 7, 12]), ([3, 13], [3, 13])])
def clock_Look.B6 : List Nat := [0, 1, 3, 7, 15, 15, 15, 127, 15, 271, 15, 1807, 3855, 8191, 16383]
theorem clock_Look.tab6 : rtab .any (opsOf Try.f28 6) = clock_Look.T6 := by kernel_rfl
theorem clock_Look.bits6 : waitsOk clock_Look.T6.2 clock_Look.B6 = true := by kernel_rfl
set_option maxHeartbeats 8000000 in
set_option maxRecDepth 100000 in
theorem clock_Look.calls (k : Nat) (A0_0 : Option Addr) (c0_0 : Nat) (l0_0 : List (S91)) (a0_1 : Int) (a0_2 : Int) (a1_0 : Int) (a1_1 : Int) (a1_2 : Int) (a1_3 : Int) (a1_4 : Int) (a1_5 : Int) (a1_6 : Int) (a1_7 : Int) (a1_8 : Bool) (a1_9 : Int) (a2 : Int) (r1 : Int) (r2 : Int) (r3 : Int) (r4 : Int) (r5 : Int) (r6 : Int) (r7 : Int) (r8 : Int) (r9 : Bool) (r10 : Int) (r11 : Int) (w : World) (hr0_0 : Kd.C k91 w A0_0 l0_0.length l0_0) (hc0_0 : l0_0.length ≤ c0_0) (h : clock_Look.f k l0_0 a0_1 a0_2 a1_0 a1_1 a1_2 a1_3 a1_4 a1_5 a1_6 a1_7 a1_8 a1_9 a2 = some (r1, r2, r3, r4, r5, r6, r7, r8, r9, r10, r11)) :
    Calls Try.prog 28 #[.agg #[.slice A0_0 l0_0.length c0_0, .int .i64 a0_1, .int .i64 a0_2], .agg #[.int .i64 a1_0, .int .i64 a1_1, .int .i64 a1_2, .int .i64 a1_3, .int .i64 a1_4, .int .i64 a1_5, .int .i64 a1_6, .int .i64 a1_7, .bool a1_8, .int .i64 a1_9], .int .i64 a2] w fun e w' => e = .returned (.tuple #[.agg #[.int .i64 r1, .int .i64 r2, .int .i64 r3, .int .i64 r4, .int .i64 r5, .int .i64 r6, .int .i64 r7, .int .i64 r8, .bool r9, .int .i64 r10], .int .i64 r11]) ∧ Below w.heap.size w w' := by
 have hu42 := Try.underlying42; have hu45 := Try.underlying45; have HR0_0 := Aside0.mk hr0_0; have HC0_0 := Aside0.mk hc0_0; clear hr0_0 hc0_0; have HB := Aside0.mk (Below.refl w.heap.size w); have hss_ := @isSome_setCell
 have H : ((clock_Valid.f k l0_0 a0_1 a0_2 a1_0 a1_1 a1_2 a1_3 a1_4 a1_5 a1_6 a1_7 a1_8 a1_9).bind fun t137 => (if t137 = 0 then (if a2 < a1_7 then (clock_Look.j0 k a2 true l0_0 a0_1 a0_2 a1_0 a1_1 a1_2 a1_3 a1_4 a1_5 a1_6 a1_7 a1_8 a1_9) else (clock_Look.j0 k a2 (decide (a2 > 100000000)) l0_0 a0_1 a0_2 a1_0 a1_1 a1_2 a1_3 a1_4 a1_5 a1_6 a1_7 a1_8 a1_9)) else (some (0, 0, 0, 0, 0, 0, 0, 0, false, 0, t137)))) = some (r1, r2, r3, r4, r5, r6, r7, r8, r9, r10, r11) := h
 clear h; replace H := Option.bind_eq_some_iff.mp H
 obtain ⟨t137, A40, H⟩ := H
 try dsimp only at H
 have A4 := Aside0.mk A40; clear A40
 by_cases c5 : t137 = 0
 ·rw [if_pos c5] at H
  have c5b0 : (t137 == 0) = true := beq_iff_eq.mpr c5
  have c5b1 : (t137 != 0) = false := bne_eq_false_iff_eq.mpr c5
  clear c5; have HC6 := Aside0.mk H; clear H
  go_enter Try.func28, Try.ntmps28
  go_upto_region 4 with (first | ((with_reducible refine gate_dst (N := 3) rfl ?_); refine box_event ?hg (N := 3) ?hd (cs := #[.slice A0_0 l0_0.length c0_0, .int .i64 a0_1, .int .i64 a0_2]) (t := 42) ?hr ?_; (case hd => rfl); (case hg => rfl); (case hr => first | (go_simp; done) | (go_simp; rfl)); intro gb134 hg w7 hbox hb; have BK134 := Aside0.mk (hbox); have GW134 := Aside0.mk (xZ HB hg); have GE134 := Aside0.mk (xZ HB hg); replace HB := Aside0.mk (xS HB hb); clear hb hbox hg) | ((with_reducible refine gate_dst (N := 4) rfl ?_); refine box_event ?hg (N := 4) ?hd (cs := #[.int .i64 a1_0, .int .i64 a1_1, .int .i64 a1_2, .int .i64 a1_3, .int .i64 a1_4, .int .i64 a1_5, .int .i64 a1_6, .int .i64 a1_7, .bool a1_8, .int .i64 a1_9]) (t := 45) ?hr ?_; (case hd => rfl); (case hg => rfl); (case hr => first | (go_simp; done) | (go_simp; rfl)); intro gb135 hg w8 hbox hb; have BK135 := Aside0.mk (hbox); have GW135 := Aside0.mk (xZ HB hg); have GE135 := Aside0.mk (xZ HB hg); have NB134_135 := Aside0.mk (xN BK134 hg); have NB135_134 := Aside0.mk (xM BK134 hg); replace BK134 := Aside0.mk (xB BK134 hb); replace HB := Aside0.mk (xS HB hb); clear hb hbox hg) | ((with_reducible refine gate_dst (N := 6) rfl ?_); refine box_event ?hg (N := 6) ?hd (cs := #[.int .i64 0, .int .i64 0, .int .i64 0, .int .i64 0, .int .i64 0, .int .i64 0, .int .i64 0, .int .i64 0, .bool false, .int .i64 0]) (t := 45) ?hr ?_; (case hd => rfl); (case hg => rfl); (case hr => first | (go_simp; done) | (go_simp; rfl)); intro gb136 hg w9 hbox hb; have BK136 := Aside0.mk (hbox); have GW136 := Aside0.mk (xZ HB hg); have GE136 := Aside0.mk (xZ HB hg); have NB134_136 := Aside0.mk (xN BK134 hg); have NB136_134 := Aside0.mk (xM BK134 hg); have NB135_136 := Aside0.mk (xN BK135 hg); have NB136_135 := Aside0.mk (xM BK135 hg); replace BK134 := Aside0.mk (xB BK134 hb); replace BK135 := Aside0.mk (xB BK135 hb); replace HB := Aside0.mk (xS HB hb); clear hb hbox hg; have hnb10 := NB134_135.out; have hnc10 := NB135_134.out; have hnb11 := NB134_136.out; have hnc11 := NB136_134.out; have hcz12_0 := blkc3 BK134.out; have hnb13 := NB135_136.out; have hnc13 := NB136_135.out; have hcz14_0 := blkc10 BK135.out) | ((with_reducible refine gate_callee (f := 25) rfl ?_); refine goesL_ (some 11) rfl rfl Try.func25 (by kernel_rfl) rfl #[.agg #[.slice A0_0 l0_0.length c0_0, .int .i64 a0_1, .int .i64 a0_2], .agg #[.int .i64 a1_0, .int .i64 a1_1, .int .i64 a1_2, .int .i64 a1_3, .int .i64 a1_4, .int .i64 a1_5, .int .i64 a1_6, .int .i64 a1_7, .bool a1_8, .int .i64 a1_9]] rfl (by (try simp only [List.map_toArray, List.map_cons, List.map_nil]); first | done | rfl | (simp only [List.length_drop, List.length_take]; rfl)) ?_; (with_reducible refine (clock_Valid.calls k _ _ l0_0 a0_1 a0_2 a1_0 a1_1 a1_2 a1_3 a1_4 a1_5 a1_6 a1_7 a1_8 a1_9 t137 _ ?side1 ?side2 A4.out).mono ?_); (case side1 => exact xC (Kd.C_below HR0_0.out HB.out)); (case side2 => exact HC0_0.out); rintro e w15 ⟨rfl, hb⟩; refine ⟨_, rfl, ?_⟩; replace BK134 := Aside0.mk (xB BK134 hb); replace BK135 := Aside0.mk (xB BK135 hb); replace BK136 := Aside0.mk (xB BK136 hb); replace HB := Aside0.mk (xS HB hb); (try clear hb); (try clear hb2); (try clear hk); (try clear hi)))
  (try have hq135_134 := NB135_134.out); (try have hq134_135 := NB134_135.out); (try have hq135_136 := NB135_136.out); (try have hq136_135 := NB136_135.out); (try have hq136_134 := NB136_134.out); (try have hq134_136 := NB134_136.out)
  (try simp only [Act.put, List.setIfInBounds_toArray, List.set_cons_zero, List.set_cons_succ])
  go_cut [23] (fun vs23 wc => ∃ (kq : Nat) (x23_5 : Bool), vs23 = .bool x23_5 ∧ Aside0 (clock_Look.j0 kq a2 x23_5 l0_0 a0_1 a0_2 a1_0 a1_1 a1_2 a1_3 a1_4 a1_5 a1_6 a1_7 a1_8 a1_9 = some (r1, r2, r3, r4, r5, r6, r7, r8, r9, r10, r11)) ∧ Aside0 (kq ≤ k) ∧ Aside0 (wc.heap[gb134]? = some (.cells #[(.slice A0_0 l0_0.length c0_0), .int .i64 a0_1, .int .i64 a0_2] 42 (0, 0))) ∧ Aside0 (wc.heap[gb135]? = some (.cells #[.int .i64 a1_0, .int .i64 a1_1, .int .i64 a1_2, .int .i64 a1_3, .int .i64 a1_4, .int .i64 a1_5, .int .i64 a1_6, .int .i64 a1_7, .bool a1_8, .int .i64 a1_9] 45 (0, 0))) ∧ Aside0 (wc.heap[gb136]? = some (.cells #[.int .i64 0, .int .i64 0, .int .i64 0, .int .i64 0, .int .i64 0, .int .i64 0, .int .i64 0, .int .i64 0, .bool false, .int .i64 0] 45 (0, 0))) ∧ Aside0 (Below w.heap.size w wc))
  case first =>
   have H := HC6.out; clear HC6
   by_cases c16 : a2 < a1_7
   ·rw [if_pos c16] at H
    have c16b0 : decide (a2 < a1_7) = true := decide_eq_true c16
    clear c16
    (first | rw [c16b0] | (simp only [i64_w, i32_w]; rw [c16b0]) | skip)
    have H' := Aside0.mk H
    clear H; have hcz19_0 := blkc10 BK135.out
    go_wp2
    go_meet
    case rel => exact ⟨_, (true), (xrf), H', ⟨by first | omega | exact Nat.le_refl _⟩, ⟨xK BK134⟩, ⟨xK BK135⟩, ⟨xK BK136⟩, ⟨xW HB⟩⟩
   ·rw [if_neg c16] at H
    have c16b0 : decide (a2 < a1_7) = false := decide_eq_false c16
    clear c16
    (first | rw [c16b0] | (simp only [i64_w, i32_w]; rw [c16b0]) | skip)
    have H' := Aside0.mk H
    clear H; have hcz22_0 := blkc10 BK135.out
    go_wp2
    go_meet
    case rel => exact ⟨_, (decide (a2 > 100000000)), (xrf), H', ⟨by first | omega | exact Nat.le_refl _⟩, ⟨xK BK134⟩, ⟨xK BK135⟩, ⟨xK BK136⟩, ⟨xW HB⟩⟩
  case rest =>
   clear HC6; (try clear p2)
   obtain ⟨kq, x23_5, rfl, HA, HJ5, BK134, BK135, BK136, HB⟩ := hcut
   cases kq with
   | zero => exact absurd HA.out (by simp [clock_Look.j0])
   | succ kj5 =>
    have H := HA.out; clear HA
    simp only [clock_Look.j0] at H
    by_cases c23 : x23_5 = true
    ·subst c23
     rw [if_pos rfl] at H
     simp only [Option.some.injEq, Prod.mk.injEq] at H
     obtain ⟨rfl, rfl, rfl, rfl, rfl, rfl, rfl, rfl, rfl, rfl, rfl⟩ := H
     have hcz26_0 := blkc10 BK136.out
     go_wp2
     refine bodyPost_ret (results_ct rfl _ _ gb136 45 #[.int .i64 0, .int .i64 0, .int .i64 0, .int .i64 0, .int .i64 0, .int .i64 0, .int .i64 0, .int .i64 0, .bool false, .int .i64 0] (0, 0) _ rfl (xQ BK136) Try.underlying45 rfl (by kernel_rfl)) rfl ?_
     exact ⟨xer, xW HB⟩
    ·replace c23 := Bool.eq_false_iff.mpr c23
     subst c23
     rw [if_neg (show ¬ (false = true) by decide)] at H
     by_cases c27 : a1_9 < 0
     ·rw [if_pos c27] at H
      have c27b0 : decide (a1_9 < 0) = true := decide_eq_true c27
      clear c27; replace H := Option.bind_eq_some_iff.mp H
      obtain ⟨t138, A280, H⟩ := H
      try dsimp only at H
      have A28 := Aside0.mk A280; clear A280
      by_cases c29 : 0 ≤ a1_6
      ·rw [if_pos c29] at H
       have c29b0 : decide (0 ≤ a1_6) = true := decide_eq_true c29
       clear c29
       by_cases c30 : a1_6 < 2
       ·rw [if_pos c30] at H
        have c30b0 : decide (a1_6 < 2) = true := decide_eq_true c30
        clear c30
        by_cases c31 : a1_6 = 0
        ·rw [if_pos c31] at H
         have c31b0 : (a1_6 == 0) = true := beq_iff_eq.mpr c31
         have c31b1 : (a1_6 != 0) = false := bne_eq_false_iff_eq.mpr c31
         clear c31; obtain ⟨c32b, c32g, c32c, c32d⟩ := xar (a1_6 : Int) 0 0 2
         by_cases c33 : t138 > a1_0
         ·rw [if_pos c33] at H
          have c33b0 : decide (a1_0 < t138) = true := decide_eq_true c33
          clear c33; obtain ⟨c34b, c34g, c34c, c34d⟩ := xar (a1_6 : Int) 0 0 2
          simp only [Option.some.injEq, Prod.mk.injEq] at H
          obtain ⟨rfl, rfl, rfl, rfl, rfl, rfl, rfl, rfl, rfl, rfl, rfl⟩ := H
          try go_wp2
          replace BK134 := Aside0.mk (blk_drew BK134.out); replace BK135 := Aside0.mk (blk_drew BK135.out); replace BK136 := Aside0.mk (blk_drew BK136.out); replace HB := Aside0.mk (below_drew1 HB.out)
          refine start_ (n := 15) (S := fun w' => ce w' gb135 0 (.int .i64 a1_0) ∧ ce w' gb135 1 (.int .i64 a1_1) ∧ ce w' gb135 2 (.int .i64 a1_2) ∧ ce w' gb135 3 (.int .i64 a1_3) ∧ ce w' gb135 4 (.int .i64 a1_4) ∧ ce w' gb135 5 (.int .i64 a1_5) ∧ ce w' gb135 6 (.int .i64 a1_6) ∧ ce w' gb135 7 (.int .i64 a1_7) ∧ ce w' gb135 8 (.bool a1_8) ∧ ce w' gb135 9 (.int .i64 a1_9) ∧ ce w' gb134 0 (.slice A0_0 l0_0.length c0_0) ∧ ce w' gb134 1 (.int .i64 a0_1) ∧ ce w' gb134 2 (.int .i64 a0_2)) (ds := []) (mk 15 0) (by kernel_rfl) rfl rfl ⟨xc BK135 0, xc BK135 1, xc BK135 2, xc BK135 3, xc BK135 4, xc BK135 5, xc BK135 6, xc BK135 7, xc BK135 8, xc BK135 9, xc BK134 0, xc BK134 1, xc BK134 2⟩ (fun hHeld => ?_); refine with_tabW clock_Look.tab6 clock_Look.bits6 (fun HT_ HW_ => ?_)
          generalize wc.drew = w35 at BK134 BK135 BK136 HB hHeld ⊢; refine pu_ 0 25 HT_ ?_; refine tk_ 1 26 HT_ HW_ hHeld ?_; refine pu_ 2 27 HT_ ?_; refine pu_ 3 28 HT_ ?_; refine pu_ 6 31 HT_ ?_; refine pu_ 8 33 HT_ ?_; refine pu_ 10 35 HT_ ?_; refine tk_ 4 29 HT_ HW_ hHeld ?_; refine tk_ 5 30 HT_ HW_ hHeld ?_; refine tk_ 9 34 HT_ HW_ hHeld ?_; refine pu_ 11 36 HT_ ?_; refine tk_ 12 37 HT_ HW_ hHeld ?_
          refine one_ (i := 7) (N := some 32) #[true, true, true, true, true, true, true, true, true, true, true, true, true, false, false] rfl rfl (one_of HT_.out (by kernel_rfl)) (by decide) (fun K hK => ?_)
          refine goes_ Try.func55 (by kernel_rfl) rfl #[.agg #[.slice A0_0 l0_0.length c0_0, .int .i64 a0_1, .int .i64 a0_2], .agg #[.int .i64 a1_0, .int .i64 a1_1, .int .i64 a1_2, .int .i64 a1_3, .int .i64 a1_4, .int .i64 a1_5, .int .i64 a1_6, .int .i64 a1_7, .bool a1_8, .int .i64 a1_9], .int .i64 a2] (by rfl) rfl rfl (by (try simp only [List.map_toArray, List.map_cons, List.map_nil]); first | done | rfl | (simp only [List.length_drop, List.length_take]; rfl)) ?_
          with_reducible refine (clock_used.calls _ _ l0_0 a0_1 a0_2 a1_0 a1_1 a1_2 a1_3 a1_4 a1_5 a1_6 a1_7 a1_8 a1_9 a2 t138 _ ?side1 ?side2 A28.out).mono ?_
          (case side1 => exact xC (Kd.C_below HR0_0.out HB.out))
          (case side2 => exact HC0_0.out)
          rintro e w36 ⟨rfl, hb⟩
          refine ⟨_, rfl, ?_⟩
          replace BK134 := Aside0.mk (xB BK134 hb); replace BK135 := Aside0.mk (xB BK135 hb); replace BK136 := Aside0.mk (xB BK136 hb); replace HB := Aside0.mk (xS HB hb)
          (try clear hb)
          (try clear hb2)
          (try clear hk)
          (try clear hi)
          refine hK.out _ _ ⟨(blk_cell BK135.out 0).trans rfl, (blk_cell BK135.out 1).trans rfl, (blk_cell BK135.out 2).trans rfl, (blk_cell BK135.out 3).trans rfl, (blk_cell BK135.out 4).trans rfl, (blk_cell BK135.out 5).trans rfl, (blk_cell BK135.out 6).trans rfl, (blk_cell BK135.out 7).trans rfl, (blk_cell BK135.out 8).trans rfl, (blk_cell BK135.out 9).trans rfl, (blk_cell BK134.out 0).trans rfl, (blk_cell BK134.out 1).trans rfl, (blk_cell BK134.out 2).trans rfl⟩ (fun hHeld => ?_)
          clear hK K
          refine norm_ (a' := ?_) ?_ ?_
          rotate_left
          ·show Act.put _ (some 32) _ = _
           simp only [Act.put, List.setIfInBounds_toArray, List.set_cons_zero, List.set_cons_succ, i64_w, i32_w]
           rfl
          refine pu_ 13 38 HT_ ?_; refine pu_ 14 39 HT_ ?_
          refine done_ (done_of HT_.out (by kernel_rfl)) ?_
          have hcz39_0 := blkc10 BK135.out; have hcz41_0 := blkc10 BK136.out
          try go_wp2
          refine bodyPost_ret (results_ct rfl _ _ gb136 45 #[.int .i64 0, .int .i64 a1_1, .int .i64 a1_2, .int .i64 a1_3, .int .i64 a1_4, .int .i64 a1_5, .int .i64 a1_6, .int .i64 a1_7, .bool a1_8, .int .i64 a1_6] (0, 0) _ rfl (xQ BK136) Try.underlying45 rfl (by kernel_rfl)) rfl ?_
          exact ⟨xer, xW HB⟩
         ·rw [if_neg c33] at H
          have c33b0 : decide (a1_0 < t138) = false := decide_eq_false c33
          clear c33
          simp only [Option.some.injEq, Prod.mk.injEq] at H
          obtain ⟨rfl, rfl, rfl, rfl, rfl, rfl, rfl, rfl, rfl, rfl, rfl⟩ := H
          try go_wp2
          replace BK134 := Aside0.mk (blk_drew BK134.out); replace BK135 := Aside0.mk (blk_drew BK135.out); replace BK136 := Aside0.mk (blk_drew BK136.out); replace HB := Aside0.mk (below_drew1 HB.out)
          refine start_ (n := 15) (S := fun w' => ce w' gb135 0 (.int .i64 a1_0) ∧ ce w' gb135 1 (.int .i64 a1_1) ∧ ce w' gb135 2 (.int .i64 a1_2) ∧ ce w' gb135 3 (.int .i64 a1_3) ∧ ce w' gb135 4 (.int .i64 a1_4) ∧ ce w' gb135 5 (.int .i64 a1_5) ∧ ce w' gb135 6 (.int .i64 a1_6) ∧ ce w' gb135 7 (.int .i64 a1_7) ∧ ce w' gb135 8 (.bool a1_8) ∧ ce w' gb135 9 (.int .i64 a1_9) ∧ ce w' gb134 0 (.slice A0_0 l0_0.length c0_0) ∧ ce w' gb134 1 (.int .i64 a0_1) ∧ ce w' gb134 2 (.int .i64 a0_2)) (ds := []) (mk 15 0) (by kernel_rfl) rfl rfl ⟨xc BK135 0, xc BK135 1, xc BK135 2, xc BK135 3, xc BK135 4, xc BK135 5, xc BK135 6, xc BK135 7, xc BK135 8, xc BK135 9, xc BK134 0, xc BK134 1, xc BK134 2⟩ (fun hHeld => ?_); refine with_tabW clock_Look.tab6 clock_Look.bits6 (fun HT_ HW_ => ?_)
          generalize wc.drew = w42 at BK134 BK135 BK136 HB hHeld ⊢; refine pu_ 0 25 HT_ ?_; refine tk_ 1 26 HT_ HW_ hHeld ?_; refine pu_ 2 27 HT_ ?_; refine pu_ 3 28 HT_ ?_; refine pu_ 6 31 HT_ ?_; refine pu_ 8 33 HT_ ?_; refine pu_ 10 35 HT_ ?_; refine tk_ 4 29 HT_ HW_ hHeld ?_; refine tk_ 5 30 HT_ HW_ hHeld ?_; refine tk_ 9 34 HT_ HW_ hHeld ?_; refine pu_ 11 36 HT_ ?_; refine tk_ 12 37 HT_ HW_ hHeld ?_
          refine one_ (i := 7) (N := some 32) #[true, true, true, true, true, true, true, true, true, true, true, true, true, false, false] rfl rfl (one_of HT_.out (by kernel_rfl)) (by decide) (fun K hK => ?_)
          refine goes_ Try.func55 (by kernel_rfl) rfl #[.agg #[.slice A0_0 l0_0.length c0_0, .int .i64 a0_1, .int .i64 a0_2], .agg #[.int .i64 a1_0, .int .i64 a1_1, .int .i64 a1_2, .int .i64 a1_3, .int .i64 a1_4, .int .i64 a1_5, .int .i64 a1_6, .int .i64 a1_7, .bool a1_8, .int .i64 a1_9], .int .i64 a2] (by rfl) rfl rfl (by (try simp only [List.map_toArray, List.map_cons, List.map_nil]); first | done | rfl | (simp only [List.length_drop, List.length_take]; rfl)) ?_
          with_reducible refine (clock_used.calls _ _ l0_0 a0_1 a0_2 a1_0 a1_1 a1_2 a1_3 a1_4 a1_5 a1_6 a1_7 a1_8 a1_9 a2 t138 _ ?side1 ?side2 A28.out).mono ?_
          (case side1 => exact xC (Kd.C_below HR0_0.out HB.out))
          (case side2 => exact HC0_0.out)
          rintro e w43 ⟨rfl, hb⟩
          refine ⟨_, rfl, ?_⟩
          replace BK134 := Aside0.mk (xB BK134 hb); replace BK135 := Aside0.mk (xB BK135 hb); replace BK136 := Aside0.mk (xB BK136 hb); replace HB := Aside0.mk (xS HB hb)
          (try clear hb)
          (try clear hb2)
          (try clear hk)
          (try clear hi)
          refine hK.out _ _ ⟨(blk_cell BK135.out 0).trans rfl, (blk_cell BK135.out 1).trans rfl, (blk_cell BK135.out 2).trans rfl, (blk_cell BK135.out 3).trans rfl, (blk_cell BK135.out 4).trans rfl, (blk_cell BK135.out 5).trans rfl, (blk_cell BK135.out 6).trans rfl, (blk_cell BK135.out 7).trans rfl, (blk_cell BK135.out 8).trans rfl, (blk_cell BK135.out 9).trans rfl, (blk_cell BK134.out 0).trans rfl, (blk_cell BK134.out 1).trans rfl, (blk_cell BK134.out 2).trans rfl⟩ (fun hHeld => ?_)
          clear hK K
          refine norm_ (a' := ?_) ?_ ?_
          rotate_left
          ·show Act.put _ (some 32) _ = _
           simp only [Act.put, List.setIfInBounds_toArray, List.set_cons_zero, List.set_cons_succ, i64_w, i32_w]
           rfl
          refine pu_ 13 38 HT_ ?_; refine pu_ 14 39 HT_ ?_
          refine done_ (done_of HT_.out (by kernel_rfl)) ?_
          have hcz46_0 := blkc10 BK135.out; have hcz48_0 := blkc10 BK136.out
          try go_wp2
          refine bodyPost_ret (results_ct rfl _ _ gb136 45 #[.int .i64 a1_0, .int .i64 a1_1, .int .i64 a1_2, .int .i64 a1_3, .int .i64 a1_4, .int .i64 a1_5, .int .i64 a1_6, .int .i64 a1_7, .bool a1_8, .int .i64 a1_9] (0, 0) _ rfl (xQ BK136) Try.underlying45 rfl (by kernel_rfl)) rfl ?_
          exact ⟨xer, xW HB⟩
        ·rw [if_neg c31] at H
         have c31b0 : (a1_6 == 0) = false := beq_eq_false_iff_ne.mpr c31
         have c31b1 : (a1_6 != 0) = true := bne_iff_ne.mpr c31
         obtain ⟨c49b, c49g, c49c, c49d⟩ := xar (a1_6 : Int) 1 1 2
         by_cases c50 : t138 > a1_1
         ·rw [if_pos c50] at H
          have c50b0 : decide (a1_1 < t138) = true := decide_eq_true c50
          clear c50; obtain ⟨c51b, c51g, c51c, c51d⟩ := xar (a1_6 : Int) 1 1 2
          simp only [Option.some.injEq, Prod.mk.injEq] at H
          obtain ⟨rfl, rfl, rfl, rfl, rfl, rfl, rfl, rfl, rfl, rfl, rfl⟩ := H
          try go_wp2
          replace BK134 := Aside0.mk (blk_drew BK134.out); replace BK135 := Aside0.mk (blk_drew BK135.out); replace BK136 := Aside0.mk (blk_drew BK136.out); replace HB := Aside0.mk (below_drew1 HB.out)
          refine start_ (n := 15) (S := fun w' => ce w' gb135 0 (.int .i64 a1_0) ∧ ce w' gb135 1 (.int .i64 a1_1) ∧ ce w' gb135 2 (.int .i64 a1_2) ∧ ce w' gb135 3 (.int .i64 a1_3) ∧ ce w' gb135 4 (.int .i64 a1_4) ∧ ce w' gb135 5 (.int .i64 a1_5) ∧ ce w' gb135 6 (.int .i64 a1_6) ∧ ce w' gb135 7 (.int .i64 a1_7) ∧ ce w' gb135 8 (.bool a1_8) ∧ ce w' gb135 9 (.int .i64 a1_9) ∧ ce w' gb134 0 (.slice A0_0 l0_0.length c0_0) ∧ ce w' gb134 1 (.int .i64 a0_1) ∧ ce w' gb134 2 (.int .i64 a0_2)) (ds := []) (mk 15 0) (by kernel_rfl) rfl rfl ⟨xc BK135 0, xc BK135 1, xc BK135 2, xc BK135 3, xc BK135 4, xc BK135 5, xc BK135 6, xc BK135 7, xc BK135 8, xc BK135 9, xc BK134 0, xc BK134 1, xc BK134 2⟩ (fun hHeld => ?_); refine with_tabW clock_Look.tab6 clock_Look.bits6 (fun HT_ HW_ => ?_)
          generalize wc.drew = w52 at BK134 BK135 BK136 HB hHeld ⊢; refine pu_ 0 25 HT_ ?_; refine tk_ 1 26 HT_ HW_ hHeld ?_; refine pu_ 2 27 HT_ ?_; refine pu_ 3 28 HT_ ?_; refine pu_ 6 31 HT_ ?_; refine pu_ 8 33 HT_ ?_; refine pu_ 10 35 HT_ ?_; refine tk_ 4 29 HT_ HW_ hHeld ?_; refine tk_ 5 30 HT_ HW_ hHeld ?_; refine tk_ 9 34 HT_ HW_ hHeld ?_; refine pu_ 11 36 HT_ ?_; refine tk_ 12 37 HT_ HW_ hHeld ?_
          refine one_ (i := 7) (N := some 32) #[true, true, true, true, true, true, true, true, true, true, true, true, true, false, false] rfl rfl (one_of HT_.out (by kernel_rfl)) (by decide) (fun K hK => ?_)
          refine goes_ Try.func55 (by kernel_rfl) rfl #[.agg #[.slice A0_0 l0_0.length c0_0, .int .i64 a0_1, .int .i64 a0_2], .agg #[.int .i64 a1_0, .int .i64 a1_1, .int .i64 a1_2, .int .i64 a1_3, .int .i64 a1_4, .int .i64 a1_5, .int .i64 a1_6, .int .i64 a1_7, .bool a1_8, .int .i64 a1_9], .int .i64 a2] (by rfl) rfl rfl (by (try simp only [List.map_toArray, List.map_cons, List.map_nil]); first | done | rfl | (simp only [List.length_drop, List.length_take]; rfl)) ?_
          with_reducible refine (clock_used.calls _ _ l0_0 a0_1 a0_2 a1_0 a1_1 a1_2 a1_3 a1_4 a1_5 a1_6 a1_7 a1_8 a1_9 a2 t138 _ ?side1 ?side2 A28.out).mono ?_
          (case side1 => exact xC (Kd.C_below HR0_0.out HB.out))
          (case side2 => exact HC0_0.out)
          rintro e w53 ⟨rfl, hb⟩
          refine ⟨_, rfl, ?_⟩
          replace BK134 := Aside0.mk (xB BK134 hb); replace BK135 := Aside0.mk (xB BK135 hb); replace BK136 := Aside0.mk (xB BK136 hb); replace HB := Aside0.mk (xS HB hb)
          (try clear hb)
          (try clear hb2)
          (try clear hk)
          (try clear hi)
          refine hK.out _ _ ⟨(blk_cell BK135.out 0).trans rfl, (blk_cell BK135.out 1).trans rfl, (blk_cell BK135.out 2).trans rfl, (blk_cell BK135.out 3).trans rfl, (blk_cell BK135.out 4).trans rfl, (blk_cell BK135.out 5).trans rfl, (blk_cell BK135.out 6).trans rfl, (blk_cell BK135.out 7).trans rfl, (blk_cell BK135.out 8).trans rfl, (blk_cell BK135.out 9).trans rfl, (blk_cell BK134.out 0).trans rfl, (blk_cell BK134.out 1).trans rfl, (blk_cell BK134.out 2).trans rfl⟩ (fun hHeld => ?_)
          clear hK K
          refine norm_ (a' := ?_) ?_ ?_
          rotate_left
          ·show Act.put _ (some 32) _ = _
           simp only [Act.put, List.setIfInBounds_toArray, List.set_cons_zero, List.set_cons_succ, i64_w, i32_w]
           rfl
          refine pu_ 13 38 HT_ ?_; refine pu_ 14 39 HT_ ?_
          refine done_ (done_of HT_.out (by kernel_rfl)) ?_
          have hcz56_0 := blkc10 BK135.out; have hcz58_0 := blkc10 BK136.out
          try go_wp2
          refine bodyPost_ret (results_ct rfl _ _ gb136 45 #[.int .i64 a1_0, .int .i64 0, .int .i64 a1_2, .int .i64 a1_3, .int .i64 a1_4, .int .i64 a1_5, .int .i64 a1_6, .int .i64 a1_7, .bool a1_8, .int .i64 a1_6] (0, 0) _ rfl (xQ BK136) Try.underlying45 rfl (by kernel_rfl)) rfl ?_
          exact ⟨xer, xW HB⟩
         ·rw [if_neg c50] at H
          have c50b0 : decide (a1_1 < t138) = false := decide_eq_false c50
          clear c50
          simp only [Option.some.injEq, Prod.mk.injEq] at H
          obtain ⟨rfl, rfl, rfl, rfl, rfl, rfl, rfl, rfl, rfl, rfl, rfl⟩ := H
          try go_wp2
          replace BK134 := Aside0.mk (blk_drew BK134.out); replace BK135 := Aside0.mk (blk_drew BK135.out); replace BK136 := Aside0.mk (blk_drew BK136.out); replace HB := Aside0.mk (below_drew1 HB.out)
          refine start_ (n := 15) (S := fun w' => ce w' gb135 0 (.int .i64 a1_0) ∧ ce w' gb135 1 (.int .i64 a1_1) ∧ ce w' gb135 2 (.int .i64 a1_2) ∧ ce w' gb135 3 (.int .i64 a1_3) ∧ ce w' gb135 4 (.int .i64 a1_4) ∧ ce w' gb135 5 (.int .i64 a1_5) ∧ ce w' gb135 6 (.int .i64 a1_6) ∧ ce w' gb135 7 (.int .i64 a1_7) ∧ ce w' gb135 8 (.bool a1_8) ∧ ce w' gb135 9 (.int .i64 a1_9) ∧ ce w' gb134 0 (.slice A0_0 l0_0.length c0_0) ∧ ce w' gb134 1 (.int .i64 a0_1) ∧ ce w' gb134 2 (.int .i64 a0_2)) (ds := []) (mk 15 0) (by kernel_rfl) rfl rfl ⟨xc BK135 0, xc BK135 1, xc BK135 2, xc BK135 3, xc BK135 4, xc BK135 5, xc BK135 6, xc BK135 7, xc BK135 8, xc BK135 9, xc BK134 0, xc BK134 1, xc BK134 2⟩ (fun hHeld => ?_); refine with_tabW clock_Look.tab6 clock_Look.bits6 (fun HT_ HW_ => ?_)
          generalize wc.drew = w59 at BK134 BK135 BK136 HB hHeld ⊢; refine pu_ 0 25 HT_ ?_; refine tk_ 1 26 HT_ HW_ hHeld ?_; refine pu_ 2 27 HT_ ?_; refine pu_ 3 28 HT_ ?_; refine pu_ 6 31 HT_ ?_; refine pu_ 8 33 HT_ ?_; refine pu_ 10 35 HT_ ?_; refine tk_ 4 29 HT_ HW_ hHeld ?_; refine tk_ 5 30 HT_ HW_ hHeld ?_; refine tk_ 9 34 HT_ HW_ hHeld ?_; refine pu_ 11 36 HT_ ?_; refine tk_ 12 37 HT_ HW_ hHeld ?_
          refine one_ (i := 7) (N := some 32) #[true, true, true, true, true, true, true, true, true, true, true, true, true, false, false] rfl rfl (one_of HT_.out (by kernel_rfl)) (by decide) (fun K hK => ?_)
          refine goes_ Try.func55 (by kernel_rfl) rfl #[.agg #[.slice A0_0 l0_0.length c0_0, .int .i64 a0_1, .int .i64 a0_2], .agg #[.int .i64 a1_0, .int .i64 a1_1, .int .i64 a1_2, .int .i64 a1_3, .int .i64 a1_4, .int .i64 a1_5, .int .i64 a1_6, .int .i64 a1_7, .bool a1_8, .int .i64 a1_9], .int .i64 a2] (by rfl) rfl rfl (by (try simp only [List.map_toArray, List.map_cons, List.map_nil]); first | done | rfl | (simp only [List.length_drop, List.length_take]; rfl)) ?_
          with_reducible refine (clock_used.calls _ _ l0_0 a0_1 a0_2 a1_0 a1_1 a1_2 a1_3 a1_4 a1_5 a1_6 a1_7 a1_8 a1_9 a2 t138 _ ?side1 ?side2 A28.out).mono ?_
          (case side1 => exact xC (Kd.C_below HR0_0.out HB.out))
          (case side2 => exact HC0_0.out)
          rintro e w60 ⟨rfl, hb⟩
          refine ⟨_, rfl, ?_⟩
          replace BK134 := Aside0.mk (xB BK134 hb); replace BK135 := Aside0.mk (xB BK135 hb); replace BK136 := Aside0.mk (xB BK136 hb); replace HB := Aside0.mk (xS HB hb)
          (try clear hb)
          (try clear hb2)
          (try clear hk)
          (try clear hi)
          refine hK.out _ _ ⟨(blk_cell BK135.out 0).trans rfl, (blk_cell BK135.out 1).trans rfl, (blk_cell BK135.out 2).trans rfl, (blk_cell BK135.out 3).trans rfl, (blk_cell BK135.out 4).trans rfl, (blk_cell BK135.out 5).trans rfl, (blk_cell BK135.out 6).trans rfl, (blk_cell BK135.out 7).trans rfl, (blk_cell BK135.out 8).trans rfl, (blk_cell BK135.out 9).trans rfl, (blk_cell BK134.out 0).trans rfl, (blk_cell BK134.out 1).trans rfl, (blk_cell BK134.out 2).trans rfl⟩ (fun hHeld => ?_)
          clear hK K
          refine norm_ (a' := ?_) ?_ ?_
          rotate_left
          ·show Act.put _ (some 32) _ = _
           simp only [Act.put, List.setIfInBounds_toArray, List.set_cons_zero, List.set_cons_succ, i64_w, i32_w]
           rfl
          refine pu_ 13 38 HT_ ?_; refine pu_ 14 39 HT_ ?_
          refine done_ (done_of HT_.out (by kernel_rfl)) ?_
          have hcz63_0 := blkc10 BK135.out; have hcz65_0 := blkc10 BK136.out
          try go_wp2
          refine bodyPost_ret (results_ct rfl _ _ gb136 45 #[.int .i64 a1_0, .int .i64 a1_1, .int .i64 a1_2, .int .i64 a1_3, .int .i64 a1_4, .int .i64 a1_5, .int .i64 a1_6, .int .i64 a1_7, .bool a1_8, .int .i64 a1_9] (0, 0) _ rfl (xQ BK136) Try.underlying45 rfl (by kernel_rfl)) rfl ?_
          exact ⟨xer, xW HB⟩
       ·rw [if_neg c30] at H
        exact absurd H (by simp)
      ·rw [if_neg c29] at H
       exact absurd H (by simp)
     ·rw [if_neg c27] at H
      have c27b0 : decide (a1_9 < 0) = false := decide_eq_false c27
      clear c27
      simp only [Option.some.injEq, Prod.mk.injEq] at H
      obtain ⟨rfl, rfl, rfl, rfl, rfl, rfl, rfl, rfl, rfl, rfl, rfl⟩ := H
      try go_wp2
      replace BK134 := Aside0.mk (blk_drew BK134.out); replace BK135 := Aside0.mk (blk_drew BK135.out); replace BK136 := Aside0.mk (blk_drew BK136.out); replace HB := Aside0.mk (below_drew1 HB.out)
      refine start_ (n := 15) (S := fun w' => ce w' gb135 0 (.int .i64 a1_0) ∧ ce w' gb135 1 (.int .i64 a1_1) ∧ ce w' gb135 2 (.int .i64 a1_2) ∧ ce w' gb135 3 (.int .i64 a1_3) ∧ ce w' gb135 4 (.int .i64 a1_4) ∧ ce w' gb135 5 (.int .i64 a1_5) ∧ ce w' gb135 6 (.int .i64 a1_6) ∧ ce w' gb135 7 (.int .i64 a1_7) ∧ ce w' gb135 8 (.bool a1_8) ∧ ce w' gb135 9 (.int .i64 a1_9)) (ds := []) (mk 15 0) (by kernel_rfl) rfl rfl ⟨xc BK135 0, xc BK135 1, xc BK135 2, xc BK135 3, xc BK135 4, xc BK135 5, xc BK135 6, xc BK135 7, xc BK135 8, xc BK135 9⟩ (fun hHeld => ?_); refine with_tabW clock_Look.tab6 clock_Look.bits6 (fun HT_ HW_ => ?_)
      generalize wc.drew = w66 at BK134 BK135 BK136 HB hHeld ⊢; refine pu_ 0 25 HT_ ?_; refine tk_ 1 26 HT_ HW_ hHeld ?_; refine pu_ 2 27 HT_ ?_; refine pu_ 3 28 HT_ ?_; refine pn_ 4 29 HT_ ?_; refine pn_ 5 30 HT_ ?_; refine pn_ 6 31 HT_ ?_; refine pn_ 7 32 HT_ ?_; refine pn_ 8 33 HT_ ?_; refine pn_ 9 34 HT_ ?_; refine pn_ 10 35 HT_ ?_; refine pn_ 11 36 HT_ ?_; refine pn_ 12 37 HT_ ?_; refine pn_ 13 38 HT_ ?_; refine pu_ 14 39 HT_ ?_
      refine done_ (done_of HT_.out (by kernel_rfl)) ?_
      have hcz69_0 := blkc10 BK135.out; have hcz71_0 := blkc10 BK136.out
      try go_wp2
      refine bodyPost_ret (results_ct rfl _ _ gb136 45 #[.int .i64 a1_0, .int .i64 a1_1, .int .i64 a1_2, .int .i64 a1_3, .int .i64 a1_4, .int .i64 a1_5, .int .i64 a1_6, .int .i64 a1_7, .bool a1_8, .int .i64 a1_9] (0, 0) _ rfl (xQ BK136) Try.underlying45 rfl (by kernel_rfl)) rfl ?_
      exact ⟨xer, xW HB⟩
 ·rw [if_neg c5] at H
  have c5b0 : (t137 == 0) = false := beq_eq_false_iff_ne.mpr c5
  have c5b1 : (t137 != 0) = true := bne_iff_ne.mpr c5
  simp only [Option.some.injEq, Prod.mk.injEq] at H
  obtain ⟨rfl, rfl, rfl, rfl, rfl, rfl, rfl, rfl, rfl, rfl, rfl⟩ := H
  go_enter Try.func28, Try.ntmps28
  go_wp2_with (first | ((with_reducible refine gate_dst (N := 3) rfl ?_); refine box_event ?hg (N := 3) ?hd (cs := #[.slice A0_0 l0_0.length c0_0, .int .i64 a0_1, .int .i64 a0_2]) (t := 42) ?hr ?_; (case hd => rfl); (case hg => rfl); (case hr => first | (go_simp; done) | (go_simp; rfl)); intro gb134 hg w72 hbox hb; have BK134 := Aside0.mk (hbox); have GW134 := Aside0.mk (xZ HB hg); have GE134 := Aside0.mk (xZ HB hg); replace HB := Aside0.mk (xS HB hb); clear hb hbox hg) | ((with_reducible refine gate_dst (N := 4) rfl ?_); refine box_event ?hg (N := 4) ?hd (cs := #[.int .i64 a1_0, .int .i64 a1_1, .int .i64 a1_2, .int .i64 a1_3, .int .i64 a1_4, .int .i64 a1_5, .int .i64 a1_6, .int .i64 a1_7, .bool a1_8, .int .i64 a1_9]) (t := 45) ?hr ?_; (case hd => rfl); (case hg => rfl); (case hr => first | (go_simp; done) | (go_simp; rfl)); intro gb135 hg w73 hbox hb; have BK135 := Aside0.mk (hbox); have GW135 := Aside0.mk (xZ HB hg); have GE135 := Aside0.mk (xZ HB hg); have NB134_135 := Aside0.mk (xN BK134 hg); have NB135_134 := Aside0.mk (xM BK134 hg); replace BK134 := Aside0.mk (xB BK134 hb); replace HB := Aside0.mk (xS HB hb); clear hb hbox hg) | ((with_reducible refine gate_dst (N := 6) rfl ?_); refine box_event ?hg (N := 6) ?hd (cs := #[.int .i64 0, .int .i64 0, .int .i64 0, .int .i64 0, .int .i64 0, .int .i64 0, .int .i64 0, .int .i64 0, .bool false, .int .i64 0]) (t := 45) ?hr ?_; (case hd => rfl); (case hg => rfl); (case hr => first | (go_simp; done) | (go_simp; rfl)); intro gb136 hg w74 hbox hb; have BK136 := Aside0.mk (hbox); have GW136 := Aside0.mk (xZ HB hg); have GE136 := Aside0.mk (xZ HB hg); have NB134_136 := Aside0.mk (xN BK134 hg); have NB136_134 := Aside0.mk (xM BK134 hg); have NB135_136 := Aside0.mk (xN BK135 hg); have NB136_135 := Aside0.mk (xM BK135 hg); replace BK134 := Aside0.mk (xB BK134 hb); replace BK135 := Aside0.mk (xB BK135 hb); replace HB := Aside0.mk (xS HB hb); clear hb hbox hg; have hnb75 := NB134_135.out; have hnc75 := NB135_134.out; have hnb76 := NB134_136.out; have hnc76 := NB136_134.out; have hcz77_0 := blkc3 BK134.out; have hnb78 := NB135_136.out; have hnc78 := NB136_135.out; have hcz79_0 := blkc10 BK135.out) | ((with_reducible refine gate_callee (f := 25) rfl ?_); refine goesL_ (some 11) rfl rfl Try.func25 (by kernel_rfl) rfl #[.agg #[.slice A0_0 l0_0.length c0_0, .int .i64 a0_1, .int .i64 a0_2], .agg #[.int .i64 a1_0, .int .i64 a1_1, .int .i64 a1_2, .int .i64 a1_3, .int .i64 a1_4, .int .i64 a1_5, .int .i64 a1_6, .int .i64 a1_7, .bool a1_8, .int .i64 a1_9]] rfl (by (try simp only [List.map_toArray, List.map_cons, List.map_nil]); first | done | rfl | (simp only [List.length_drop, List.length_take]; rfl)) ?_; (with_reducible refine (clock_Valid.calls k _ _ l0_0 a0_1 a0_2 a1_0 a1_1 a1_2 a1_3 a1_4 a1_5 a1_6 a1_7 a1_8 a1_9 t137 _ ?side1 ?side2 A4.out).mono ?_); (case side1 => exact xC (Kd.C_below HR0_0.out HB.out)); (case side2 => exact HC0_0.out); rintro e w80 ⟨rfl, hb⟩; refine ⟨_, rfl, ?_⟩; replace BK134 := Aside0.mk (xB BK134 hb); replace BK135 := Aside0.mk (xB BK135 hb); replace BK136 := Aside0.mk (xB BK136 hb); replace HB := Aside0.mk (xS HB hb); (try clear hb); (try clear hb2); (try clear hk); (try clear hi); have hcz81_0 := blkc10 BK136.out))
  refine bodyPost_ret (results_ct rfl _ _ gb136 45 #[.int .i64 0, .int .i64 0, .int .i64 0, .int .i64 0, .int .i64 0, .int .i64 0, .int .i64 0, .int .i64 0, .bool false, .int .i64 0] (0, 0) _ rfl (xQ BK136) Try.underlying45 rfl (by kernel_rfl)) rfl ?_
  exact ⟨xer, xW HB⟩

/-! ### clock_Stop: function 22 -/
def clock_Stop.f (k : Nat) (l0_0 : List (S91)) (a0_1 : Int) (a0_2 : Int) (a1_0 : Int) (a1_1 : Int) (a1_2 : Int) (a1_3 : Int) (a1_4 : Int) (a1_5 : Int) (a1_6 : Int) (a1_7 : Int) (a1_8 : Bool) (a1_9 : Int) (a2 : Int) : Option (Int × Int × Int × Int × Int × Int × Int × Int × Bool × Int × Int) := (clock_Look.f k l0_0 a0_1 a0_2 a1_0 a1_1 a1_2 a1_3 a1_4 a1_5 a1_6 a1_7 a1_8 a1_9 a2).bind fun bt142 => (if bt142.2.2.2.2.2.2.2.2.2.2 = 0 then (if bt142.2.2.2.2.2.2.2.2.2.1 ≥ 0 then (some (0, 0, 0, 0, 0, 0, 0, 0, false, 0, 14)) else (if bt142.2.2.2.2.2.2.2.2.1 = true then (some (0, 0, 0, 0, 0, 0, 0, 0, false, 0, 10)) else (if 0 ≤ bt142.2.2.2.2.2.2.1 then (if bt142.2.2.2.2.2.2.1 < 2 then (if bt142.2.2.2.2.2.2.1 = 0 then ((clock_used.f l0_0 a0_1 a0_2 bt142.1 bt142.2.1 bt142.2.2.1 bt142.2.2.2.1 bt142.2.2.2.2.1 bt142.2.2.2.2.2.1 bt142.2.2.2.2.2.2.1 bt142.2.2.2.2.2.2.2.1 bt142.2.2.2.2.2.2.2.2.1 bt142.2.2.2.2.2.2.2.2.2.1 a2).bind fun t154 => (some (wrap64 (bt142.1 - t154), bt142.2.1, bt142.2.2.1, bt142.2.2.2.1, bt142.2.2.2.2.1, bt142.2.2.2.2.2.1, bt142.2.2.2.2.2.2.1, a2, true, bt142.2.2.2.2.2.2.2.2.2.1, 0))) else ((clock_used.f l0_0 a0_1 a0_2 bt142.1 bt142.2.1 bt142.2.2.1 bt142.2.2.2.1 bt142.2.2.2.2.1 bt142.2.2.2.2.2.1 bt142.2.2.2.2.2.2.1 bt142.2.2.2.2.2.2.2.1 bt142.2.2.2.2.2.2.2.2.1 bt142.2.2.2.2.2.2.2.2.2.1 a2).bind fun t155 => (some (bt142.1, wrap64 (bt142.2.1 - t155), bt142.2.2.1, bt142.2.2.2.1, bt142.2.2.2.2.1, bt142.2.2.2.2.2.1, bt142.2.2.2.2.2.2.1, a2, true, bt142.2.2.2.2.2.2.2.2.2.1, 0)))) else (none)) else (none)))) else (some (0, 0, 0, 0, 0, 0, 0, 0, false, 0, bt142.2.2.2.2.2.2.2.2.2.2)))
theorem clock_Stop.mono : ∀ a0 a1 a2 a3 a4 a5 a6 a7 a8 a9 a10 a11 a12 a13 k, LeO (clock_Stop.f k a0 a1 a2 a3 a4 a5 a6 a7 a8 a9 a10 a11 a12 a13) (clock_Stop.f (k + 1) a0 a1 a2 a3 a4 a5 a6 a7 a8 a9 a10 a11 a12 a13) := by
  intro a0 a1 a2 a3 a4 a5 a6 a7 a8 a9 a10 a11 a12 a13 k
  unfold clock_Stop.f
  repeat' first
      | (with_reducible apply clock_Look.mono)
      | (with_reducible exact LeO.refl _)
      | (with_reducible exact LeO.none _)
      | (with_reducible refine LeO.ite ?_ ?_)
      | (with_reducible refine LeO.bind ?_ (fun _ => ?_))
      | apply clock_Look.mono
      | exact LeO.none _
      | refine LeO.ite ?_ ?_
      | refine LeO.bind ?_ (fun _ => ?_)
def clock_Stop.T8 : Bool × List (List Nat × List Nat) := (true, [([], []), ([0], [0]), ([], []), ([2, 1], [1, 2]), ([3], [3]), ([], []), ([], []), ([], []), ([5, 6, 7], [5, 6, 7]), ([4, 8], [4, 8]), ([], []), ([10, 1, 0, 1, 2, 3, 4, 5, 6, 7, 8, 9], [1, 10]), ([11, 9, 8, 0, 1, 2, 3, 4, 5, 6, 7, 8, 9], [9, 11])])
def clock_Stop.B8 : List Nat := [0, 1, 0, 7, 15, 0, 0, 0, 224, 511, 0, 2047, 4095]
theorem clock_Stop.tab8 : rtab .any (opsOf Try.f22 8) = clock_Stop.T8 := by kernel_rfl
theorem clock_Stop.bits8 : waitsOk clock_Stop.T8.2 clock_Stop.B8 = true := by kernel_rfl
set_option maxHeartbeats 8000000 in
set_option maxRecDepth 100000 in
theorem clock_Stop.calls (k : Nat) (A0_0 : Option Addr) (c0_0 : Nat) (l0_0 : List (S91)) (a0_1 : Int) (a0_2 : Int) (a1_0 : Int) (a1_1 : Int) (a1_2 : Int) (a1_3 : Int) (a1_4 : Int) (a1_5 : Int) (a1_6 : Int) (a1_7 : Int) (a1_8 : Bool) (a1_9 : Int) (a2 : Int) (r1 : Int) (r2 : Int) (r3 : Int) (r4 : Int) (r5 : Int) (r6 : Int) (r7 : Int) (r8 : Int) (r9 : Bool) (r10 : Int) (r11 : Int) (w : World) (hr0_0 : Kd.C k91 w A0_0 l0_0.length l0_0) (hc0_0 : l0_0.length ≤ c0_0) (h : clock_Stop.f k l0_0 a0_1 a0_2 a1_0 a1_1 a1_2 a1_3 a1_4 a1_5 a1_6 a1_7 a1_8 a1_9 a2 = some (r1, r2, r3, r4, r5, r6, r7, r8, r9, r10, r11)) :
    Calls Try.prog 22 #[.agg #[.slice A0_0 l0_0.length c0_0, .int .i64 a0_1, .int .i64 a0_2], .agg #[.int .i64 a1_0, .int .i64 a1_1, .int .i64 a1_2, .int .i64 a1_3, .int .i64 a1_4, .int .i64 a1_5, .int .i64 a1_6, .int .i64 a1_7, .bool a1_8, .int .i64 a1_9], .int .i64 a2] w fun e w' => e = .returned (.tuple #[.agg #[.int .i64 r1, .int .i64 r2, .int .i64 r3, .int .i64 r4, .int .i64 r5, .int .i64 r6, .int .i64 r7, .int .i64 r8, .bool r9, .int .i64 r10], .int .i64 r11]) ∧ Below w.heap.size w w' := by
 have hu42 := Try.underlying42; have hu45 := Try.underlying45; have HR0_0 := Aside0.mk hr0_0; have HC0_0 := Aside0.mk hc0_0; clear hr0_0 hc0_0; have HB := Aside0.mk (Below.refl w.heap.size w); have hss_ := @isSome_setCell
 have H : ((clock_Look.f k l0_0 a0_1 a0_2 a1_0 a1_1 a1_2 a1_3 a1_4 a1_5 a1_6 a1_7 a1_8 a1_9 a2).bind fun bt142 => (if bt142.2.2.2.2.2.2.2.2.2.2 = 0 then (if bt142.2.2.2.2.2.2.2.2.2.1 ≥ 0 then (some (0, 0, 0, 0, 0, 0, 0, 0, false, 0, 14)) else (if bt142.2.2.2.2.2.2.2.2.1 = true then (some (0, 0, 0, 0, 0, 0, 0, 0, false, 0, 10)) else (if 0 ≤ bt142.2.2.2.2.2.2.1 then (if bt142.2.2.2.2.2.2.1 < 2 then (if bt142.2.2.2.2.2.2.1 = 0 then ((clock_used.f l0_0 a0_1 a0_2 bt142.1 bt142.2.1 bt142.2.2.1 bt142.2.2.2.1 bt142.2.2.2.2.1 bt142.2.2.2.2.2.1 bt142.2.2.2.2.2.2.1 bt142.2.2.2.2.2.2.2.1 bt142.2.2.2.2.2.2.2.2.1 bt142.2.2.2.2.2.2.2.2.2.1 a2).bind fun t154 => (some (wrap64 (bt142.1 - t154), bt142.2.1, bt142.2.2.1, bt142.2.2.2.1, bt142.2.2.2.2.1, bt142.2.2.2.2.2.1, bt142.2.2.2.2.2.2.1, a2, true, bt142.2.2.2.2.2.2.2.2.2.1, 0))) else ((clock_used.f l0_0 a0_1 a0_2 bt142.1 bt142.2.1 bt142.2.2.1 bt142.2.2.2.1 bt142.2.2.2.2.1 bt142.2.2.2.2.2.1 bt142.2.2.2.2.2.2.1 bt142.2.2.2.2.2.2.2.1 bt142.2.2.2.2.2.2.2.2.1 bt142.2.2.2.2.2.2.2.2.2.1 a2).bind fun t155 => (some (bt142.1, wrap64 (bt142.2.1 - t155), bt142.2.2.1, bt142.2.2.2.1, bt142.2.2.2.2.1, bt142.2.2.2.2.2.1, bt142.2.2.2.2.2.2.1, a2, true, bt142.2.2.2.2.2.2.2.2.2.1, 0)))) else (none)) else (none)))) else (some (0, 0, 0, 0, 0, 0, 0, 0, false, 0, bt142.2.2.2.2.2.2.2.2.2.2)))) = some (r1, r2, r3, r4, r5, r6, r7, r8, r9, r10, r11) := h
 clear h; replace H := Option.bind_eq_some_iff.mp H
 obtain ⟨⟨t142, t143, t144, t145, t146, t147, t148, t149, t150, t151, t152⟩, A40, H⟩ := H
 try dsimp only at H
 have A4 := Aside0.mk A40; clear A40
 by_cases c5 : t152 = 0
 ·rw [if_pos c5] at H
  have c5b0 : (t152 == 0) = true := beq_iff_eq.mpr c5
  have c5b1 : (t152 != 0) = false := bne_eq_false_iff_eq.mpr c5
  clear c5
  by_cases c6 : t151 ≥ 0
  ·rw [if_pos c6] at H
   have c6b0 : decide (0 ≤ t151) = true := decide_eq_true c6
   clear c6
   simp only [Option.some.injEq, Prod.mk.injEq] at H
   obtain ⟨rfl, rfl, rfl, rfl, rfl, rfl, rfl, rfl, rfl, rfl, rfl⟩ := H
   go_enter Try.func22, Try.ntmps22
   go_wp2_with (first | ((with_reducible refine gate_dst (N := 3) rfl ?_); refine box_event ?hg (N := 3) ?hd (cs := #[.slice A0_0 l0_0.length c0_0, .int .i64 a0_1, .int .i64 a0_2]) (t := 42) ?hr ?_; (case hd => rfl); (case hg => rfl); (case hr => first | (go_simp; done) | (go_simp; rfl)); intro gb139 hg w7 hbox hb; have BK139 := Aside0.mk (hbox); have GW139 := Aside0.mk (xZ HB hg); have GE139 := Aside0.mk (xZ HB hg); replace HB := Aside0.mk (xS HB hb); clear hb hbox hg) | ((with_reducible refine gate_dst (N := 4) rfl ?_); refine box_event ?hg (N := 4) ?hd (cs := #[.int .i64 a1_0, .int .i64 a1_1, .int .i64 a1_2, .int .i64 a1_3, .int .i64 a1_4, .int .i64 a1_5, .int .i64 a1_6, .int .i64 a1_7, .bool a1_8, .int .i64 a1_9]) (t := 45) ?hr ?_; (case hd => rfl); (case hg => rfl); (case hr => first | (go_simp; done) | (go_simp; rfl)); intro gb140 hg w8 hbox hb; have BK140 := Aside0.mk (hbox); have GW140 := Aside0.mk (xZ HB hg); have GE140 := Aside0.mk (xZ HB hg); have NB139_140 := Aside0.mk (xN BK139 hg); have NB140_139 := Aside0.mk (xM BK139 hg); replace BK139 := Aside0.mk (xB BK139 hb); replace HB := Aside0.mk (xS HB hb); clear hb hbox hg) | ((with_reducible refine gate_dst (N := 6) rfl ?_); refine box_event ?hg (N := 6) ?hd (cs := #[.int .i64 0, .int .i64 0, .int .i64 0, .int .i64 0, .int .i64 0, .int .i64 0, .int .i64 0, .int .i64 0, .bool false, .int .i64 0]) (t := 45) ?hr ?_; (case hd => rfl); (case hg => rfl); (case hr => first | (go_simp; done) | (go_simp; rfl)); intro gb141 hg w9 hbox hb; have BK141 := Aside0.mk (hbox); have GW141 := Aside0.mk (xZ HB hg); have GE141 := Aside0.mk (xZ HB hg); have NB139_141 := Aside0.mk (xN BK139 hg); have NB141_139 := Aside0.mk (xM BK139 hg); have NB140_141 := Aside0.mk (xN BK140 hg); have NB141_140 := Aside0.mk (xM BK140 hg); replace BK139 := Aside0.mk (xB BK139 hb); replace BK140 := Aside0.mk (xB BK140 hb); replace HB := Aside0.mk (xS HB hb); clear hb hbox hg; have hnb10 := NB139_140.out; have hnc10 := NB140_139.out; have hnb11 := NB139_141.out; have hnc11 := NB141_139.out; have hcz12_0 := blkc3 BK139.out; have hnb13 := NB140_141.out; have hnc13 := NB141_140.out; have hcz14_0 := blkc10 BK140.out) | ((with_reducible refine gate_callee (f := 28) rfl ?_); refine goesL_ (some 14) rfl rfl Try.func28 (by kernel_rfl) rfl #[.agg #[.slice A0_0 l0_0.length c0_0, .int .i64 a0_1, .int .i64 a0_2], .agg #[.int .i64 a1_0, .int .i64 a1_1, .int .i64 a1_2, .int .i64 a1_3, .int .i64 a1_4, .int .i64 a1_5, .int .i64 a1_6, .int .i64 a1_7, .bool a1_8, .int .i64 a1_9], .int .i64 a2] rfl (by (try simp only [List.map_toArray, List.map_cons, List.map_nil]); first | done | rfl | (simp only [List.length_drop, List.length_take]; rfl)) ?_; (with_reducible refine (clock_Look.calls k _ _ l0_0 a0_1 a0_2 a1_0 a1_1 a1_2 a1_3 a1_4 a1_5 a1_6 a1_7 a1_8 a1_9 a2 t142 t143 t144 t145 t146 t147 t148 t149 t150 t151 t152 _ ?side1 ?side2 A4.out).mono ?_); (case side1 => exact xC (Kd.C_below HR0_0.out HB.out)); (case side2 => exact HC0_0.out); rintro e w15 ⟨rfl, hb⟩; refine ⟨_, rfl, ?_⟩; replace BK139 := Aside0.mk (xB BK139 hb); replace BK140 := Aside0.mk (xB BK140 hb); replace BK141 := Aside0.mk (xB BK141 hb); replace HB := Aside0.mk (xS HB hb); (try clear hb); (try clear hb2); (try clear hk); (try clear hi)) | ((with_reducible refine gate_dst (N := 8) rfl ?_); refine box_event ?hg (N := 8) ?hd (cs := #[.int .i64 0, .int .i64 0, .int .i64 0, .int .i64 0, .int .i64 0, .int .i64 0, .int .i64 0, .int .i64 0, .bool false, .int .i64 0]) (t := 45) ?hr ?_; (case hd => rfl); (case hg => rfl); (case hr => first | (go_simp; done) | (go_simp; rfl)); intro gb153 hg w16 hbox hb; have BK153 := Aside0.mk (hbox); have GW153 := Aside0.mk (xZ HB hg); have GE153 := Aside0.mk (xZ HB hg); have NB139_153 := Aside0.mk (xN BK139 hg); have NB153_139 := Aside0.mk (xM BK139 hg); have NB140_153 := Aside0.mk (xN BK140 hg); have NB153_140 := Aside0.mk (xM BK140 hg); have NB141_153 := Aside0.mk (xN BK141 hg); have NB153_141 := Aside0.mk (xM BK141 hg); replace BK139 := Aside0.mk (xB BK139 hb); replace BK140 := Aside0.mk (xB BK140 hb); replace BK141 := Aside0.mk (xB BK141 hb); replace HB := Aside0.mk (xS HB hb); clear hb hbox hg; have hnb17 := NB153_139.out; have hnc17 := NB139_153.out; have hnb18 := NB153_140.out; have hnc18 := NB140_153.out; have hnb19 := NB153_141.out; have hnc19 := NB141_153.out; have hcz20_0 := blkc10 BK153.out; have hcz21_0 := blkc10 BK141.out))
   refine bodyPost_ret (results_ct rfl _ _ gb141 45 #[.int .i64 0, .int .i64 0, .int .i64 0, .int .i64 0, .int .i64 0, .int .i64 0, .int .i64 0, .int .i64 0, .bool false, .int .i64 0] (0, 0) _ rfl (xQ BK141) Try.underlying45 rfl (by kernel_rfl)) rfl ?_
   exact ⟨xer, xW HB⟩
  ·rw [if_neg c6] at H
   have c6b0 : decide (0 ≤ t151) = false := decide_eq_false c6
   clear c6
   by_cases c22 : t150 = true
   ·subst c22
    rw [if_pos rfl] at H
    simp only [Option.some.injEq, Prod.mk.injEq] at H
    obtain ⟨rfl, rfl, rfl, rfl, rfl, rfl, rfl, rfl, rfl, rfl, rfl⟩ := H
    go_enter Try.func22, Try.ntmps22
    go_wp2_with (first | ((with_reducible refine gate_dst (N := 3) rfl ?_); refine box_event ?hg (N := 3) ?hd (cs := #[.slice A0_0 l0_0.length c0_0, .int .i64 a0_1, .int .i64 a0_2]) (t := 42) ?hr ?_; (case hd => rfl); (case hg => rfl); (case hr => first | (go_simp; done) | (go_simp; rfl)); intro gb139 hg w23 hbox hb; have BK139 := Aside0.mk (hbox); have GW139 := Aside0.mk (xZ HB hg); have GE139 := Aside0.mk (xZ HB hg); replace HB := Aside0.mk (xS HB hb); clear hb hbox hg) | ((with_reducible refine gate_dst (N := 4) rfl ?_); refine box_event ?hg (N := 4) ?hd (cs := #[.int .i64 a1_0, .int .i64 a1_1, .int .i64 a1_2, .int .i64 a1_3, .int .i64 a1_4, .int .i64 a1_5, .int .i64 a1_6, .int .i64 a1_7, .bool a1_8, .int .i64 a1_9]) (t := 45) ?hr ?_; (case hd => rfl); (case hg => rfl); (case hr => first | (go_simp; done) | (go_simp; rfl)); intro gb140 hg w24 hbox hb; have BK140 := Aside0.mk (hbox); have GW140 := Aside0.mk (xZ HB hg); have GE140 := Aside0.mk (xZ HB hg); have NB139_140 := Aside0.mk (xN BK139 hg); have NB140_139 := Aside0.mk (xM BK139 hg); replace BK139 := Aside0.mk (xB BK139 hb); replace HB := Aside0.mk (xS HB hb); clear hb hbox hg) | ((with_reducible refine gate_dst (N := 6) rfl ?_); refine box_event ?hg (N := 6) ?hd (cs := #[.int .i64 0, .int .i64 0, .int .i64 0, .int .i64 0, .int .i64 0, .int .i64 0, .int .i64 0, .int .i64 0, .bool false, .int .i64 0]) (t := 45) ?hr ?_; (case hd => rfl); (case hg => rfl); (case hr => first | (go_simp; done) | (go_simp; rfl)); intro gb141 hg w25 hbox hb; have BK141 := Aside0.mk (hbox); have GW141 := Aside0.mk (xZ HB hg); have GE141 := Aside0.mk (xZ HB hg); have NB139_141 := Aside0.mk (xN BK139 hg); have NB141_139 := Aside0.mk (xM BK139 hg); have NB140_141 := Aside0.mk (xN BK140 hg); have NB141_140 := Aside0.mk (xM BK140 hg); replace BK139 := Aside0.mk (xB BK139 hb); replace BK140 := Aside0.mk (xB BK140 hb); replace HB := Aside0.mk (xS HB hb); clear hb hbox hg; have hnb26 := NB139_140.out; have hnc26 := NB140_139.out; have hnb27 := NB139_141.out; have hnc27 := NB141_139.out; have hcz28_0 := blkc3 BK139.out; have hnb29 := NB140_141.out; have hnc29 := NB141_140.out; have hcz30_0 := blkc10 BK140.out) | ((with_reducible refine gate_callee (f := 28) rfl ?_); refine goesL_ (some 14) rfl rfl Try.func28 (by kernel_rfl) rfl #[.agg #[.slice A0_0 l0_0.length c0_0, .int .i64 a0_1, .int .i64 a0_2], .agg #[.int .i64 a1_0, .int .i64 a1_1, .int .i64 a1_2, .int .i64 a1_3, .int .i64 a1_4, .int .i64 a1_5, .int .i64 a1_6, .int .i64 a1_7, .bool a1_8, .int .i64 a1_9], .int .i64 a2] rfl (by (try simp only [List.map_toArray, List.map_cons, List.map_nil]); first | done | rfl | (simp only [List.length_drop, List.length_take]; rfl)) ?_; (with_reducible refine (clock_Look.calls k _ _ l0_0 a0_1 a0_2 a1_0 a1_1 a1_2 a1_3 a1_4 a1_5 a1_6 a1_7 a1_8 a1_9 a2 t142 t143 t144 t145 t146 t147 t148 t149 true t151 t152 _ ?side1 ?side2 A4.out).mono ?_); (case side1 => exact xC (Kd.C_below HR0_0.out HB.out)); (case side2 => exact HC0_0.out); rintro e w31 ⟨rfl, hb⟩; refine ⟨_, rfl, ?_⟩; replace BK139 := Aside0.mk (xB BK139 hb); replace BK140 := Aside0.mk (xB BK140 hb); replace BK141 := Aside0.mk (xB BK141 hb); replace HB := Aside0.mk (xS HB hb); (try clear hb); (try clear hb2); (try clear hk); (try clear hi)) | ((with_reducible refine gate_dst (N := 8) rfl ?_); refine box_event ?hg (N := 8) ?hd (cs := #[.int .i64 0, .int .i64 0, .int .i64 0, .int .i64 0, .int .i64 0, .int .i64 0, .int .i64 0, .int .i64 0, .bool false, .int .i64 0]) (t := 45) ?hr ?_; (case hd => rfl); (case hg => rfl); (case hr => first | (go_simp; done) | (go_simp; rfl)); intro gb153 hg w32 hbox hb; have BK153 := Aside0.mk (hbox); have GW153 := Aside0.mk (xZ HB hg); have GE153 := Aside0.mk (xZ HB hg); have NB139_153 := Aside0.mk (xN BK139 hg); have NB153_139 := Aside0.mk (xM BK139 hg); have NB140_153 := Aside0.mk (xN BK140 hg); have NB153_140 := Aside0.mk (xM BK140 hg); have NB141_153 := Aside0.mk (xN BK141 hg); have NB153_141 := Aside0.mk (xM BK141 hg); replace BK139 := Aside0.mk (xB BK139 hb); replace BK140 := Aside0.mk (xB BK140 hb); replace BK141 := Aside0.mk (xB BK141 hb); replace HB := Aside0.mk (xS HB hb); clear hb hbox hg; have hnb33 := NB153_139.out; have hnc33 := NB139_153.out; have hnb34 := NB153_140.out; have hnc34 := NB140_153.out; have hnb35 := NB153_141.out; have hnc35 := NB141_153.out; have hcz36_0 := blkc10 BK153.out; have hcz37_0 := blkc10 BK141.out))
    refine bodyPost_ret (results_ct rfl _ _ gb141 45 #[.int .i64 0, .int .i64 0, .int .i64 0, .int .i64 0, .int .i64 0, .int .i64 0, .int .i64 0, .int .i64 0, .bool false, .int .i64 0] (0, 0) _ rfl (xQ BK141) Try.underlying45 rfl (by kernel_rfl)) rfl ?_
    exact ⟨xer, xW HB⟩
   ·replace c22 := Bool.eq_false_iff.mpr c22
    subst c22
    rw [if_neg (show ¬ (false = true) by decide)] at H
    by_cases c38 : 0 ≤ t148
    ·rw [if_pos c38] at H
     have c38b0 : decide (0 ≤ t148) = true := decide_eq_true c38
     clear c38
     by_cases c39 : t148 < 2
     ·rw [if_pos c39] at H
      have c39b0 : decide (t148 < 2) = true := decide_eq_true c39
      clear c39
      by_cases c40 : t148 = 0
      ·rw [if_pos c40] at H
       have c40b0 : (t148 == 0) = true := beq_iff_eq.mpr c40
       have c40b1 : (t148 != 0) = false := bne_eq_false_iff_eq.mpr c40
       clear c40; obtain ⟨c41b, c41g, c41c, c41d⟩ := xar (t148 : Int) 0 0 2; replace H := Option.bind_eq_some_iff.mp H
       obtain ⟨t154, A420, H⟩ := H
       try dsimp only at H
       have A42 := Aside0.mk A420; clear A420; obtain ⟨c43b, c43g, c43c, c43d⟩ := xar (t148 : Int) 0 0 2
       simp only [Option.some.injEq, Prod.mk.injEq] at H
       obtain ⟨rfl, rfl, rfl, rfl, rfl, rfl, rfl, rfl, rfl, rfl, rfl⟩ := H
       go_enter Try.func22, Try.ntmps22
       try go_wp2_with (first | ((with_reducible refine gate_dst (N := 3) rfl ?_); refine box_event ?hg (N := 3) ?hd (cs := #[.slice A0_0 l0_0.length c0_0, .int .i64 a0_1, .int .i64 a0_2]) (t := 42) ?hr ?_; (case hd => rfl); (case hg => rfl); (case hr => first | (go_simp; done) | (go_simp; rfl)); intro gb139 hg w44 hbox hb; have BK139 := Aside0.mk (hbox); have GW139 := Aside0.mk (xZ HB hg); have GE139 := Aside0.mk (xZ HB hg); replace HB := Aside0.mk (xS HB hb); clear hb hbox hg) | ((with_reducible refine gate_dst (N := 4) rfl ?_); refine box_event ?hg (N := 4) ?hd (cs := #[.int .i64 a1_0, .int .i64 a1_1, .int .i64 a1_2, .int .i64 a1_3, .int .i64 a1_4, .int .i64 a1_5, .int .i64 a1_6, .int .i64 a1_7, .bool a1_8, .int .i64 a1_9]) (t := 45) ?hr ?_; (case hd => rfl); (case hg => rfl); (case hr => first | (go_simp; done) | (go_simp; rfl)); intro gb140 hg w45 hbox hb; have BK140 := Aside0.mk (hbox); have GW140 := Aside0.mk (xZ HB hg); have GE140 := Aside0.mk (xZ HB hg); have NB139_140 := Aside0.mk (xN BK139 hg); have NB140_139 := Aside0.mk (xM BK139 hg); replace BK139 := Aside0.mk (xB BK139 hb); replace HB := Aside0.mk (xS HB hb); clear hb hbox hg) | ((with_reducible refine gate_dst (N := 6) rfl ?_); refine box_event ?hg (N := 6) ?hd (cs := #[.int .i64 0, .int .i64 0, .int .i64 0, .int .i64 0, .int .i64 0, .int .i64 0, .int .i64 0, .int .i64 0, .bool false, .int .i64 0]) (t := 45) ?hr ?_; (case hd => rfl); (case hg => rfl); (case hr => first | (go_simp; done) | (go_simp; rfl)); intro gb141 hg w46 hbox hb; have BK141 := Aside0.mk (hbox); have GW141 := Aside0.mk (xZ HB hg); have GE141 := Aside0.mk (xZ HB hg); have NB139_141 := Aside0.mk (xN BK139 hg); have NB141_139 := Aside0.mk (xM BK139 hg); have NB140_141 := Aside0.mk (xN BK140 hg); have NB141_140 := Aside0.mk (xM BK140 hg); replace BK139 := Aside0.mk (xB BK139 hb); replace BK140 := Aside0.mk (xB BK140 hb); replace HB := Aside0.mk (xS HB hb); clear hb hbox hg; have hnb47 := NB139_140.out; have hnc47 := NB140_139.out; have hnb48 := NB139_141.out; have hnc48 := NB141_139.out; have hcz49_0 := blkc3 BK139.out; have hnb50 := NB140_141.out; have hnc50 := NB141_140.out; have hcz51_0 := blkc10 BK140.out) | ((with_reducible refine gate_callee (f := 28) rfl ?_); refine goesL_ (some 14) rfl rfl Try.func28 (by kernel_rfl) rfl #[.agg #[.slice A0_0 l0_0.length c0_0, .int .i64 a0_1, .int .i64 a0_2], .agg #[.int .i64 a1_0, .int .i64 a1_1, .int .i64 a1_2, .int .i64 a1_3, .int .i64 a1_4, .int .i64 a1_5, .int .i64 a1_6, .int .i64 a1_7, .bool a1_8, .int .i64 a1_9], .int .i64 a2] rfl (by (try simp only [List.map_toArray, List.map_cons, List.map_nil]); first | done | rfl | (simp only [List.length_drop, List.length_take]; rfl)) ?_; (with_reducible refine (clock_Look.calls k _ _ l0_0 a0_1 a0_2 a1_0 a1_1 a1_2 a1_3 a1_4 a1_5 a1_6 a1_7 a1_8 a1_9 a2 t142 t143 t144 t145 t146 t147 t148 t149 false t151 t152 _ ?side1 ?side2 A4.out).mono ?_); (case side1 => exact xC (Kd.C_below HR0_0.out HB.out)); (case side2 => exact HC0_0.out); rintro e w52 ⟨rfl, hb⟩; refine ⟨_, rfl, ?_⟩; replace BK139 := Aside0.mk (xB BK139 hb); replace BK140 := Aside0.mk (xB BK140 hb); replace BK141 := Aside0.mk (xB BK141 hb); replace HB := Aside0.mk (xS HB hb); (try clear hb); (try clear hb2); (try clear hk); (try clear hi)) | ((with_reducible refine gate_dst (N := 8) rfl ?_); refine box_event ?hg (N := 8) ?hd (cs := #[.int .i64 0, .int .i64 0, .int .i64 0, .int .i64 0, .int .i64 0, .int .i64 0, .int .i64 0, .int .i64 0, .bool false, .int .i64 0]) (t := 45) ?hr ?_; (case hd => rfl); (case hg => rfl); (case hr => first | (go_simp; done) | (go_simp; rfl)); intro gb153 hg w53 hbox hb; have BK153 := Aside0.mk (hbox); have GW153 := Aside0.mk (xZ HB hg); have GE153 := Aside0.mk (xZ HB hg); have NB139_153 := Aside0.mk (xN BK139 hg); have NB153_139 := Aside0.mk (xM BK139 hg); have NB140_153 := Aside0.mk (xN BK140 hg); have NB153_140 := Aside0.mk (xM BK140 hg); have NB141_153 := Aside0.mk (xN BK141 hg); have NB153_141 := Aside0.mk (xM BK141 hg); replace BK139 := Aside0.mk (xB BK139 hb); replace BK140 := Aside0.mk (xB BK140 hb); replace BK141 := Aside0.mk (xB BK141 hb); replace HB := Aside0.mk (xS HB hb); clear hb hbox hg; have hnb54 := NB153_139.out; have hnc54 := NB139_153.out; have hnb55 := NB153_140.out; have hnc55 := NB140_153.out; have hnb56 := NB153_141.out; have hnc56 := NB141_153.out; have hcz57_0 := blkc10 BK153.out))
       (try have hq139_153 := NB139_153.out); (try have hq140_153 := NB140_153.out); (try have hq141_153 := NB141_153.out)
       have n0_ : Aside0 (((((((((((w53.setCell ⟨gb153, 0, none⟩ (.int .i64 t142)).setCell ⟨gb153, 1, none⟩ (.int .i64 t143)).setCell ⟨gb153, 2, none⟩ (.int .i64 t144)).setCell ⟨gb153, 3, none⟩ (.int .i64 t145)).setCell ⟨gb153, 4, none⟩ (.int .i64 t146)).setCell ⟨gb153, 5, none⟩ (.int .i64 t147)).setCell ⟨gb153, 6, none⟩ (.int .i64 t148)).setCell ⟨gb153, 7, none⟩ (.int .i64 t149)).setCell ⟨gb153, 8, none⟩ (.bool false)).setCell ⟨gb153, 9, none⟩ (.int .i64 t151)).heap[gb139]? = some (.cells #[.slice A0_0 l0_0.length c0_0, .int .i64 a0_1, .int .i64 a0_2] 42 (0, 0))) := ⟨xK BK139⟩
       have n1_ : Aside0 (((((((((((w53.setCell ⟨gb153, 0, none⟩ (.int .i64 t142)).setCell ⟨gb153, 1, none⟩ (.int .i64 t143)).setCell ⟨gb153, 2, none⟩ (.int .i64 t144)).setCell ⟨gb153, 3, none⟩ (.int .i64 t145)).setCell ⟨gb153, 4, none⟩ (.int .i64 t146)).setCell ⟨gb153, 5, none⟩ (.int .i64 t147)).setCell ⟨gb153, 6, none⟩ (.int .i64 t148)).setCell ⟨gb153, 7, none⟩ (.int .i64 t149)).setCell ⟨gb153, 8, none⟩ (.bool false)).setCell ⟨gb153, 9, none⟩ (.int .i64 t151)).heap[gb140]? = some (.cells #[.int .i64 a1_0, .int .i64 a1_1, .int .i64 a1_2, .int .i64 a1_3, .int .i64 a1_4, .int .i64 a1_5, .int .i64 a1_6, .int .i64 a1_7, .bool a1_8, .int .i64 a1_9] 45 (0, 0))) := ⟨xK BK140⟩
       have n2_ : Aside0 (((((((((((w53.setCell ⟨gb153, 0, none⟩ (.int .i64 t142)).setCell ⟨gb153, 1, none⟩ (.int .i64 t143)).setCell ⟨gb153, 2, none⟩ (.int .i64 t144)).setCell ⟨gb153, 3, none⟩ (.int .i64 t145)).setCell ⟨gb153, 4, none⟩ (.int .i64 t146)).setCell ⟨gb153, 5, none⟩ (.int .i64 t147)).setCell ⟨gb153, 6, none⟩ (.int .i64 t148)).setCell ⟨gb153, 7, none⟩ (.int .i64 t149)).setCell ⟨gb153, 8, none⟩ (.bool false)).setCell ⟨gb153, 9, none⟩ (.int .i64 t151)).heap[gb141]? = some (.cells #[.int .i64 0, .int .i64 0, .int .i64 0, .int .i64 0, .int .i64 0, .int .i64 0, .int .i64 0, .int .i64 0, .bool false, .int .i64 0] 45 (0, 0))) := ⟨xK BK141⟩
       have n3_ : Aside0 (((((((((((w53.setCell ⟨gb153, 0, none⟩ (.int .i64 t142)).setCell ⟨gb153, 1, none⟩ (.int .i64 t143)).setCell ⟨gb153, 2, none⟩ (.int .i64 t144)).setCell ⟨gb153, 3, none⟩ (.int .i64 t145)).setCell ⟨gb153, 4, none⟩ (.int .i64 t146)).setCell ⟨gb153, 5, none⟩ (.int .i64 t147)).setCell ⟨gb153, 6, none⟩ (.int .i64 t148)).setCell ⟨gb153, 7, none⟩ (.int .i64 t149)).setCell ⟨gb153, 8, none⟩ (.bool false)).setCell ⟨gb153, 9, none⟩ (.int .i64 t151)).heap[gb153]? = some (.cells #[.int .i64 t142, .int .i64 t143, .int .i64 t144, .int .i64 t145, .int .i64 t146, .int .i64 t147, .int .i64 t148, .int .i64 t149, .bool false, .int .i64 t151] 45 (0, 0))) := ⟨xQ BK153⟩
       have n4_ : Aside0 (Below w.heap.size w ((((((((((w53.setCell ⟨gb153, 0, none⟩ (.int .i64 t142)).setCell ⟨gb153, 1, none⟩ (.int .i64 t143)).setCell ⟨gb153, 2, none⟩ (.int .i64 t144)).setCell ⟨gb153, 3, none⟩ (.int .i64 t145)).setCell ⟨gb153, 4, none⟩ (.int .i64 t146)).setCell ⟨gb153, 5, none⟩ (.int .i64 t147)).setCell ⟨gb153, 6, none⟩ (.int .i64 t148)).setCell ⟨gb153, 7, none⟩ (.int .i64 t149)).setCell ⟨gb153, 8, none⟩ (.bool false)).setCell ⟨gb153, 9, none⟩ (.int .i64 t151))) := ⟨xW HB⟩
       (try clear BK139)
       (try clear BK140)
       (try clear BK141)
       (try clear BK153)
       (try clear HB)
       generalize ((((((((((w53.setCell ⟨gb153, 0, none⟩ (.int .i64 t142)).setCell ⟨gb153, 1, none⟩ (.int .i64 t143)).setCell ⟨gb153, 2, none⟩ (.int .i64 t144)).setCell ⟨gb153, 3, none⟩ (.int .i64 t145)).setCell ⟨gb153, 4, none⟩ (.int .i64 t146)).setCell ⟨gb153, 5, none⟩ (.int .i64 t147)).setCell ⟨gb153, 6, none⟩ (.int .i64 t148)).setCell ⟨gb153, 7, none⟩ (.int .i64 t149)).setCell ⟨gb153, 8, none⟩ (.bool false)).setCell ⟨gb153, 9, none⟩ (.int .i64 t151)) = w58 at n0_ n1_ n2_ n3_ n4_ ⊢; have BK139 := n0_; have BK140 := n1_; have BK141 := n2_; have BK153 := n3_; have HB := n4_; clear n0_ n1_ n2_ n3_ n4_; replace BK139 := Aside0.mk (blk_drew BK139.out); replace BK140 := Aside0.mk (blk_drew BK140.out); replace BK141 := Aside0.mk (blk_drew BK141.out); replace BK153 := Aside0.mk (blk_drew BK153.out); replace HB := Aside0.mk (below_drew1 HB.out)
       refine start_ (n := 13) (S := fun w' => ce w' gb153 0 (.int .i64 t142) ∧ ce w' gb153 1 (.int .i64 t143) ∧ ce w' gb153 2 (.int .i64 t144) ∧ ce w' gb153 3 (.int .i64 t145) ∧ ce w' gb153 4 (.int .i64 t146) ∧ ce w' gb153 5 (.int .i64 t147) ∧ ce w' gb153 6 (.int .i64 t148) ∧ ce w' gb153 7 (.int .i64 t149) ∧ ce w' gb153 8 (.bool false) ∧ ce w' gb153 9 (.int .i64 t151) ∧ ce w' gb139 0 (.slice A0_0 l0_0.length c0_0) ∧ ce w' gb139 1 (.int .i64 a0_1) ∧ ce w' gb139 2 (.int .i64 a0_2)) (ds := [12]) (mk 13 0) (by kernel_rfl) rfl rfl ⟨xc BK153 0, xc BK153 1, xc BK153 2, xc BK153 3, xc BK153 4, xc BK153 5, xc BK153 6, xc BK153 7, xc BK153 8, xc BK153 9, xc BK139 0, xc BK139 1, xc BK139 2⟩ (fun hHeld => ?_); refine with_tabW clock_Stop.tab8 clock_Stop.bits8 (fun HT_ HW_ => ?_)
       generalize w58.drew = w59 at BK139 BK140 BK141 BK153 HB hHeld ⊢; refine pu_ 0 31 HT_ ?_; refine pu_ 2 33 HT_ ?_; refine pu_ 7 38 HT_ ?_; refine pu_ 10 41 HT_ ?_; refine tk_ 1 32 HT_ HW_ hHeld ?_; refine pu_ 3 34 HT_ ?_; refine tk_ 4 35 HT_ HW_ hHeld ?_; refine tk_ 5 36 HT_ HW_ hHeld ?_; refine tk_ 6 37 HT_ HW_ hHeld ?_
       refine one_ (i := 8) (N := some 39) #[true, true, true, true, true, true, true, true, true, false, true, false, false] rfl rfl (one_of HT_.out (by kernel_rfl)) (by decide) (fun K hK => ?_)
       refine goes_ Try.func55 (by kernel_rfl) rfl #[.agg #[.slice A0_0 l0_0.length c0_0, .int .i64 a0_1, .int .i64 a0_2], .agg #[.int .i64 t142, .int .i64 t143, .int .i64 t144, .int .i64 t145, .int .i64 t146, .int .i64 t147, .int .i64 t148, .int .i64 t149, .bool false, .int .i64 t151], .int .i64 a2] (by rfl) rfl rfl (by (try simp only [List.map_toArray, List.map_cons, List.map_nil]); first | done | rfl | (simp only [List.length_drop, List.length_take]; rfl)) ?_
       with_reducible refine (clock_used.calls _ _ l0_0 a0_1 a0_2 t142 t143 t144 t145 t146 t147 t148 t149 false t151 a2 t154 _ ?side1 ?side2 A42.out).mono ?_
       (case side1 => exact xC (Kd.C_below HR0_0.out HB.out))
       (case side2 => exact HC0_0.out)
       rintro e w60 ⟨rfl, hb⟩
       refine ⟨_, rfl, ?_⟩
       replace BK139 := Aside0.mk (xB BK139 hb); replace BK140 := Aside0.mk (xB BK140 hb); replace BK141 := Aside0.mk (xB BK141 hb); replace BK153 := Aside0.mk (xB BK153 hb); replace HB := Aside0.mk (xS HB hb)
       (try clear hb)
       (try clear hb2)
       (try clear hk)
       (try clear hi)
       refine hK.out _ _ ⟨(blk_cell BK153.out 0).trans rfl, (blk_cell BK153.out 1).trans rfl, (blk_cell BK153.out 2).trans rfl, (blk_cell BK153.out 3).trans rfl, (blk_cell BK153.out 4).trans rfl, (blk_cell BK153.out 5).trans rfl, (blk_cell BK153.out 6).trans rfl, (blk_cell BK153.out 7).trans rfl, (blk_cell BK153.out 8).trans rfl, (blk_cell BK153.out 9).trans rfl, (blk_cell BK139.out 0).trans rfl, (blk_cell BK139.out 1).trans rfl, (blk_cell BK139.out 2).trans rfl⟩ (fun hHeld => ?_)
       clear hK K
       refine norm_ (a' := ?_) ?_ ?_
       rotate_left
       ·show Act.put _ (some 39) _ = _
        simp only [Act.put, List.setIfInBounds_toArray, List.set_cons_zero, List.set_cons_succ, i64_w, i32_w]
        rfl
       refine pu_ 9 40 HT_ ?_; refine pu_ 11 42 HT_ ?_
       refine last_ (i := 12) (N := none) #[true, true, true, true, true, true, true, true, true, true, true, true, true] rfl rfl (one_of HT_.out (by kernel_rfl)) (by decide) (fun K hK => ?_)
       have hs61 : w60.cell? ⟨gb153, 0, none⟩ = some (.int .i64 t142) := (blk_cell BK153.out 0).trans rfl
       have hfs61 := blk_frozen BK153.out 0; have hms61_0 := NB153_139.out; have hms61_1 := NB153_140.out; have hms61_2 := NB153_141.out
       refine skip_ (w1 := ?_) (by rfl) rfl ?_ ?_
       rotate_left
       ·go_simp
        rfl
       refine hK.out _ _ ?_
       clear hK K
       refine done_ (done_of HT_.out (by kernel_rfl)) ?_
       have hcz62_0 := blkc10 BK153.out; have hcz63_0 := blkc10 BK141.out
       try go_wp2
       refine bodyPost_ret (results_ct rfl _ _ gb141 45 #[.int .i64 (wrap64 (t142 - t154)), .int .i64 t143, .int .i64 t144, .int .i64 t145, .int .i64 t146, .int .i64 t147, .int .i64 t148, .int .i64 a2, .bool true, .int .i64 t151] (0, 0) _ rfl (xQ BK141) Try.underlying45 rfl (by kernel_rfl)) rfl ?_
       exact ⟨xer, xW HB⟩
      ·rw [if_neg c40] at H
       have c40b0 : (t148 == 0) = false := beq_eq_false_iff_ne.mpr c40
       have c40b1 : (t148 != 0) = true := bne_iff_ne.mpr c40
       obtain ⟨c64b, c64g, c64c, c64d⟩ := xar (t148 : Int) 1 1 2; replace H := Option.bind_eq_some_iff.mp H
       obtain ⟨t155, A650, H⟩ := H
       try dsimp only at H
       have A65 := Aside0.mk A650; clear A650; obtain ⟨c66b, c66g, c66c, c66d⟩ := xar (t148 : Int) 1 1 2
       simp only [Option.some.injEq, Prod.mk.injEq] at H
       obtain ⟨rfl, rfl, rfl, rfl, rfl, rfl, rfl, rfl, rfl, rfl, rfl⟩ := H
       go_enter Try.func22, Try.ntmps22
       try go_wp2_with (first | ((with_reducible refine gate_dst (N := 3) rfl ?_); refine box_event ?hg (N := 3) ?hd (cs := #[.slice A0_0 l0_0.length c0_0, .int .i64 a0_1, .int .i64 a0_2]) (t := 42) ?hr ?_; (case hd => rfl); (case hg => rfl); (case hr => first | (go_simp; done) | (go_simp; rfl)); intro gb139 hg w67 hbox hb; have BK139 := Aside0.mk (hbox); have GW139 := Aside0.mk (xZ HB hg); have GE139 := Aside0.mk (xZ HB hg); replace HB := Aside0.mk (xS HB hb); clear hb hbox hg) | ((with_reducible refine gate_dst (N := 4) rfl ?_); refine box_event ?hg (N := 4) ?hd (cs := #[.int .i64 a1_0, .int .i64 a1_1, .int .i64 a1_2, .int .i64 a1_3, .int .i64 a1_4, .int .i64 a1_5, .int .i64 a1_6, .int .i64 a1_7, .bool a1_8, .int .i64 a1_9]) (t := 45) ?hr ?_; (case hd => rfl); (case hg => rfl); (case hr => first | (go_simp; done) | (go_simp; rfl)); intro gb140 hg w68 hbox hb; have BK140 := Aside0.mk (hbox); have GW140 := Aside0.mk (xZ HB hg); have GE140 := Aside0.mk (xZ HB hg); have NB139_140 := Aside0.mk (xN BK139 hg); have NB140_139 := Aside0.mk (xM BK139 hg); replace BK139 := Aside0.mk (xB BK139 hb); replace HB := Aside0.mk (xS HB hb); clear hb hbox hg) | ((with_reducible refine gate_dst (N := 6) rfl ?_); refine box_event ?hg (N := 6) ?hd (cs := #[.int .i64 0, .int .i64 0, .int .i64 0, .int .i64 0, .int .i64 0, .int .i64 0, .int .i64 0, .int .i64 0, .bool false, .int .i64 0]) (t := 45) ?hr ?_; (case hd => rfl); (case hg => rfl); (case hr => first | (go_simp; done) | (go_simp; rfl)); intro gb141 hg w69 hbox hb; have BK141 := Aside0.mk (hbox); have GW141 := Aside0.mk (xZ HB hg); have GE141 := Aside0.mk (xZ HB hg); have NB139_141 := Aside0.mk (xN BK139 hg); have NB141_139 := Aside0.mk (xM BK139 hg); have NB140_141 := Aside0.mk (xN BK140 hg); have NB141_140 := Aside0.mk (xM BK140 hg); replace BK139 := Aside0.mk (xB BK139 hb); replace BK140 := Aside0.mk (xB BK140 hb); replace HB := Aside0.mk (xS HB hb); clear hb hbox hg; have hnb70 := NB139_140.out; have hnc70 := NB140_139.out; have hnb71 := NB139_141.out; have hnc71 := NB141_139.out; have hcz72_0 := blkc3 BK139.out; have hnb73 := NB140_141.out; have hnc73 := NB141_140.out; have hcz74_0 := blkc10 BK140.out) | ((with_reducible refine gate_callee (f := 28) rfl ?_); refine goesL_ (some 14) rfl rfl Try.func28 (by kernel_rfl) rfl #[.agg #[.slice A0_0 l0_0.length c0_0, .int .i64 a0_1, .int .i64 a0_2], .agg #[.int .i64 a1_0, .int .i64 a1_1, .int .i64 a1_2, .int .i64 a1_3, .int .i64 a1_4, .int .i64 a1_5, .int .i64 a1_6, .int .i64 a1_7, .bool a1_8, .int .i64 a1_9], .int .i64 a2] rfl (by (try simp only [List.map_toArray, List.map_cons, List.map_nil]); first | done | rfl | (simp only [List.length_drop, List.length_take]; rfl)) ?_; (with_reducible refine (clock_Look.calls k _ _ l0_0 a0_1 a0_2 a1_0 a1_1 a1_2 a1_3 a1_4 a1_5 a1_6 a1_7 a1_8 a1_9 a2 t142 t143 t144 t145 t146 t147 t148 t149 false t151 t152 _ ?side1 ?side2 A4.out).mono ?_); (case side1 => exact xC (Kd.C_below HR0_0.out HB.out)); (case side2 => exact HC0_0.out); rintro e w75 ⟨rfl, hb⟩; refine ⟨_, rfl, ?_⟩; replace BK139 := Aside0.mk (xB BK139 hb); replace BK140 := Aside0.mk (xB BK140 hb); replace BK141 := Aside0.mk (xB BK141 hb); replace HB := Aside0.mk (xS HB hb); (try clear hb); (try clear hb2); (try clear hk); (try clear hi)) | ((with_reducible refine gate_dst (N := 8) rfl ?_); refine box_event ?hg (N := 8) ?hd (cs := #[.int .i64 0, .int .i64 0, .int .i64 0, .int .i64 0, .int .i64 0, .int .i64 0, .int .i64 0, .int .i64 0, .bool false, .int .i64 0]) (t := 45) ?hr ?_; (case hd => rfl); (case hg => rfl); (case hr => first | (go_simp; done) | (go_simp; rfl)); intro gb153 hg w76 hbox hb; have BK153 := Aside0.mk (hbox); have GW153 := Aside0.mk (xZ HB hg); have GE153 := Aside0.mk (xZ HB hg); have NB139_153 := Aside0.mk (xN BK139 hg); have NB153_139 := Aside0.mk (xM BK139 hg); have NB140_153 := Aside0.mk (xN BK140 hg); have NB153_140 := Aside0.mk (xM BK140 hg); have NB141_153 := Aside0.mk (xN BK141 hg); have NB153_141 := Aside0.mk (xM BK141 hg); replace BK139 := Aside0.mk (xB BK139 hb); replace BK140 := Aside0.mk (xB BK140 hb); replace BK141 := Aside0.mk (xB BK141 hb); replace HB := Aside0.mk (xS HB hb); clear hb hbox hg; have hnb77 := NB153_139.out; have hnc77 := NB139_153.out; have hnb78 := NB153_140.out; have hnc78 := NB140_153.out; have hnb79 := NB153_141.out; have hnc79 := NB141_153.out; have hcz80_0 := blkc10 BK153.out))
       (try have hq139_153 := NB139_153.out); (try have hq140_153 := NB140_153.out); (try have hq141_153 := NB141_153.out)
       have n0_ : Aside0 (((((((((((w76.setCell ⟨gb153, 0, none⟩ (.int .i64 t142)).setCell ⟨gb153, 1, none⟩ (.int .i64 t143)).setCell ⟨gb153, 2, none⟩ (.int .i64 t144)).setCell ⟨gb153, 3, none⟩ (.int .i64 t145)).setCell ⟨gb153, 4, none⟩ (.int .i64 t146)).setCell ⟨gb153, 5, none⟩ (.int .i64 t147)).setCell ⟨gb153, 6, none⟩ (.int .i64 t148)).setCell ⟨gb153, 7, none⟩ (.int .i64 t149)).setCell ⟨gb153, 8, none⟩ (.bool false)).setCell ⟨gb153, 9, none⟩ (.int .i64 t151)).heap[gb139]? = some (.cells #[.slice A0_0 l0_0.length c0_0, .int .i64 a0_1, .int .i64 a0_2] 42 (0, 0))) := ⟨xK BK139⟩
       have n1_ : Aside0 (((((((((((w76.setCell ⟨gb153, 0, none⟩ (.int .i64 t142)).setCell ⟨gb153, 1, none⟩ (.int .i64 t143)).setCell ⟨gb153, 2, none⟩ (.int .i64 t144)).setCell ⟨gb153, 3, none⟩ (.int .i64 t145)).setCell ⟨gb153, 4, none⟩ (.int .i64 t146)).setCell ⟨gb153, 5, none⟩ (.int .i64 t147)).setCell ⟨gb153, 6, none⟩ (.int .i64 t148)).setCell ⟨gb153, 7, none⟩ (.int .i64 t149)).setCell ⟨gb153, 8, none⟩ (.bool false)).setCell ⟨gb153, 9, none⟩ (.int .i64 t151)).heap[gb140]? = some (.cells #[.int .i64 a1_0, .int .i64 a1_1, .int .i64 a1_2, .int .i64 a1_3, .int .i64 a1_4, .int .i64 a1_5, .int .i64 a1_6, .int .i64 a1_7, .bool a1_8, .int .i64 a1_9] 45 (0, 0))) := ⟨xK BK140⟩
       have n2_ : Aside0 (((((((((((w76.setCell ⟨gb153, 0, none⟩ (.int .i64 t142)).setCell ⟨gb153, 1, none⟩ (.int .i64 t143)).setCell ⟨gb153, 2, none⟩ (.int .i64 t144)).setCell ⟨gb153, 3, none⟩ (.int .i64 t145)).setCell ⟨gb153, 4, none⟩ (.int .i64 t146)).setCell ⟨gb153, 5, none⟩ (.int .i64 t147)).setCell ⟨gb153, 6, none⟩ (.int .i64 t148)).setCell ⟨gb153, 7, none⟩ (.int .i64 t149)).setCell ⟨gb153, 8, none⟩ (.bool false)).setCell ⟨gb153, 9, none⟩ (.int .i64 t151)).heap[gb141]? = some (.cells #[.int .i64 0, .int .i64 0, .int .i64 0, .int .i64 0, .int .i64 0, .int .i64 0, .int .i64 0, .int .i64 0, .bool false, .int .i64 0] 45 (0, 0))) := ⟨xK BK141⟩
       have n3_ : Aside0 (((((((((((w76.setCell ⟨gb153, 0, none⟩ (.int .i64 t142)).setCell ⟨gb153, 1, none⟩ (.int .i64 t143)).setCell ⟨gb153, 2, none⟩ (.int .i64 t144)).setCell ⟨gb153, 3, none⟩ (.int .i64 t145)).setCell ⟨gb153, 4, none⟩ (.int .i64 t146)).setCell ⟨gb153, 5, none⟩ (.int .i64 t147)).setCell ⟨gb153, 6, none⟩ (.int .i64 t148)).setCell ⟨gb153, 7, none⟩ (.int .i64 t149)).setCell ⟨gb153, 8, none⟩ (.bool false)).setCell ⟨gb153, 9, none⟩ (.int .i64 t151)).heap[gb153]? = some (.cells #[.int .i64 t142, .int .i64 t143, .int .i64 t144, .int .i64 t145, .int .i64 t146, .int .i64 t147, .int .i64 t148, .int .i64 t149, .bool false, .int .i64 t151] 45 (0, 0))) := ⟨xQ BK153⟩
       have n4_ : Aside0 (Below w.heap.size w ((((((((((w76.setCell ⟨gb153, 0, none⟩ (.int .i64 t142)).setCell ⟨gb153, 1, none⟩ (.int .i64 t143)).setCell ⟨gb153, 2, none⟩ (.int .i64 t144)).setCell ⟨gb153, 3, none⟩ (.int .i64 t145)).setCell ⟨gb153, 4, none⟩ (.int .i64 t146)).setCell ⟨gb153, 5, none⟩ (.int .i64 t147)).setCell ⟨gb153, 6, none⟩ (.int .i64 t148)).setCell ⟨gb153, 7, none⟩ (.int .i64 t149)).setCell ⟨gb153, 8, none⟩ (.bool false)).setCell ⟨gb153, 9, none⟩ (.int .i64 t151))) := ⟨xW HB⟩
       (try clear BK139)
       (try clear BK140)
       (try clear BK141)
       (try clear BK153)
       (try clear HB)
       generalize ((((((((((w76.setCell ⟨gb153, 0, none⟩ (.int .i64 t142)).setCell ⟨gb153, 1, none⟩ (.int .i64 t143)).setCell ⟨gb153, 2, none⟩ (.int .i64 t144)).setCell ⟨gb153, 3, none⟩ (.int .i64 t145)).setCell ⟨gb153, 4, none⟩ (.int .i64 t146)).setCell ⟨gb153, 5, none⟩ (.int .i64 t147)).setCell ⟨gb153, 6, none⟩ (.int .i64 t148)).setCell ⟨gb153, 7, none⟩ (.int .i64 t149)).setCell ⟨gb153, 8, none⟩ (.bool false)).setCell ⟨gb153, 9, none⟩ (.int .i64 t151)) = w81 at n0_ n1_ n2_ n3_ n4_ ⊢; have BK139 := n0_; have BK140 := n1_; have BK141 := n2_; have BK153 := n3_; have HB := n4_; clear n0_ n1_ n2_ n3_ n4_; replace BK139 := Aside0.mk (blk_drew BK139.out); replace BK140 := Aside0.mk (blk_drew BK140.out); replace BK141 := Aside0.mk (blk_drew BK141.out); replace BK153 := Aside0.mk (blk_drew BK153.out); replace HB := Aside0.mk (below_drew1 HB.out)
       refine start_ (n := 13) (S := fun w' => ce w' gb153 0 (.int .i64 t142) ∧ ce w' gb153 1 (.int .i64 t143) ∧ ce w' gb153 2 (.int .i64 t144) ∧ ce w' gb153 3 (.int .i64 t145) ∧ ce w' gb153 4 (.int .i64 t146) ∧ ce w' gb153 5 (.int .i64 t147) ∧ ce w' gb153 6 (.int .i64 t148) ∧ ce w' gb153 7 (.int .i64 t149) ∧ ce w' gb153 8 (.bool false) ∧ ce w' gb153 9 (.int .i64 t151) ∧ ce w' gb139 0 (.slice A0_0 l0_0.length c0_0) ∧ ce w' gb139 1 (.int .i64 a0_1) ∧ ce w' gb139 2 (.int .i64 a0_2)) (ds := [12]) (mk 13 0) (by kernel_rfl) rfl rfl ⟨xc BK153 0, xc BK153 1, xc BK153 2, xc BK153 3, xc BK153 4, xc BK153 5, xc BK153 6, xc BK153 7, xc BK153 8, xc BK153 9, xc BK139 0, xc BK139 1, xc BK139 2⟩ (fun hHeld => ?_); refine with_tabW clock_Stop.tab8 clock_Stop.bits8 (fun HT_ HW_ => ?_)
       generalize w81.drew = w82 at BK139 BK140 BK141 BK153 HB hHeld ⊢; refine pu_ 0 31 HT_ ?_; refine pu_ 2 33 HT_ ?_; refine pu_ 7 38 HT_ ?_; refine pu_ 10 41 HT_ ?_; refine tk_ 1 32 HT_ HW_ hHeld ?_; refine pu_ 3 34 HT_ ?_; refine tk_ 4 35 HT_ HW_ hHeld ?_; refine tk_ 5 36 HT_ HW_ hHeld ?_; refine tk_ 6 37 HT_ HW_ hHeld ?_
       refine one_ (i := 8) (N := some 39) #[true, true, true, true, true, true, true, true, true, false, true, false, false] rfl rfl (one_of HT_.out (by kernel_rfl)) (by decide) (fun K hK => ?_)
       refine goes_ Try.func55 (by kernel_rfl) rfl #[.agg #[.slice A0_0 l0_0.length c0_0, .int .i64 a0_1, .int .i64 a0_2], .agg #[.int .i64 t142, .int .i64 t143, .int .i64 t144, .int .i64 t145, .int .i64 t146, .int .i64 t147, .int .i64 t148, .int .i64 t149, .bool false, .int .i64 t151], .int .i64 a2] (by rfl) rfl rfl (by (try simp only [List.map_toArray, List.map_cons, List.map_nil]); first | done | rfl | (simp only [List.length_drop, List.length_take]; rfl)) ?_
       with_reducible refine (clock_used.calls _ _ l0_0 a0_1 a0_2 t142 t143 t144 t145 t146 t147 t148 t149 false t151 a2 t155 _ ?side1 ?side2 A65.out).mono ?_
       (case side1 => exact xC (Kd.C_below HR0_0.out HB.out))
       (case side2 => exact HC0_0.out)
       rintro e w83 ⟨rfl, hb⟩
       refine ⟨_, rfl, ?_⟩
       replace BK139 := Aside0.mk (xB BK139 hb); replace BK140 := Aside0.mk (xB BK140 hb); replace BK141 := Aside0.mk (xB BK141 hb); replace BK153 := Aside0.mk (xB BK153 hb); replace HB := Aside0.mk (xS HB hb)
       (try clear hb)
       (try clear hb2)
       (try clear hk)
       (try clear hi)
       refine hK.out _ _ ⟨(blk_cell BK153.out 0).trans rfl, (blk_cell BK153.out 1).trans rfl, (blk_cell BK153.out 2).trans rfl, (blk_cell BK153.out 3).trans rfl, (blk_cell BK153.out 4).trans rfl, (blk_cell BK153.out 5).trans rfl, (blk_cell BK153.out 6).trans rfl, (blk_cell BK153.out 7).trans rfl, (blk_cell BK153.out 8).trans rfl, (blk_cell BK153.out 9).trans rfl, (blk_cell BK139.out 0).trans rfl, (blk_cell BK139.out 1).trans rfl, (blk_cell BK139.out 2).trans rfl⟩ (fun hHeld => ?_)
       clear hK K
       refine norm_ (a' := ?_) ?_ ?_
       rotate_left
       ·show Act.put _ (some 39) _ = _
        simp only [Act.put, List.setIfInBounds_toArray, List.set_cons_zero, List.set_cons_succ, i64_w, i32_w]
        rfl
       refine pu_ 9 40 HT_ ?_; refine pu_ 11 42 HT_ ?_
       refine last_ (i := 12) (N := none) #[true, true, true, true, true, true, true, true, true, true, true, true, true] rfl rfl (one_of HT_.out (by kernel_rfl)) (by decide) (fun K hK => ?_)
       have hs84 : w83.cell? ⟨gb153, 1, none⟩ = some (.int .i64 t143) := (blk_cell BK153.out 1).trans rfl
       have hfs84 := blk_frozen BK153.out 1; have hms84_0 := NB153_139.out; have hms84_1 := NB153_140.out; have hms84_2 := NB153_141.out
       refine skip_ (w1 := ?_) (by rfl) rfl ?_ ?_
       rotate_left
       ·go_simp
        rfl
       refine hK.out _ _ ?_
       clear hK K
       refine done_ (done_of HT_.out (by kernel_rfl)) ?_
       have hcz85_0 := blkc10 BK153.out; have hcz86_0 := blkc10 BK141.out
       try go_wp2
       refine bodyPost_ret (results_ct rfl _ _ gb141 45 #[.int .i64 t142, .int .i64 (wrap64 (t143 - t155)), .int .i64 t144, .int .i64 t145, .int .i64 t146, .int .i64 t147, .int .i64 t148, .int .i64 a2, .bool true, .int .i64 t151] (0, 0) _ rfl (xQ BK141) Try.underlying45 rfl (by kernel_rfl)) rfl ?_
       exact ⟨xer, xW HB⟩
     ·rw [if_neg c39] at H
      exact absurd H (by simp)
    ·rw [if_neg c38] at H
     exact absurd H (by simp)
 ·rw [if_neg c5] at H
  have c5b0 : (t152 == 0) = false := beq_eq_false_iff_ne.mpr c5
  have c5b1 : (t152 != 0) = true := bne_iff_ne.mpr c5
  simp only [Option.some.injEq, Prod.mk.injEq] at H
  obtain ⟨rfl, rfl, rfl, rfl, rfl, rfl, rfl, rfl, rfl, rfl, rfl⟩ := H
  go_enter Try.func22, Try.ntmps22
  go_wp2_with (first | ((with_reducible refine gate_dst (N := 3) rfl ?_); refine box_event ?hg (N := 3) ?hd (cs := #[.slice A0_0 l0_0.length c0_0, .int .i64 a0_1, .int .i64 a0_2]) (t := 42) ?hr ?_; (case hd => rfl); (case hg => rfl); (case hr => first | (go_simp; done) | (go_simp; rfl)); intro gb139 hg w87 hbox hb; have BK139 := Aside0.mk (hbox); have GW139 := Aside0.mk (xZ HB hg); have GE139 := Aside0.mk (xZ HB hg); replace HB := Aside0.mk (xS HB hb); clear hb hbox hg) | ((with_reducible refine gate_dst (N := 4) rfl ?_); refine box_event ?hg (N := 4) ?hd (cs := #[.int .i64 a1_0, .int .i64 a1_1, .int .i64 a1_2, .int .i64 a1_3, .int .i64 a1_4, .int .i64 a1_5, .int .i64 a1_6, .int .i64 a1_7, .bool a1_8, .int .i64 a1_9]) (t := 45) ?hr ?_; (case hd => rfl); (case hg => rfl); (case hr => first | (go_simp; done) | (go_simp; rfl)); intro gb140 hg w88 hbox hb; have BK140 := Aside0.mk (hbox); have GW140 := Aside0.mk (xZ HB hg); have GE140 := Aside0.mk (xZ HB hg); have NB139_140 := Aside0.mk (xN BK139 hg); have NB140_139 := Aside0.mk (xM BK139 hg); replace BK139 := Aside0.mk (xB BK139 hb); replace HB := Aside0.mk (xS HB hb); clear hb hbox hg) | ((with_reducible refine gate_dst (N := 6) rfl ?_); refine box_event ?hg (N := 6) ?hd (cs := #[.int .i64 0, .int .i64 0, .int .i64 0, .int .i64 0, .int .i64 0, .int .i64 0, .int .i64 0, .int .i64 0, .bool false, .int .i64 0]) (t := 45) ?hr ?_; (case hd => rfl); (case hg => rfl); (case hr => first | (go_simp; done) | (go_simp; rfl)); intro gb141 hg w89 hbox hb; have BK141 := Aside0.mk (hbox); have GW141 := Aside0.mk (xZ HB hg); have GE141 := Aside0.mk (xZ HB hg); have NB139_141 := Aside0.mk (xN BK139 hg); have NB141_139 := Aside0.mk (xM BK139 hg); have NB140_141 := Aside0.mk (xN BK140 hg); have NB141_140 := Aside0.mk (xM BK140 hg); replace BK139 := Aside0.mk (xB BK139 hb); replace BK140 := Aside0.mk (xB BK140 hb); replace HB := Aside0.mk (xS HB hb); clear hb hbox hg; have hnb90 := NB139_140.out; have hnc90 := NB140_139.out; have hnb91 := NB139_141.out; have hnc91 := NB141_139.out; have hcz92_0 := blkc3 BK139.out; have hnb93 := NB140_141.out; have hnc93 := NB141_140.out; have hcz94_0 := blkc10 BK140.out) | ((with_reducible refine gate_callee (f := 28) rfl ?_); refine goesL_ (some 14) rfl rfl Try.func28 (by kernel_rfl) rfl #[.agg #[.slice A0_0 l0_0.length c0_0, .int .i64 a0_1, .int .i64 a0_2], .agg #[.int .i64 a1_0, .int .i64 a1_1, .int .i64 a1_2, .int .i64 a1_3, .int .i64 a1_4, .int .i64 a1_5, .int .i64 a1_6, .int .i64 a1_7, .bool a1_8, .int .i64 a1_9], .int .i64 a2] rfl (by (try simp only [List.map_toArray, List.map_cons, List.map_nil]); first | done | rfl | (simp only [List.length_drop, List.length_take]; rfl)) ?_; (with_reducible refine (clock_Look.calls k _ _ l0_0 a0_1 a0_2 a1_0 a1_1 a1_2 a1_3 a1_4 a1_5 a1_6 a1_7 a1_8 a1_9 a2 t142 t143 t144 t145 t146 t147 t148 t149 t150 t151 t152 _ ?side1 ?side2 A4.out).mono ?_); (case side1 => exact xC (Kd.C_below HR0_0.out HB.out)); (case side2 => exact HC0_0.out); rintro e w95 ⟨rfl, hb⟩; refine ⟨_, rfl, ?_⟩; replace BK139 := Aside0.mk (xB BK139 hb); replace BK140 := Aside0.mk (xB BK140 hb); replace BK141 := Aside0.mk (xB BK141 hb); replace HB := Aside0.mk (xS HB hb); (try clear hb); (try clear hb2); (try clear hk); (try clear hi)) | ((with_reducible refine gate_dst (N := 8) rfl ?_); refine box_event ?hg (N := 8) ?hd (cs := #[.int .i64 0, .int .i64 0, .int .i64 0, .int .i64 0, .int .i64 0, .int .i64 0, .int .i64 0, .int .i64 0, .bool false, .int .i64 0]) (t := 45) ?hr ?_; (case hd => rfl); (case hg => rfl); (case hr => first | (go_simp; done) | (go_simp; rfl)); intro gb153 hg w96 hbox hb; have BK153 := Aside0.mk (hbox); have GW153 := Aside0.mk (xZ HB hg); have GE153 := Aside0.mk (xZ HB hg); have NB139_153 := Aside0.mk (xN BK139 hg); have NB153_139 := Aside0.mk (xM BK139 hg); have NB140_153 := Aside0.mk (xN BK140 hg); have NB153_140 := Aside0.mk (xM BK140 hg); have NB141_153 := Aside0.mk (xN BK141 hg); have NB153_141 := Aside0.mk (xM BK141 hg); replace BK139 := Aside0.mk (xB BK139 hb); replace BK140 := Aside0.mk (xB BK140 hb); replace BK141 := Aside0.mk (xB BK141 hb); replace HB := Aside0.mk (xS HB hb); clear hb hbox hg; have hnb97 := NB153_139.out; have hnc97 := NB139_153.out; have hnb98 := NB153_140.out; have hnc98 := NB140_153.out; have hnb99 := NB153_141.out; have hnc99 := NB141_153.out; have hcz100_0 := blkc10 BK153.out; have hcz101_0 := blkc10 BK141.out))
  refine bodyPost_ret (results_ct rfl _ _ gb141 45 #[.int .i64 0, .int .i64 0, .int .i64 0, .int .i64 0, .int .i64 0, .int .i64 0, .int .i64 0, .int .i64 0, .bool false, .int .i64 0] (0, 0) _ rfl (xQ BK141) Try.underlying45 rfl (by kernel_rfl)) rfl ?_
  exact ⟨xer, xW HB⟩

end Go.Proofs.Ytcncilipmekfhaa.PClockStops
