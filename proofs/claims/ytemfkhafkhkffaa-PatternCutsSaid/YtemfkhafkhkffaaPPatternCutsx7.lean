-- Printed by a program of this claim's writer (wip/ext): an extension of the kit's print.
import Derived.Test.YtemfkhafkhkffaaPPatternCutsx0
import Derived.Test.YtemfkhafkhkffaaPPatternCutsx3
import Derived.Test.YtemfkhafkhkffaaPPatternCutsx4
namespace Go.Proofs.Ytemfkhafkhkffaa.PPatternCuts
open Go.RowKit Go.Proofs.YtemfkhafkhkffaaW.PrintWords Go.Proofs.YtemfkhafkhkffaaW.PrintLast Go.Proofs.YtemfkhafkhkffaaW.PrintMore
attribute [local go_sem] max2_int min2_int max_two min_two max_three min_three max_four min_four   -- for this text's walks alone
set_option linter.unusedVariables false
set_option linter.unusedSimpArgs false
theorem xne7 {a b : Nat} (h : Aside0 (a ≠ b)) : (a = b) = False := eq_false h.out

/-! ### pattern_Cut: function 14 -/
mutual
def pattern_Cut.j0 : Nat → Int → Int → Int → Bool → ByteArray → Int → Int → List (S101) → List Int → Bool → Bool → List (S103) → Int → Int → Int → List Int → List Int → List Int → Int → Int → Option (Int × Int × List Int × Int × Int)
  | 0, _, _, _, _, _, _, _, _, _, _, _, _, _, _, _, _, _, _, _, _ => none
  | k + 1, x2, x3, x4, x72, z242a, z242b, z242c, z242d, z242e, z242f, z242g, z242h, z242i, z242j, z242k, z243a, z243b, z243c, z243d, z243e => if x72 = true then (some (0, 0, ([] : List Int), 0, 4)) else (pattern_Cut.l0 k x2 x3 (wrap64 (x3 * x4)) 0 z242a z242b z242c z242d z242e z242f z242g z242h z242i z242j z242k z243a z243b z243c z243d z243e x3 x4 ([] : List Int) z243d)
def pattern_Cut.l0 : Nat → Int → Int → Int → Int → ByteArray → Int → Int → List (S101) → List Int → Bool → Bool → List (S103) → Int → Int → Int → List Int → List Int → List Int → Int → Int → Int → Int → List Int → Int → Option (Int × Int × List Int × Int × Int)
  | 0, _, _, _, _, _, _, _, _, _, _, _, _, _, _, _, _, _, _, _, _, _, _, _, _ => none
  | k + 1, x2, x3, x81, x82, z242a, z242b, z242c, z242d, z242e, z242f, z242g, z242h, z242i, z242j, z242k, z243a, z243b, z243c, z243d, z243e, z246a, z246b, z246c, z246d => if x82 < x81 then (if x3 = 0 then (none) else (if 0 ≤ (wrap64 ((wrap64 (x2 + (wrap64 ((wrap64 (Int.tdiv x82 x3)) * z242b)))) + (Int.tmod x82 x3))) then (if (wrap64 ((wrap64 (x2 + (wrap64 ((wrap64 (Int.tdiv x82 x3)) * z242b)))) + (Int.tmod x82 x3))) < (z243a.length : Int) then (if z246c.length < 17592186044416 then (pattern_Cut.l0 k x2 x3 x81 (wrap64 (x82 + 1)) z242a z242b z242c z242d z242e z242f z242g z242h z242i z242j z242k z243a z243b z243c z243d z243e z246a z246b (z246c ++ [rd z243a (wrap64 ((wrap64 (x2 + (wrap64 ((wrap64 (Int.tdiv x82 x3)) * z242b)))) + (Int.tmod x82 x3)))]) z246d) else (none)) else (none)) else (none))) else (some (z246a, z246b, z246c, z246d, 0))
end
def pattern_Cut.f (k : Nat) (a0_0 : ByteArray) (a0_1 : Int) (a0_2 : Int) (l0_3 : List (S101)) (l0_4 : List Int) (a0_5 : Bool) (a0_6 : Bool) (l0_7 : List (S103)) (a0_8 : Int) (a0_9 : Int) (a0_10 : Int) (l1_0 : List Int) (l1_1 : List Int) (l1_2 : List Int) (a1_3 : Int) (a1_4 : Int) (a2 : Int) (a3 : Int) (a4 : Int) : Option (Int × Int × List Int × Int × Int) := (place_Check.f k a0_0 a0_1 a0_2 l0_3 l0_4 a0_5 a0_6 l0_7 a0_8 a0_9 a0_10 l1_0 l1_1 l1_2 a1_3 a1_4).bind fun t244 => (if t244 = 0 then (if a2 < 0 then (pattern_Cut.j0 k a2 a3 a4 true a0_0 a0_1 a0_2 l0_3 l0_4 a0_5 a0_6 l0_7 a0_8 a0_9 a0_10 l1_0 l1_1 l1_2 a1_3 a1_4) else (if a2 ≥ (l1_0.length : Int) then (pattern_Cut.j0 k a2 a3 a4 true a0_0 a0_1 a0_2 l0_3 l0_4 a0_5 a0_6 l0_7 a0_8 a0_9 a0_10 l1_0 l1_1 l1_2 a1_3 a1_4) else (if a3 < 1 then (pattern_Cut.j0 k a2 a3 a4 true a0_0 a0_1 a0_2 l0_3 l0_4 a0_5 a0_6 l0_7 a0_8 a0_9 a0_10 l1_0 l1_1 l1_2 a1_3 a1_4) else (if a4 < 1 then (pattern_Cut.j0 k a2 a3 a4 true a0_0 a0_1 a0_2 l0_3 l0_4 a0_5 a0_6 l0_7 a0_8 a0_9 a0_10 l1_0 l1_1 l1_2 a1_3 a1_4) else (if a3 > a0_1 then (pattern_Cut.j0 k a2 a3 a4 true a0_0 a0_1 a0_2 l0_3 l0_4 a0_5 a0_6 l0_7 a0_8 a0_9 a0_10 l1_0 l1_1 l1_2 a1_3 a1_4) else (if a4 > a0_2 then (pattern_Cut.j0 k a2 a3 a4 true a0_0 a0_1 a0_2 l0_3 l0_4 a0_5 a0_6 l0_7 a0_8 a0_9 a0_10 l1_0 l1_1 l1_2 a1_3 a1_4) else (if a0_1 = 0 then (none) else (if (wrap64 ((Int.tmod a2 a0_1) + a3)) > a0_1 then (pattern_Cut.j0 k a2 a3 a4 true a0_0 a0_1 a0_2 l0_3 l0_4 a0_5 a0_6 l0_7 a0_8 a0_9 a0_10 l1_0 l1_1 l1_2 a1_3 a1_4) else (pattern_Cut.j0 k a2 a3 a4 (decide ((wrap64 ((wrap64 (Int.tdiv a2 a0_1)) + a4)) > a0_2)) a0_0 a0_1 a0_2 l0_3 l0_4 a0_5 a0_6 l0_7 a0_8 a0_9 a0_10 l1_0 l1_1 l1_2 a1_3 a1_4))))))))) else (some (0, 0, ([] : List Int), 0, t244)))
theorem pattern_Cut.mono_l : ∀ k, (∀ y0 y1 y2 y3 y4 y5 y6 y7 y8 y9 y10 y11 y12 y13 y14 y15 y16 y17 y18 y19, LeO (pattern_Cut.j0 k y0 y1 y2 y3 y4 y5 y6 y7 y8 y9 y10 y11 y12 y13 y14 y15 y16 y17 y18 y19) (pattern_Cut.j0 (k + 1) y0 y1 y2 y3 y4 y5 y6 y7 y8 y9 y10 y11 y12 y13 y14 y15 y16 y17 y18 y19)) ∧ (∀ y0 y1 y2 y3 y4 y5 y6 y7 y8 y9 y10 y11 y12 y13 y14 y15 y16 y17 y18 y19 y20 y21 y22 y23, LeO (pattern_Cut.l0 k y0 y1 y2 y3 y4 y5 y6 y7 y8 y9 y10 y11 y12 y13 y14 y15 y16 y17 y18 y19 y20 y21 y22 y23) (pattern_Cut.l0 (k + 1) y0 y1 y2 y3 y4 y5 y6 y7 y8 y9 y10 y11 y12 y13 y14 y15 y16 y17 y18 y19 y20 y21 y22 y23))
  | 0 => ⟨fun _ _ _ _ _ _ _ _ _ _ _ _ _ _ _ _ _ _ _ _ r h => by simp [pattern_Cut.j0] at h, fun _ _ _ _ _ _ _ _ _ _ _ _ _ _ _ _ _ _ _ _ _ _ _ _ r h => by simp [pattern_Cut.l0] at h⟩
  | k + 1 => by
    obtain ⟨ih0, ih1⟩ := pattern_Cut.mono_l k
    refine ⟨?_, ?_⟩
    · intros
      unfold pattern_Cut.j0
      repeat' first
      | (with_reducible apply ih0)
      | (with_reducible apply ih1)
      | (with_reducible apply place_Check.mono)
      | (with_reducible exact LeO.refl _)
      | (with_reducible exact LeO.none _)
      | (with_reducible refine LeO.ite ?_ ?_)
      | (with_reducible refine LeO.bind ?_ (fun _ => ?_))
      | apply ih0
      | apply ih1
      | apply place_Check.mono
      | exact LeO.none _
      | refine LeO.ite ?_ ?_
      | refine LeO.bind ?_ (fun _ => ?_)
    · intros
      unfold pattern_Cut.l0
      repeat' first
      | (with_reducible apply ih0)
      | (with_reducible apply ih1)
      | (with_reducible apply place_Check.mono)
      | (with_reducible exact LeO.refl _)
      | (with_reducible exact LeO.none _)
      | (with_reducible refine LeO.ite ?_ ?_)
      | (with_reducible refine LeO.bind ?_ (fun _ => ?_))
      | apply ih0
      | apply ih1
      | apply place_Check.mono
      | exact LeO.none _
      | refine LeO.ite ?_ ?_
      | refine LeO.bind ?_ (fun _ => ?_)
theorem pattern_Cut.mono : ∀ a0 a1 a2 a3 a4 a5 a6 a7 a8 a9 a10 a11 a12 a13 a14 a15 a16 a17 a18 k, LeO (pattern_Cut.f k a0 a1 a2 a3 a4 a5 a6 a7 a8 a9 a10 a11 a12 a13 a14 a15 a16 a17 a18) (pattern_Cut.f (k + 1) a0 a1 a2 a3 a4 a5 a6 a7 a8 a9 a10 a11 a12 a13 a14 a15 a16 a17 a18) := by
  intro a0 a1 a2 a3 a4 a5 a6 a7 a8 a9 a10 a11 a12 a13 a14 a15 a16 a17 a18 k
  obtain ⟨ih0, ih1⟩ := pattern_Cut.mono_l k
  unfold pattern_Cut.f
  repeat' first
      | (with_reducible apply ih0)
      | (with_reducible apply ih1)
      | (with_reducible apply place_Check.mono)
      | (with_reducible exact LeO.refl _)
      | (with_reducible exact LeO.none _)
      | (with_reducible refine LeO.ite ?_ ?_)
      | (with_reducible refine LeO.bind ?_ (fun _ => ?_))
      | apply ih0
      | apply ih1
      | apply place_Check.mono
      | exact LeO.none _
      | refine LeO.ite ?_ ?_
      | refine LeO.bind ?_ (fun _ => ?_)
def pattern_Cut.T4 : Bool × List (List Nat × List Nat) := (true, [([], []), ([0], [0]), ([1], [1]), ([2], [2]), ([2], [2]), ([4, 2], [2, 4]), ([5, 2], [2, 5]), ([3, 6, 2], [2, 3, 6]), ([2, 7], [2, 7]), ([8, 2], [8]), ([9], [9]), ([10, 9], [9, 10]), ([9, 11], [9, 11]), ([12, 9], [12]), ([13], [13]), ([14, 13], [13, 14]), ([13, 15], [13, 15]), ([16, 13], [16]), ([17], [17]), ([17], [17]), ([19, 17], [17, 19]), ([18, 20, 17], [17, 18, 20]), ([17, 21], [17, 21]), ([22, 17], [22]), ([23], [23]), ([23], [23]), ([25, 23], [23, 25]), ([24, 26, 23], [23, 24, 26]), ([23, 27], [23, 27]), ([28, 23], [28]), ([29], [29]), ([29], [29]), ([31, 29], [29, 31]), ([30, 32, 29], [29, 30, 32]), ([29], [29]), ([33, 34, 29], [29, 33, 34]), ([29], [29]), ([36, 29], [29, 36]), ([35, 37, 29], [29, 35, 37]), ([29, 38], [29, 38]), ([39, 29], [39]), ([40], [40]), ([40], [40]), ([42, 40], [40, 42]), ([41, 43, 40], [40, 41, 43]), ([40], [40]), ([44, 45, 40], [40, 44, 45]), ([40], [40]), ([47, 40], [40, 47]), ([46, 48, 40], [40, 46, 48]), ([40, 49], [40, 49])])
def pattern_Cut.B4 : List Nat := [0, 1, 3, 7, 7, 23, 55, 127, 255, 511, 1023, 2047, 4095, 8191, 16383, 32767, 65535, 131071, 262143, 262143, 786431, 2097151, 4194303, 8388607, 16777215, 16777215, 50331647, 134217727, 268435455, 536870911, 1073741823, 1073741823, 3221225471, 8589934591, 1073741823, 34359738367, 1073741823, 69793218559, 274877906943, 549755813887, 1099511627775, 2199023255551, 2199023255551, 6597069766655, 17592186044415, 2199023255551, 70368744177663, 2199023255551, 142936511610879, 562949953421311, 1125899906842623]
theorem pattern_Cut.tab4 : rtab .any (opsOf Try.f14 4) = pattern_Cut.T4 := by as_aux_lemma => kernel_rfl
theorem pattern_Cut.bits4 : waitsOk pattern_Cut.T4.2 pattern_Cut.B4 = true := by as_aux_lemma => kernel_rfl
def pattern_Cut.T10 : Bool × List (List Nat × List Nat) := (true, [([], []), ([0], [0]), ([], []), ([2], [2]), ([], []), ([], []), ([], []), ([5, 6], [5, 6]), ([], []), ([8], [8]), ([7, 9], [7, 9]), ([4, 10], [4, 10]), ([], []), ([], []), ([12, 13], [12, 13]), ([11, 14], [11, 14]), ([3, 15], [3, 15]), ([16], [16]), ([17], [17]), ([1, 18], [1, 18]), ([0, 1, 2, 3, 4, 5, 6, 7, 8, 9, 10, 11, 12, 13, 14, 15, 16, 17, 18, 19], []), ([20, 19, 19, 0, 1, 2, 3, 4, 5, 6, 7, 8, 9, 10, 11, 12, 13, 14, 15, 16, 17, 18, 19], [19, 20])])
def pattern_Cut.B10 : List Nat := [0, 1, 0, 4, 0, 0, 0, 96, 0, 256, 992, 2032, 0, 0, 12288, 32752, 65532, 131068, 262140, 524287, 1048575, 2097151]
theorem pattern_Cut.tab10 : rtab .any (opsOf Try.f14 10) = pattern_Cut.T10 := by as_aux_lemma => kernel_rfl
theorem pattern_Cut.bits10 : waitsOk pattern_Cut.T10.2 pattern_Cut.B10 = true := by as_aux_lemma => kernel_rfl
set_option maxHeartbeats 80000000 in
set_option maxRecDepth 100000 in
theorem pattern_Cut.calls (k : Nat) (a0_0 : ByteArray) (a0_1 : Int) (a0_2 : Int) (A0_3 : Option Addr) (c0_3 : Nat) (l0_3 : List (S101)) (A0_4 : Option Addr) (c0_4 : Nat) (l0_4 : List Int) (a0_5 : Bool) (a0_6 : Bool) (A0_7 : Option Addr) (c0_7 : Nat) (l0_7 : List (S103)) (a0_8 : Int) (a0_9 : Int) (a0_10 : Int) (A1_0 : Option Addr) (c1_0 : Nat) (l1_0 : List Int) (A1_1 : Option Addr) (c1_1 : Nat) (l1_1 : List Int) (A1_2 : Option Addr) (c1_2 : Nat) (l1_2 : List Int) (a1_3 : Int) (a1_4 : Int) (a2 : Int) (a3 : Int) (a4 : Int) (r1 : Int) (r2 : Int) (r3 : List Int) (r4 : Int) (r5 : Int) (w : World) (hr0_3 : Kd.C k101 w A0_3 l0_3.length l0_3) (hc0_3 : l0_3.length ≤ c0_3) (hr0_4 : Kd.C (Kd.int .i64) w A0_4 l0_4.length l0_4) (hc0_4 : l0_4.length ≤ c0_4) (hr0_7 : Kd.C k103 w A0_7 l0_7.length l0_7) (hc0_7 : l0_7.length ≤ c0_7) (hr1_0 : Kd.C (Kd.int .i64) w A1_0 l1_0.length l1_0) (hc1_0 : l1_0.length ≤ c1_0) (hr1_1 : Kd.C (Kd.int .i64) w A1_1 l1_1.length l1_1) (hc1_1 : l1_1.length ≤ c1_1) (hr1_2 : Kd.C (Kd.int .i64) w A1_2 l1_2.length l1_2) (hc1_2 : l1_2.length ≤ c1_2) (h : pattern_Cut.f k a0_0 a0_1 a0_2 l0_3 l0_4 a0_5 a0_6 l0_7 a0_8 a0_9 a0_10 l1_0 l1_1 l1_2 a1_3 a1_4 a2 a3 a4 = some (r1, r2, r3, r4, r5)) :
    Calls Try.prog 14 #[.agg #[.string a0_0, .int .i64 a0_1, .int .i64 a0_2, .slice A0_3 l0_3.length c0_3, .slice A0_4 l0_4.length c0_4, .bool a0_5, .bool a0_6, .slice A0_7 l0_7.length c0_7, .int .i64 a0_8, .int .i64 a0_9, .int .i64 a0_10], .agg #[.slice A1_0 l1_0.length c1_0, .slice A1_1 l1_1.length c1_1, .slice A1_2 l1_2.length c1_2, .int .i64 a1_3, .int .i64 a1_4], .int .i64 a2, .int .i64 a3, .int .i64 a4] w fun e w' => ∃ v2_ : Value, e = .returned (.tuple #[.agg #[.int .i64 r1, .int .i64 r2, v2_, .int .i64 r4], .int .i64 r5]) ∧ Kd.R (Kd.int .i64) 3 w' w.heap.size (fun _ => True) v2_ r3 ∧ Below w.heap.size w w' := by
 have hu44 := Try.underlying44; have hu47 := Try.underlying47; have hu49 := Try.underlying49; have HR0_3 := Aside0.mk hr0_3; have HC0_3 := Aside0.mk hc0_3; clear hr0_3 hc0_3; have HR0_4 := Aside0.mk hr0_4; have HC0_4 := Aside0.mk hc0_4; clear hr0_4 hc0_4; have HR0_7 := Aside0.mk hr0_7; have HC0_7 := Aside0.mk hc0_7; clear hr0_7 hc0_7; have HR1_0 := Aside0.mk hr1_0; have HC1_0 := Aside0.mk hc1_0; clear hr1_0 hc1_0; have HR1_1 := Aside0.mk hr1_1; have HC1_1 := Aside0.mk hc1_1; clear hr1_1 hc1_1; have HR1_2 := Aside0.mk hr1_2; have HC1_2 := Aside0.mk hc1_2; clear hr1_2 hc1_2; have HB := Aside0.mk (Below.refl w.heap.size w); have hss_ := @isSome_setCell
 have H : ((place_Check.f k a0_0 a0_1 a0_2 l0_3 l0_4 a0_5 a0_6 l0_7 a0_8 a0_9 a0_10 l1_0 l1_1 l1_2 a1_3 a1_4).bind fun t244 => (if t244 = 0 then (if a2 < 0 then (pattern_Cut.j0 k a2 a3 a4 true a0_0 a0_1 a0_2 l0_3 l0_4 a0_5 a0_6 l0_7 a0_8 a0_9 a0_10 l1_0 l1_1 l1_2 a1_3 a1_4) else (if a2 ≥ (l1_0.length : Int) then (pattern_Cut.j0 k a2 a3 a4 true a0_0 a0_1 a0_2 l0_3 l0_4 a0_5 a0_6 l0_7 a0_8 a0_9 a0_10 l1_0 l1_1 l1_2 a1_3 a1_4) else (if a3 < 1 then (pattern_Cut.j0 k a2 a3 a4 true a0_0 a0_1 a0_2 l0_3 l0_4 a0_5 a0_6 l0_7 a0_8 a0_9 a0_10 l1_0 l1_1 l1_2 a1_3 a1_4) else (if a4 < 1 then (pattern_Cut.j0 k a2 a3 a4 true a0_0 a0_1 a0_2 l0_3 l0_4 a0_5 a0_6 l0_7 a0_8 a0_9 a0_10 l1_0 l1_1 l1_2 a1_3 a1_4) else (if a3 > a0_1 then (pattern_Cut.j0 k a2 a3 a4 true a0_0 a0_1 a0_2 l0_3 l0_4 a0_5 a0_6 l0_7 a0_8 a0_9 a0_10 l1_0 l1_1 l1_2 a1_3 a1_4) else (if a4 > a0_2 then (pattern_Cut.j0 k a2 a3 a4 true a0_0 a0_1 a0_2 l0_3 l0_4 a0_5 a0_6 l0_7 a0_8 a0_9 a0_10 l1_0 l1_1 l1_2 a1_3 a1_4) else (if a0_1 = 0 then (none) else (if (wrap64 ((Int.tmod a2 a0_1) + a3)) > a0_1 then (pattern_Cut.j0 k a2 a3 a4 true a0_0 a0_1 a0_2 l0_3 l0_4 a0_5 a0_6 l0_7 a0_8 a0_9 a0_10 l1_0 l1_1 l1_2 a1_3 a1_4) else (pattern_Cut.j0 k a2 a3 a4 (decide ((wrap64 ((wrap64 (Int.tdiv a2 a0_1)) + a4)) > a0_2)) a0_0 a0_1 a0_2 l0_3 l0_4 a0_5 a0_6 l0_7 a0_8 a0_9 a0_10 l1_0 l1_1 l1_2 a1_3 a1_4))))))))) else (some (0, 0, ([] : List Int), 0, t244)))) = some (r1, r2, r3, r4, r5) := h
 clear h; replace H := Option.bind_eq_some_iff.mp H
 obtain ⟨t244, A60, H⟩ := H
 try dsimp only at H
 have A6 := Aside0.mk A60; clear A60
 by_cases c7 : t244 = 0
 ·refine box_ ?g1;letI i:type_of% ?g1:=⟨by
  rw [if_pos c7] at H
  have c7b0 : (t244 == 0) = true := beq_iff_eq.mpr c7
  have c7b1 : (t244 != 0) = false := bne_eq_false_iff_eq.mpr c7
  clear c7; have HC8 := Aside0.mk H; clear H
  go_enter Try.func14, Try.ntmps14
  go_upto_region 4 with (first | ((with_reducible refine gate_dst (N := 5) rfl ?_); (try (refine gate_guard (by rfl) ?_; dsimp only)); refine box_event ?hg (N := 5) ?hd (cs := #[.string a0_0, .int .i64 a0_1, .int .i64 a0_2, .slice A0_3 l0_3.length c0_3, .slice A0_4 l0_4.length c0_4, .bool a0_5, .bool a0_6, .slice A0_7 l0_7.length c0_7, .int .i64 a0_8, .int .i64 a0_9, .int .i64 a0_10]) (t := 44) ?hr ?_; (case hd => rfl); (case hg => rfl); (case hr => first | (go_simp; done) | (go_simp; rfl)); intro gb241 hg w9 hbox hb; have BK241 := Aside0.mk (hbox); have GW241 := Aside0.mk (xZ HB hg); have GE241 := Aside0.mk (xZ HB hg); replace HB := Aside0.mk (xS HB hb); clear hb hbox hg) | ((with_reducible refine gate_dst (N := 6) rfl ?_); (try (refine gate_guard (by rfl) ?_; dsimp only)); refine box_event ?hg (N := 6) ?hd (cs := #[.slice A1_0 l1_0.length c1_0, .slice A1_1 l1_1.length c1_1, .slice A1_2 l1_2.length c1_2, .int .i64 a1_3, .int .i64 a1_4]) (t := 47) ?hr ?_; (case hd => rfl); (case hg => rfl); (case hr => first | (go_simp; done) | (go_simp; rfl)); intro gb242 hg w10 hbox hb; have BK242 := Aside0.mk (hbox); have GW242 := Aside0.mk (xZ HB hg); have GE242 := Aside0.mk (xZ HB hg); have NB241_242 := Aside0.mk (xN BK241 hg); have NB242_241 := Aside0.mk (xM BK241 hg); replace BK241 := Aside0.mk (xB BK241 hb); replace HB := Aside0.mk (xS HB hb); clear hb hbox hg) | ((with_reducible refine gate_dst (N := 10) rfl ?_); (try (refine gate_guard (by rfl) ?_; dsimp only)); refine box_event ?hg (N := 10) ?hd (cs := #[.int .i64 0, .int .i64 0, .slice none 0 0, .int .i64 0]) (t := 49) ?hr ?_; (case hd => rfl); (case hg => rfl); (case hr => first | (go_simp; done) | (go_simp; rfl)); intro gb243 hg w11 hbox hb; have BK243 := Aside0.mk (hbox); have GW243 := Aside0.mk (xZ HB hg); have GE243 := Aside0.mk (xZ HB hg); have NB241_243 := Aside0.mk (xN BK241 hg); have NB243_241 := Aside0.mk (xM BK241 hg); have NB242_243 := Aside0.mk (xN BK242 hg); have NB243_242 := Aside0.mk (xM BK242 hg); replace BK241 := Aside0.mk (xB BK241 hb); replace BK242 := Aside0.mk (xB BK242 hb); replace HB := Aside0.mk (xS HB hb); clear hb hbox hg; have hnb12 := xne7 NB241_242; have hnc12 := xne7 NB242_241; have hnb13 := xne7 NB241_243; have hnc13 := xne7 NB243_241; have hcz14_0 := blkc11 BK241.out; have hnb15 := xne7 NB242_243; have hnc15 := xne7 NB243_242; have hcz16_0 := blkc5 BK242.out) | ((with_reducible refine gate_callee (f := 17) rfl ?_); refine goesL_ (some 17) rfl rfl Try.func17 kr_ rfl #[.agg #[.string a0_0, .int .i64 a0_1, .int .i64 a0_2, .slice A0_3 l0_3.length c0_3, .slice A0_4 l0_4.length c0_4, .bool a0_5, .bool a0_6, .slice A0_7 l0_7.length c0_7, .int .i64 a0_8, .int .i64 a0_9, .int .i64 a0_10], .agg #[.slice A1_0 l1_0.length c1_0, .slice A1_1 l1_1.length c1_1, .slice A1_2 l1_2.length c1_2, .int .i64 a1_3, .int .i64 a1_4]] rfl (by (try simp only [List.map_toArray, List.map_cons, List.map_nil]); first | done | rfl | (simp only [List.length_drop, List.length_take]; rfl)) ?_; (with_reducible refine (place_Check.calls k a0_0 a0_1 a0_2 _ _ l0_3 _ _ l0_4 a0_5 a0_6 _ _ l0_7 a0_8 a0_9 a0_10 _ _ l1_0 _ _ l1_1 _ _ l1_2 a1_3 a1_4 t244 _ ?side1 ?side2 ?side3 ?side4 ?side5 ?side6 ?side7 ?side8 ?side9 ?side10 ?side11 ?side12 A6.out).mono ?_); (case side1 => exact xC (Kd.C_below HR0_3.out HB.out)); (case side2 => exact HC0_3.out); (case side3 => exact xC (Kd.C_below HR0_4.out HB.out)); (case side4 => exact HC0_4.out); (case side5 => exact xC (Kd.C_below HR0_7.out HB.out)); (case side6 => exact HC0_7.out); (case side7 => exact xC (Kd.C_below HR1_0.out HB.out)); (case side8 => exact HC1_0.out); (case side9 => exact xC (Kd.C_below HR1_1.out HB.out)); (case side10 => exact HC1_1.out); (case side11 => exact xC (Kd.C_below HR1_2.out HB.out)); (case side12 => exact HC1_2.out); rintro e w17 ⟨rfl, hb⟩; refine ⟨_, rfl, ?_⟩; replace BK241 := Aside0.mk (xB BK241 hb); replace BK242 := Aside0.mk (xB BK242 hb); replace BK243 := Aside0.mk (xB BK243 hb); replace HB := Aside0.mk (xS HB hb); (try clear hb); (try clear hb2); (try clear hk); (try clear hi)))
  (try have hq243_241 := xne7 NB243_241); (try have hq241_243 := xne7 NB241_243); (try have hq243_242 := xne7 NB243_242); (try have hq242_243 := xne7 NB242_243); (try have hq242_241 := xne7 NB242_241); (try have hq241_242 := xne7 NB241_242)
  (try simp only [Act.put, List.setIfInBounds_toArray, List.set_cons_zero, List.set_cons_succ])
  go_cut [72] (fun vs72 wc => ∃ (kq : Nat) (x72_7 : Bool), vs72 = .bool x72_7 ∧ Aside0 (pattern_Cut.j0 kq a2 a3 a4 x72_7 a0_0 a0_1 a0_2 l0_3 l0_4 a0_5 a0_6 l0_7 a0_8 a0_9 a0_10 l1_0 l1_1 l1_2 a1_3 a1_4 = some (r1, r2, r3, r4, r5)) ∧ Aside0 (kq ≤ k) ∧ Aside0 (wc.heap[gb241]? = some (.cells #[.string a0_0, .int .i64 a0_1, .int .i64 a0_2, (.slice A0_3 l0_3.length c0_3), (.slice A0_4 l0_4.length c0_4), .bool a0_5, .bool a0_6, (.slice A0_7 l0_7.length c0_7), .int .i64 a0_8, .int .i64 a0_9, .int .i64 a0_10] 44 (0, 0))) ∧ Aside0 (wc.heap[gb242]? = some (.cells #[(.slice A1_0 l1_0.length c1_0), (.slice A1_1 l1_1.length c1_1), (.slice A1_2 l1_2.length c1_2), .int .i64 a1_3, .int .i64 a1_4] 47 (0, 0))) ∧ Aside0 (wc.heap[gb243]? = some (.cells #[.int .i64 0, .int .i64 0, (.slice none 0 0), .int .i64 0] 49 (0, 0))) ∧ Aside0 (Below w.heap.size w wc))
  case first =>
   refine box_ ?g2;letI i:type_of% ?g2:=⟨by
   have H := HC8.out; clear HC8
   by_cases c18 : a2 < 0
   ·rw [if_pos c18] at H
    have c18b0 : decide (a2 < 0) = true := decide_eq_true c18
    clear c18
    (first | rw [c18b0] | (simp only [i64_w, i32_w]; rw [c18b0]) | skip)
    have H' := Aside0.mk H
    clear H
    try go_wp2
    replace BK241 := Aside0.mk (blk_drew BK241.out); replace BK242 := Aside0.mk (blk_drew BK242.out); replace BK243 := Aside0.mk (blk_drew BK243.out); replace HB := Aside0.mk (below_drew1 HB.out)
    refine start_ (n := 51) (S := fun w' => True) (ds := []) (mk 51 0) kr_ rfl rfl trivial (fun hHeld => ?_); refine with_tabW pattern_Cut.tab4 pattern_Cut.bits4 (fun HT_ HW_ => ?_)
    generalize w17.drew = w19 at BK241 BK242 BK243 HB hHeld ⊢; refine pu_ 0 22 HT_ ?_; refine pu_ 1 23 HT_ ?_; refine pu_ 2 24 HT_ ?_; refine pn_ 3 25 HT_ ?_; refine pn_ 4 26 HT_ ?_; refine pn_ 5 27 HT_ ?_; refine pn_ 6 28 HT_ ?_; refine pn_ 7 29 HT_ ?_; refine pu_ 8 30 HT_ ?_; refine pu_ 9 31 HT_ ?_; refine pn_ 10 32 HT_ ?_; refine pn_ 11 33 HT_ ?_; refine pu_ 12 34 HT_ ?_; refine pu_ 13 35 HT_ ?_; refine pn_ 14 36 HT_ ?_; refine pn_ 15 37 HT_ ?_; refine pu_ 16 38 HT_ ?_; refine pu_ 17 39 HT_ ?_; refine pn_ 18 40 HT_ ?_; refine pn_ 19 41 HT_ ?_; refine pn_ 20 42 HT_ ?_; refine pn_ 21 43 HT_ ?_; refine pu_ 22 44 HT_ ?_; refine pu_ 23 45 HT_ ?_; refine pn_ 24 46 HT_ ?_; refine pn_ 25 47 HT_ ?_; refine pn_ 26 48 HT_ ?_; refine pn_ 27 49 HT_ ?_; refine pu_ 28 50 HT_ ?_; refine pu_ 29 51 HT_ ?_; refine pn_ 30 52 HT_ ?_; refine pn_ 31 53 HT_ ?_; refine pn_ 32 54 HT_ ?_; refine pn_ 33 55 HT_ ?_; refine pn_ 34 56 HT_ ?_; refine pn_ 35 57 HT_ ?_; refine pn_ 36 58 HT_ ?_; refine pn_ 37 59 HT_ ?_; refine pn_ 38 60 HT_ ?_; refine pu_ 39 61 HT_ ?_; refine pu_ 40 62 HT_ ?_; refine pn_ 41 63 HT_ ?_; refine pn_ 42 64 HT_ ?_; refine pn_ 43 65 HT_ ?_; refine pn_ 44 66 HT_ ?_; refine pn_ 45 67 HT_ ?_; refine pn_ 46 68 HT_ ?_; refine pn_ 47 69 HT_ ?_; refine pn_ 48 70 HT_ ?_; refine pn_ 49 71 HT_ ?_; refine pu_ 50 72 HT_ ?_
    refine done_ (done_of HT_.out kr_) ?_
    try go_wp2
    go_meet
    case rel => exact ⟨_, (true), (xrf), H', ⟨by first | omega | exact Nat.le_refl _⟩, ⟨xK BK241⟩, ⟨xK BK242⟩, ⟨xK BK243⟩, ⟨xW HB⟩⟩
   ·refine box_ ?g3;letI i:type_of% ?g3:=⟨by
    rw [if_neg c18] at H
    have c18b0 : decide (a2 < 0) = false := decide_eq_false c18
    clear c18
    (first | rw [c18b0] | (simp only [i64_w, i32_w]; rw [c18b0]) | skip)
    by_cases c20 : a2 ≥ (l1_0.length : Int)
    ·rw [if_pos c20] at H
     have c20b0 : decide ((l1_0.length : Int) ≤ a2) = true := decide_eq_true c20
     clear c20
     have H' := Aside0.mk H
     clear H
     try go_wp2
     replace BK241 := Aside0.mk (blk_drew BK241.out); replace BK242 := Aside0.mk (blk_drew BK242.out); replace BK243 := Aside0.mk (blk_drew BK243.out); replace HB := Aside0.mk (below_drew1 HB.out)
     refine start_ (n := 51) (S := fun w' => ce w' gb242 0 (.slice A1_0 l1_0.length c1_0) ∧ ce w' gb242 1 (.slice A1_1 l1_1.length c1_1) ∧ ce w' gb242 2 (.slice A1_2 l1_2.length c1_2) ∧ ce w' gb242 3 (.int .i64 a1_3) ∧ ce w' gb242 4 (.int .i64 a1_4)) (ds := []) (mk 51 0) kr_ rfl rfl ⟨xc BK242 0, xc BK242 1, xc BK242 2, xc BK242 3, xc BK242 4⟩ (fun hHeld => ?_); refine with_tabW pattern_Cut.tab4 pattern_Cut.bits4 (fun HT_ HW_ => ?_)
     generalize w17.drew = w21 at BK241 BK242 BK243 HB hHeld ⊢; refine pu_ 0 22 HT_ ?_; refine pu_ 1 23 HT_ ?_; refine pu_ 2 24 HT_ ?_; refine pu_ 3 25 HT_ ?_; refine pu_ 4 26 HT_ ?_; refine tk_ 5 27 HT_ HW_ hHeld ?_; refine pu_ 6 28 HT_ ?_; refine pu_ 7 29 HT_ ?_; refine pu_ 8 30 HT_ ?_; refine pu_ 9 31 HT_ ?_; refine pn_ 10 32 HT_ ?_; refine pn_ 11 33 HT_ ?_; refine pu_ 12 34 HT_ ?_; refine pu_ 13 35 HT_ ?_; refine pn_ 14 36 HT_ ?_; refine pn_ 15 37 HT_ ?_; refine pu_ 16 38 HT_ ?_; refine pu_ 17 39 HT_ ?_; refine pn_ 18 40 HT_ ?_; refine pn_ 19 41 HT_ ?_; refine pn_ 20 42 HT_ ?_; refine pn_ 21 43 HT_ ?_; refine pu_ 22 44 HT_ ?_; refine pu_ 23 45 HT_ ?_; refine pn_ 24 46 HT_ ?_; refine pn_ 25 47 HT_ ?_; refine pn_ 26 48 HT_ ?_; refine pn_ 27 49 HT_ ?_; refine pu_ 28 50 HT_ ?_; refine pu_ 29 51 HT_ ?_; refine pn_ 30 52 HT_ ?_; refine pn_ 31 53 HT_ ?_; refine pn_ 32 54 HT_ ?_; refine pn_ 33 55 HT_ ?_; refine pn_ 34 56 HT_ ?_; refine pn_ 35 57 HT_ ?_; refine pn_ 36 58 HT_ ?_; refine pn_ 37 59 HT_ ?_; refine pn_ 38 60 HT_ ?_; refine pu_ 39 61 HT_ ?_; refine pu_ 40 62 HT_ ?_; refine pn_ 41 63 HT_ ?_; refine pn_ 42 64 HT_ ?_; refine pn_ 43 65 HT_ ?_; refine pn_ 44 66 HT_ ?_; refine pn_ 45 67 HT_ ?_; refine pn_ 46 68 HT_ ?_; refine pn_ 47 69 HT_ ?_; refine pn_ 48 70 HT_ ?_; refine pn_ 49 71 HT_ ?_; refine pu_ 50 72 HT_ ?_
     refine done_ (done_of HT_.out kr_) ?_
     try go_wp2
     go_meet
     case rel => exact ⟨_, (true), (xrf), H', ⟨by first | omega | exact Nat.le_refl _⟩, ⟨xK BK241⟩, ⟨xK BK242⟩, ⟨xK BK243⟩, ⟨xW HB⟩⟩
    ·refine box_ ?g4;letI i:type_of% ?g4:=⟨by
     rw [if_neg c20] at H
     have c20b0 : decide ((l1_0.length : Int) ≤ a2) = false := decide_eq_false c20
     clear c20
     by_cases c22 : a3 < 1
     ·rw [if_pos c22] at H
      have c22b0 : decide (a3 < 1) = true := decide_eq_true c22
      clear c22
      have H' := Aside0.mk H
      clear H
      try go_wp2
      replace BK241 := Aside0.mk (blk_drew BK241.out); replace BK242 := Aside0.mk (blk_drew BK242.out); replace BK243 := Aside0.mk (blk_drew BK243.out); replace HB := Aside0.mk (below_drew1 HB.out)
      refine start_ (n := 51) (S := fun w' => ce w' gb242 0 (.slice A1_0 l1_0.length c1_0) ∧ ce w' gb242 1 (.slice A1_1 l1_1.length c1_1) ∧ ce w' gb242 2 (.slice A1_2 l1_2.length c1_2) ∧ ce w' gb242 3 (.int .i64 a1_3) ∧ ce w' gb242 4 (.int .i64 a1_4)) (ds := []) (mk 51 0) kr_ rfl rfl ⟨xc BK242 0, xc BK242 1, xc BK242 2, xc BK242 3, xc BK242 4⟩ (fun hHeld => ?_); refine with_tabW pattern_Cut.tab4 pattern_Cut.bits4 (fun HT_ HW_ => ?_)
      generalize w17.drew = w23 at BK241 BK242 BK243 HB hHeld ⊢; refine pu_ 0 22 HT_ ?_; refine pu_ 1 23 HT_ ?_; refine pu_ 2 24 HT_ ?_; refine pu_ 3 25 HT_ ?_; refine pu_ 4 26 HT_ ?_; refine tk_ 5 27 HT_ HW_ hHeld ?_; refine pu_ 6 28 HT_ ?_; refine pu_ 7 29 HT_ ?_; refine pu_ 8 30 HT_ ?_; refine pu_ 9 31 HT_ ?_; refine pu_ 10 32 HT_ ?_; refine pu_ 11 33 HT_ ?_; refine pu_ 12 34 HT_ ?_; refine pu_ 13 35 HT_ ?_; refine pn_ 14 36 HT_ ?_; refine pn_ 15 37 HT_ ?_; refine pu_ 16 38 HT_ ?_; refine pu_ 17 39 HT_ ?_; refine pn_ 18 40 HT_ ?_; refine pn_ 19 41 HT_ ?_; refine pn_ 20 42 HT_ ?_; refine pn_ 21 43 HT_ ?_; refine pu_ 22 44 HT_ ?_; refine pu_ 23 45 HT_ ?_; refine pn_ 24 46 HT_ ?_; refine pn_ 25 47 HT_ ?_; refine pn_ 26 48 HT_ ?_; refine pn_ 27 49 HT_ ?_; refine pu_ 28 50 HT_ ?_; refine pu_ 29 51 HT_ ?_; refine pn_ 30 52 HT_ ?_; refine pn_ 31 53 HT_ ?_; refine pn_ 32 54 HT_ ?_; refine pn_ 33 55 HT_ ?_; refine pn_ 34 56 HT_ ?_; refine pn_ 35 57 HT_ ?_; refine pn_ 36 58 HT_ ?_; refine pn_ 37 59 HT_ ?_; refine pn_ 38 60 HT_ ?_; refine pu_ 39 61 HT_ ?_; refine pu_ 40 62 HT_ ?_; refine pn_ 41 63 HT_ ?_; refine pn_ 42 64 HT_ ?_; refine pn_ 43 65 HT_ ?_; refine pn_ 44 66 HT_ ?_; refine pn_ 45 67 HT_ ?_; refine pn_ 46 68 HT_ ?_; refine pn_ 47 69 HT_ ?_; refine pn_ 48 70 HT_ ?_; refine pn_ 49 71 HT_ ?_; refine pu_ 50 72 HT_ ?_
      refine done_ (done_of HT_.out kr_) ?_
      try go_wp2
      go_meet
      case rel => exact ⟨_, (true), (xrf), H', ⟨by first | omega | exact Nat.le_refl _⟩, ⟨xK BK241⟩, ⟨xK BK242⟩, ⟨xK BK243⟩, ⟨xW HB⟩⟩
     ·refine box_ ?g5;letI i:type_of% ?g5:=⟨by
      rw [if_neg c22] at H
      have c22b0 : decide (a3 < 1) = false := decide_eq_false c22
      clear c22
      by_cases c24 : a4 < 1
      ·rw [if_pos c24] at H
       have c24b0 : decide (a4 < 1) = true := decide_eq_true c24
       clear c24
       have H' := Aside0.mk H
       clear H
       try go_wp2
       replace BK241 := Aside0.mk (blk_drew BK241.out); replace BK242 := Aside0.mk (blk_drew BK242.out); replace BK243 := Aside0.mk (blk_drew BK243.out); replace HB := Aside0.mk (below_drew1 HB.out)
       refine start_ (n := 51) (S := fun w' => ce w' gb242 0 (.slice A1_0 l1_0.length c1_0) ∧ ce w' gb242 1 (.slice A1_1 l1_1.length c1_1) ∧ ce w' gb242 2 (.slice A1_2 l1_2.length c1_2) ∧ ce w' gb242 3 (.int .i64 a1_3) ∧ ce w' gb242 4 (.int .i64 a1_4)) (ds := []) (mk 51 0) kr_ rfl rfl ⟨xc BK242 0, xc BK242 1, xc BK242 2, xc BK242 3, xc BK242 4⟩ (fun hHeld => ?_); refine with_tabW pattern_Cut.tab4 pattern_Cut.bits4 (fun HT_ HW_ => ?_)
       generalize w17.drew = w25 at BK241 BK242 BK243 HB hHeld ⊢; refine pu_ 0 22 HT_ ?_; refine pu_ 1 23 HT_ ?_; refine pu_ 2 24 HT_ ?_; refine pu_ 3 25 HT_ ?_; refine pu_ 4 26 HT_ ?_; refine tk_ 5 27 HT_ HW_ hHeld ?_; refine pu_ 6 28 HT_ ?_; refine pu_ 7 29 HT_ ?_; refine pu_ 8 30 HT_ ?_; refine pu_ 9 31 HT_ ?_; refine pu_ 10 32 HT_ ?_; refine pu_ 11 33 HT_ ?_; refine pu_ 12 34 HT_ ?_; refine pu_ 13 35 HT_ ?_; refine pu_ 14 36 HT_ ?_; refine pu_ 15 37 HT_ ?_; refine pu_ 16 38 HT_ ?_; refine pu_ 17 39 HT_ ?_; refine pn_ 18 40 HT_ ?_; refine pn_ 19 41 HT_ ?_; refine pn_ 20 42 HT_ ?_; refine pn_ 21 43 HT_ ?_; refine pu_ 22 44 HT_ ?_; refine pu_ 23 45 HT_ ?_; refine pn_ 24 46 HT_ ?_; refine pn_ 25 47 HT_ ?_; refine pn_ 26 48 HT_ ?_; refine pn_ 27 49 HT_ ?_; refine pu_ 28 50 HT_ ?_; refine pu_ 29 51 HT_ ?_; refine pn_ 30 52 HT_ ?_; refine pn_ 31 53 HT_ ?_; refine pn_ 32 54 HT_ ?_; refine pn_ 33 55 HT_ ?_; refine pn_ 34 56 HT_ ?_; refine pn_ 35 57 HT_ ?_; refine pn_ 36 58 HT_ ?_; refine pn_ 37 59 HT_ ?_; refine pn_ 38 60 HT_ ?_; refine pu_ 39 61 HT_ ?_; refine pu_ 40 62 HT_ ?_; refine pn_ 41 63 HT_ ?_; refine pn_ 42 64 HT_ ?_; refine pn_ 43 65 HT_ ?_; refine pn_ 44 66 HT_ ?_; refine pn_ 45 67 HT_ ?_; refine pn_ 46 68 HT_ ?_; refine pn_ 47 69 HT_ ?_; refine pn_ 48 70 HT_ ?_; refine pn_ 49 71 HT_ ?_; refine pu_ 50 72 HT_ ?_
       refine done_ (done_of HT_.out kr_) ?_
       try go_wp2
       go_meet
       case rel => exact ⟨_, (true), (xrf), H', ⟨by first | omega | exact Nat.le_refl _⟩, ⟨xK BK241⟩, ⟨xK BK242⟩, ⟨xK BK243⟩, ⟨xW HB⟩⟩
      ·refine box_ ?g6;letI i:type_of% ?g6:=⟨by
       rw [if_neg c24] at H
       have c24b0 : decide (a4 < 1) = false := decide_eq_false c24
       clear c24
       by_cases c26 : a3 > a0_1
       ·rw [if_pos c26] at H
        have c26b0 : decide (a0_1 < a3) = true := decide_eq_true c26
        clear c26
        have H' := Aside0.mk H
        clear H
        try go_wp2
        replace BK241 := Aside0.mk (blk_drew BK241.out); replace BK242 := Aside0.mk (blk_drew BK242.out); replace BK243 := Aside0.mk (blk_drew BK243.out); replace HB := Aside0.mk (below_drew1 HB.out)
        refine start_ (n := 51) (S := fun w' => ce w' gb242 0 (.slice A1_0 l1_0.length c1_0) ∧ ce w' gb242 1 (.slice A1_1 l1_1.length c1_1) ∧ ce w' gb242 2 (.slice A1_2 l1_2.length c1_2) ∧ ce w' gb242 3 (.int .i64 a1_3) ∧ ce w' gb242 4 (.int .i64 a1_4) ∧ ce w' gb241 0 (.string a0_0) ∧ ce w' gb241 1 (.int .i64 a0_1) ∧ ce w' gb241 2 (.int .i64 a0_2) ∧ ce w' gb241 3 (.slice A0_3 l0_3.length c0_3) ∧ ce w' gb241 4 (.slice A0_4 l0_4.length c0_4) ∧ ce w' gb241 5 (.bool a0_5) ∧ ce w' gb241 6 (.bool a0_6) ∧ ce w' gb241 7 (.slice A0_7 l0_7.length c0_7) ∧ ce w' gb241 8 (.int .i64 a0_8) ∧ ce w' gb241 9 (.int .i64 a0_9) ∧ ce w' gb241 10 (.int .i64 a0_10)) (ds := []) (mk 51 0) kr_ rfl rfl ⟨xc BK242 0, xc BK242 1, xc BK242 2, xc BK242 3, xc BK242 4, xc BK241 0, xc BK241 1, xc BK241 2, xc BK241 3, xc BK241 4, xc BK241 5, xc BK241 6, xc BK241 7, xc BK241 8, xc BK241 9, xc BK241 10⟩ (fun hHeld => ?_); refine with_tabW pattern_Cut.tab4 pattern_Cut.bits4 (fun HT_ HW_ => ?_)
        generalize w17.drew = w27 at BK241 BK242 BK243 HB hHeld ⊢; refine pu_ 0 22 HT_ ?_; refine pu_ 1 23 HT_ ?_; refine pu_ 2 24 HT_ ?_; refine pu_ 3 25 HT_ ?_; refine pu_ 4 26 HT_ ?_; refine tk_ 5 27 HT_ HW_ hHeld ?_; refine pu_ 6 28 HT_ ?_; refine pu_ 7 29 HT_ ?_; refine pu_ 8 30 HT_ ?_; refine pu_ 9 31 HT_ ?_; refine pu_ 10 32 HT_ ?_; refine pu_ 11 33 HT_ ?_; refine pu_ 12 34 HT_ ?_; refine pu_ 13 35 HT_ ?_; refine pu_ 14 36 HT_ ?_; refine pu_ 15 37 HT_ ?_; refine pu_ 16 38 HT_ ?_; refine pu_ 17 39 HT_ ?_; refine pu_ 18 40 HT_ ?_; refine pu_ 19 41 HT_ ?_; refine tk_ 20 42 HT_ HW_ hHeld ?_; refine pu_ 21 43 HT_ ?_; refine pu_ 22 44 HT_ ?_; refine pu_ 23 45 HT_ ?_; refine pn_ 24 46 HT_ ?_; refine pn_ 25 47 HT_ ?_; refine pn_ 26 48 HT_ ?_; refine pn_ 27 49 HT_ ?_; refine pu_ 28 50 HT_ ?_; refine pu_ 29 51 HT_ ?_; refine pn_ 30 52 HT_ ?_; refine pn_ 31 53 HT_ ?_; refine pn_ 32 54 HT_ ?_; refine pn_ 33 55 HT_ ?_; refine pn_ 34 56 HT_ ?_; refine pn_ 35 57 HT_ ?_; refine pn_ 36 58 HT_ ?_; refine pn_ 37 59 HT_ ?_; refine pn_ 38 60 HT_ ?_; refine pu_ 39 61 HT_ ?_; refine pu_ 40 62 HT_ ?_; refine pn_ 41 63 HT_ ?_; refine pn_ 42 64 HT_ ?_; refine pn_ 43 65 HT_ ?_; refine pn_ 44 66 HT_ ?_; refine pn_ 45 67 HT_ ?_; refine pn_ 46 68 HT_ ?_; refine pn_ 47 69 HT_ ?_; refine pn_ 48 70 HT_ ?_; refine pn_ 49 71 HT_ ?_; refine pu_ 50 72 HT_ ?_
        refine done_ (done_of HT_.out kr_) ?_
        try go_wp2
        go_meet
        case rel => exact ⟨_, (true), (xrf), H', ⟨by first | omega | exact Nat.le_refl _⟩, ⟨xK BK241⟩, ⟨xK BK242⟩, ⟨xK BK243⟩, ⟨xW HB⟩⟩
       ·refine box_ ?g7;letI i:type_of% ?g7:=⟨by
        rw [if_neg c26] at H
        have c26b0 : decide (a0_1 < a3) = false := decide_eq_false c26
        clear c26
        by_cases c28 : a4 > a0_2
        ·rw [if_pos c28] at H
         have c28b0 : decide (a0_2 < a4) = true := decide_eq_true c28
         clear c28
         have H' := Aside0.mk H
         clear H
         try go_wp2
         replace BK241 := Aside0.mk (blk_drew BK241.out); replace BK242 := Aside0.mk (blk_drew BK242.out); replace BK243 := Aside0.mk (blk_drew BK243.out); replace HB := Aside0.mk (below_drew1 HB.out)
         refine start_ (n := 51) (S := fun w' => ce w' gb242 0 (.slice A1_0 l1_0.length c1_0) ∧ ce w' gb242 1 (.slice A1_1 l1_1.length c1_1) ∧ ce w' gb242 2 (.slice A1_2 l1_2.length c1_2) ∧ ce w' gb242 3 (.int .i64 a1_3) ∧ ce w' gb242 4 (.int .i64 a1_4) ∧ ce w' gb241 0 (.string a0_0) ∧ ce w' gb241 1 (.int .i64 a0_1) ∧ ce w' gb241 2 (.int .i64 a0_2) ∧ ce w' gb241 3 (.slice A0_3 l0_3.length c0_3) ∧ ce w' gb241 4 (.slice A0_4 l0_4.length c0_4) ∧ ce w' gb241 5 (.bool a0_5) ∧ ce w' gb241 6 (.bool a0_6) ∧ ce w' gb241 7 (.slice A0_7 l0_7.length c0_7) ∧ ce w' gb241 8 (.int .i64 a0_8) ∧ ce w' gb241 9 (.int .i64 a0_9) ∧ ce w' gb241 10 (.int .i64 a0_10)) (ds := []) (mk 51 0) kr_ rfl rfl ⟨xc BK242 0, xc BK242 1, xc BK242 2, xc BK242 3, xc BK242 4, xc BK241 0, xc BK241 1, xc BK241 2, xc BK241 3, xc BK241 4, xc BK241 5, xc BK241 6, xc BK241 7, xc BK241 8, xc BK241 9, xc BK241 10⟩ (fun hHeld => ?_); refine with_tabW pattern_Cut.tab4 pattern_Cut.bits4 (fun HT_ HW_ => ?_)
         generalize w17.drew = w29 at BK241 BK242 BK243 HB hHeld ⊢; refine pu_ 0 22 HT_ ?_; refine pu_ 1 23 HT_ ?_; refine pu_ 2 24 HT_ ?_; refine pu_ 3 25 HT_ ?_; refine pu_ 4 26 HT_ ?_; refine tk_ 5 27 HT_ HW_ hHeld ?_; refine pu_ 6 28 HT_ ?_; refine pu_ 7 29 HT_ ?_; refine pu_ 8 30 HT_ ?_; refine pu_ 9 31 HT_ ?_; refine pu_ 10 32 HT_ ?_; refine pu_ 11 33 HT_ ?_; refine pu_ 12 34 HT_ ?_; refine pu_ 13 35 HT_ ?_; refine pu_ 14 36 HT_ ?_; refine pu_ 15 37 HT_ ?_; refine pu_ 16 38 HT_ ?_; refine pu_ 17 39 HT_ ?_; refine pu_ 18 40 HT_ ?_; refine pu_ 19 41 HT_ ?_; refine tk_ 20 42 HT_ HW_ hHeld ?_; refine pu_ 21 43 HT_ ?_; refine pu_ 22 44 HT_ ?_; refine pu_ 23 45 HT_ ?_; refine pu_ 24 46 HT_ ?_; refine pu_ 25 47 HT_ ?_; refine tk_ 26 48 HT_ HW_ hHeld ?_; refine pu_ 27 49 HT_ ?_; refine pu_ 28 50 HT_ ?_; refine pu_ 29 51 HT_ ?_; refine pn_ 30 52 HT_ ?_; refine pn_ 31 53 HT_ ?_; refine pn_ 32 54 HT_ ?_; refine pn_ 33 55 HT_ ?_; refine pn_ 34 56 HT_ ?_; refine pn_ 35 57 HT_ ?_; refine pn_ 36 58 HT_ ?_; refine pn_ 37 59 HT_ ?_; refine pn_ 38 60 HT_ ?_; refine pu_ 39 61 HT_ ?_; refine pu_ 40 62 HT_ ?_; refine pn_ 41 63 HT_ ?_; refine pn_ 42 64 HT_ ?_; refine pn_ 43 65 HT_ ?_; refine pn_ 44 66 HT_ ?_; refine pn_ 45 67 HT_ ?_; refine pn_ 46 68 HT_ ?_; refine pn_ 47 69 HT_ ?_; refine pn_ 48 70 HT_ ?_; refine pn_ 49 71 HT_ ?_; refine pu_ 50 72 HT_ ?_
         refine done_ (done_of HT_.out kr_) ?_
         try go_wp2
         go_meet
         case rel => exact ⟨_, (true), (xrf), H', ⟨by first | omega | exact Nat.le_refl _⟩, ⟨xK BK241⟩, ⟨xK BK242⟩, ⟨xK BK243⟩, ⟨xW HB⟩⟩
        ·refine box_ ?g8;letI i:type_of% ?g8:=⟨by
         rw [if_neg c28] at H
         have c28b0 : decide (a0_2 < a4) = false := decide_eq_false c28
         clear c28
         by_cases c30 : a0_1 = 0
         ·rw [if_pos c30] at H
          exact absurd H (by simp)
         ·refine box_ ?g9;letI i:type_of% ?g9:=⟨by
          rw [if_neg c30] at H
          have c30b0 : (a0_1 == 0) = false := beq_eq_false_iff_ne.mpr c30
          have c30b1 : (a0_1 != 0) = true := bne_iff_ne.mpr c30
          by_cases c31 : (wrap64 ((Int.tmod a2 a0_1) + a3)) > a0_1
          ·rw [if_pos c31] at H
           have c31b0 : decide (a0_1 < (wrap64 ((Int.tmod a2 a0_1) + a3))) = true := decide_eq_true c31
           clear c31
           have H' := Aside0.mk H
           clear H
           try go_wp2
           replace BK241 := Aside0.mk (blk_drew BK241.out); replace BK242 := Aside0.mk (blk_drew BK242.out); replace BK243 := Aside0.mk (blk_drew BK243.out); replace HB := Aside0.mk (below_drew1 HB.out)
           refine start_ (n := 51) (S := fun w' => ce w' gb242 0 (.slice A1_0 l1_0.length c1_0) ∧ ce w' gb242 1 (.slice A1_1 l1_1.length c1_1) ∧ ce w' gb242 2 (.slice A1_2 l1_2.length c1_2) ∧ ce w' gb242 3 (.int .i64 a1_3) ∧ ce w' gb242 4 (.int .i64 a1_4) ∧ ce w' gb241 0 (.string a0_0) ∧ ce w' gb241 1 (.int .i64 a0_1) ∧ ce w' gb241 2 (.int .i64 a0_2) ∧ ce w' gb241 3 (.slice A0_3 l0_3.length c0_3) ∧ ce w' gb241 4 (.slice A0_4 l0_4.length c0_4) ∧ ce w' gb241 5 (.bool a0_5) ∧ ce w' gb241 6 (.bool a0_6) ∧ ce w' gb241 7 (.slice A0_7 l0_7.length c0_7) ∧ ce w' gb241 8 (.int .i64 a0_8) ∧ ce w' gb241 9 (.int .i64 a0_9) ∧ ce w' gb241 10 (.int .i64 a0_10)) (ds := []) (mk 51 0) kr_ rfl rfl ⟨xc BK242 0, xc BK242 1, xc BK242 2, xc BK242 3, xc BK242 4, xc BK241 0, xc BK241 1, xc BK241 2, xc BK241 3, xc BK241 4, xc BK241 5, xc BK241 6, xc BK241 7, xc BK241 8, xc BK241 9, xc BK241 10⟩ (fun hHeld => ?_); refine with_tabW pattern_Cut.tab4 pattern_Cut.bits4 (fun HT_ HW_ => ?_)
           generalize w17.drew = w32 at BK241 BK242 BK243 HB hHeld ⊢; refine pu_ 0 22 HT_ ?_; refine pu_ 1 23 HT_ ?_; refine pu_ 2 24 HT_ ?_; refine pu_ 3 25 HT_ ?_; refine pu_ 4 26 HT_ ?_; refine tk_ 5 27 HT_ HW_ hHeld ?_; refine pu_ 6 28 HT_ ?_; refine pu_ 7 29 HT_ ?_; refine pu_ 8 30 HT_ ?_; refine pu_ 9 31 HT_ ?_; refine pu_ 10 32 HT_ ?_; refine pu_ 11 33 HT_ ?_; refine pu_ 12 34 HT_ ?_; refine pu_ 13 35 HT_ ?_; refine pu_ 14 36 HT_ ?_; refine pu_ 15 37 HT_ ?_; refine pu_ 16 38 HT_ ?_; refine pu_ 17 39 HT_ ?_; refine pu_ 18 40 HT_ ?_; refine pu_ 19 41 HT_ ?_; refine tk_ 20 42 HT_ HW_ hHeld ?_; refine pu_ 21 43 HT_ ?_; refine pu_ 22 44 HT_ ?_; refine pu_ 23 45 HT_ ?_; refine pu_ 24 46 HT_ ?_; refine pu_ 25 47 HT_ ?_; refine tk_ 26 48 HT_ HW_ hHeld ?_; refine pu_ 27 49 HT_ ?_; refine pu_ 28 50 HT_ ?_; refine pu_ 29 51 HT_ ?_; refine pu_ 30 52 HT_ ?_; refine pu_ 31 53 HT_ ?_; refine pu_ 34 56 HT_ ?_; refine pu_ 36 58 HT_ ?_; refine tk_ 32 54 HT_ HW_ hHeld ?_; refine pu_ 33 55 HT_ ?_; refine pu_ 35 57 HT_ ?_; refine tk_ 37 59 HT_ HW_ hHeld ?_; refine pu_ 38 60 HT_ ?_; refine pu_ 39 61 HT_ ?_; refine pu_ 40 62 HT_ ?_; refine pn_ 41 63 HT_ ?_; refine pn_ 42 64 HT_ ?_; refine pn_ 43 65 HT_ ?_; refine pn_ 44 66 HT_ ?_; refine pn_ 45 67 HT_ ?_; refine pn_ 46 68 HT_ ?_; refine pn_ 47 69 HT_ ?_; refine pn_ 48 70 HT_ ?_; refine pn_ 49 71 HT_ ?_; refine pu_ 50 72 HT_ ?_
           refine done_ (done_of HT_.out kr_) ?_
           try go_wp2
           go_meet
           case rel => exact ⟨_, (true), (xrf), H', ⟨by first | omega | exact Nat.le_refl _⟩, ⟨xK BK241⟩, ⟨xK BK242⟩, ⟨xK BK243⟩, ⟨xW HB⟩⟩
          ·rw [if_neg c31] at H
           have c31b0 : decide (a0_1 < (wrap64 ((Int.tmod a2 a0_1) + a3))) = false := decide_eq_false c31
           clear c31
           have H' := Aside0.mk H
           clear H
           try go_wp2
           replace BK241 := Aside0.mk (blk_drew BK241.out); replace BK242 := Aside0.mk (blk_drew BK242.out); replace BK243 := Aside0.mk (blk_drew BK243.out); replace HB := Aside0.mk (below_drew1 HB.out)
           refine start_ (n := 51) (S := fun w' => ce w' gb242 0 (.slice A1_0 l1_0.length c1_0) ∧ ce w' gb242 1 (.slice A1_1 l1_1.length c1_1) ∧ ce w' gb242 2 (.slice A1_2 l1_2.length c1_2) ∧ ce w' gb242 3 (.int .i64 a1_3) ∧ ce w' gb242 4 (.int .i64 a1_4) ∧ ce w' gb241 0 (.string a0_0) ∧ ce w' gb241 1 (.int .i64 a0_1) ∧ ce w' gb241 2 (.int .i64 a0_2) ∧ ce w' gb241 3 (.slice A0_3 l0_3.length c0_3) ∧ ce w' gb241 4 (.slice A0_4 l0_4.length c0_4) ∧ ce w' gb241 5 (.bool a0_5) ∧ ce w' gb241 6 (.bool a0_6) ∧ ce w' gb241 7 (.slice A0_7 l0_7.length c0_7) ∧ ce w' gb241 8 (.int .i64 a0_8) ∧ ce w' gb241 9 (.int .i64 a0_9) ∧ ce w' gb241 10 (.int .i64 a0_10)) (ds := []) (mk 51 0) kr_ rfl rfl ⟨xc BK242 0, xc BK242 1, xc BK242 2, xc BK242 3, xc BK242 4, xc BK241 0, xc BK241 1, xc BK241 2, xc BK241 3, xc BK241 4, xc BK241 5, xc BK241 6, xc BK241 7, xc BK241 8, xc BK241 9, xc BK241 10⟩ (fun hHeld => ?_); refine with_tabW pattern_Cut.tab4 pattern_Cut.bits4 (fun HT_ HW_ => ?_)
           generalize w17.drew = w33 at BK241 BK242 BK243 HB hHeld ⊢; refine pu_ 0 22 HT_ ?_; refine pu_ 1 23 HT_ ?_; refine pu_ 2 24 HT_ ?_; refine pu_ 3 25 HT_ ?_; refine pu_ 4 26 HT_ ?_; refine tk_ 5 27 HT_ HW_ hHeld ?_; refine pu_ 6 28 HT_ ?_; refine pu_ 7 29 HT_ ?_; refine pu_ 8 30 HT_ ?_; refine pu_ 9 31 HT_ ?_; refine pu_ 10 32 HT_ ?_; refine pu_ 11 33 HT_ ?_; refine pu_ 12 34 HT_ ?_; refine pu_ 13 35 HT_ ?_; refine pu_ 14 36 HT_ ?_; refine pu_ 15 37 HT_ ?_; refine pu_ 16 38 HT_ ?_; refine pu_ 17 39 HT_ ?_; refine pu_ 18 40 HT_ ?_; refine pu_ 19 41 HT_ ?_; refine tk_ 20 42 HT_ HW_ hHeld ?_; refine pu_ 21 43 HT_ ?_; refine pu_ 22 44 HT_ ?_; refine pu_ 23 45 HT_ ?_; refine pu_ 24 46 HT_ ?_; refine pu_ 25 47 HT_ ?_; refine tk_ 26 48 HT_ HW_ hHeld ?_; refine pu_ 27 49 HT_ ?_; refine pu_ 28 50 HT_ ?_; refine pu_ 29 51 HT_ ?_; refine pu_ 30 52 HT_ ?_; refine pu_ 31 53 HT_ ?_; refine pu_ 34 56 HT_ ?_; refine pu_ 36 58 HT_ ?_; refine tk_ 32 54 HT_ HW_ hHeld ?_; refine pu_ 33 55 HT_ ?_; refine pu_ 35 57 HT_ ?_; refine tk_ 37 59 HT_ HW_ hHeld ?_; refine pu_ 38 60 HT_ ?_; refine pu_ 39 61 HT_ ?_; refine pu_ 40 62 HT_ ?_; refine pu_ 41 63 HT_ ?_; refine pu_ 42 64 HT_ ?_; refine pu_ 45 67 HT_ ?_; refine pu_ 47 69 HT_ ?_; refine tk_ 43 65 HT_ HW_ hHeld ?_; refine pu_ 44 66 HT_ ?_; refine pu_ 46 68 HT_ ?_; refine tk_ 48 70 HT_ HW_ hHeld ?_; refine pu_ 49 71 HT_ ?_; refine pu_ 50 72 HT_ ?_
           refine done_ (done_of HT_.out kr_) ?_
           try go_wp2
           go_meet
           case rel => exact ⟨_, (decide ((wrap64 ((wrap64 (Int.tdiv a2 a0_1)) + a4)) > a0_2)), (xrf), H', ⟨by first | omega | exact Nat.le_refl _⟩, ⟨xK BK241⟩, ⟨xK BK242⟩, ⟨xK BK243⟩, ⟨xW HB⟩⟩⟩
          exact inferInstanceAs _⟩
         exact inferInstanceAs _⟩
        exact inferInstanceAs _⟩
       exact inferInstanceAs _⟩
      exact inferInstanceAs _⟩
     exact inferInstanceAs _⟩
    exact inferInstanceAs _⟩
   exact inferInstanceAs _
  case rest =>
   refine box_ ?g10;letI i:type_of% ?g10:=⟨by
   clear HC8; (try clear p2); (try clear p6)
   obtain ⟨kq, x72_7, rfl, HA, HJ7, BK241, BK242, BK243, HB⟩ := hcut
   cases kq with
   | zero => exact absurd HA.out (by simp [pattern_Cut.j0])
   | succ kj7 =>
    have H := HA.out; clear HA
    simp only [pattern_Cut.j0] at H
    by_cases c34 : x72_7 = true
    ·subst c34
     rw [if_pos rfl] at H
     simp only [Option.some.injEq, Prod.mk.injEq] at H
     obtain ⟨rfl, rfl, rfl, rfl, rfl⟩ := H
     have hcz37_0 := blkc4 BK243.out
     go_wp2
     refine bodyPost_ret (results_ct rfl _ _ gb243 49 #[.int .i64 0, .int .i64 0, .slice none 0 0, .int .i64 0] (0, 0) _ rfl (xQ BK243) Try.underlying49 rfl kr_) rfl ?_
     exact ⟨_, xer, by first | exact Kd.R_nil _ _ _ _ _ | exact Kd.N_nil _ _ _ _ _ | exact Kd.V_nil _ _ _ _ _ | exact Kd.Q_nil _ _ _ _ _ | exact Kd.S_nil _ _ _ _ _, xW HB⟩
    ·replace c34 := Bool.eq_false_iff.mpr c34
     subst c34
     rw [if_neg (show ¬ (false = true) by decide)] at H
     have H' := Aside0.mk H
     clear H; have hcz40_0 := blkc5 BK242.out
     go_wp2_with (first | ((with_reducible refine gate_dst (N := 13) rfl ?_); (try (refine gate_guard (by rfl) ?_; dsimp only)); refine box_event ?hg (N := 13) ?hd (cs := #[.int .i64 0, .int .i64 0, .slice none 0 0, .int .i64 0]) (t := 49) ?hr ?_; (case hd => rfl); (case hg => rfl); (case hr => first | (go_simp; done) | (go_simp; rfl)); intro gb245 hg w41 hbox hb; have BK245 := Aside0.mk (hbox); have GW245 := Aside0.mk (xZ HB hg); have GE245 := Aside0.mk (xZ HB hg); have NB241_245 := Aside0.mk (xN BK241 hg); have NB245_241 := Aside0.mk (xM BK241 hg); have NB242_245 := Aside0.mk (xN BK242 hg); have NB245_242 := Aside0.mk (xM BK242 hg); have NB243_245 := Aside0.mk (xN BK243 hg); have NB245_243 := Aside0.mk (xM BK243 hg); replace BK241 := Aside0.mk (xB BK241 hb); replace BK242 := Aside0.mk (xB BK242 hb); replace BK243 := Aside0.mk (xB BK243 hb); replace HB := Aside0.mk (xS HB hb); clear hb hbox hg; have hnb42 := xne7 NB245_241; have hnc42 := xne7 NB241_245; have hnb43 := xne7 NB245_242; have hnc43 := xne7 NB242_245; have hnb44 := xne7 NB245_243; have hnc44 := xne7 NB243_245; have hcz45_0 := blkc4 BK245.out))
     (try have hq241_245 := xne7 NB241_245); (try have hq242_245 := xne7 NB242_245); (try have hq243_245 := xne7 NB243_245); (try have hq245_241 := xne7 NB245_241); (try have hq245_242 := xne7 NB245_242); (try have hq245_243 := xne7 NB245_243)
     go_loopg [82] kj7 (fun kq vs82 w' => ∃ (x82_2 : Int) (z246c2 : List Int) (u246002 : Value), vs82 = .int .i64 x82_2 ∧ Aside0 (pattern_Cut.l0 kq a2 a3 (wrap64 (a3 * a4)) x82_2 a0_0 a0_1 a0_2 l0_3 l0_4 a0_5 a0_6 l0_7 a0_8 a0_9 a0_10 l1_0 l1_1 l1_2 a1_3 a1_4 a3 a4 z246c2 a1_3 = some (r1, r2, r3, r4, r5)) ∧ Aside0 (kq ≤ kj7) ∧ Aside0 (Kd.R (Kd.int .i64) 3 w' w.heap.size (fun _ => True) u246002 z246c2) ∧ Aside0 (w'.heap[gb241]? = some (.cells #[.string a0_0, .int .i64 a0_1, .int .i64 a0_2, (.slice A0_3 l0_3.length c0_3), (.slice A0_4 l0_4.length c0_4), .bool a0_5, .bool a0_6, (.slice A0_7 l0_7.length c0_7), .int .i64 a0_8, .int .i64 a0_9, .int .i64 a0_10] 44 (0, 0))) ∧ Aside0 (w'.heap[gb242]? = some (.cells #[(.slice A1_0 l1_0.length c1_0), (.slice A1_1 l1_1.length c1_1), (.slice A1_2 l1_2.length c1_2), .int .i64 a1_3, .int .i64 a1_4] 47 (0, 0))) ∧ Aside0 (w'.heap[gb243]? = some (.cells #[.int .i64 0, .int .i64 0, (.slice none 0 0), .int .i64 0] 49 (0, 0))) ∧ Aside0 (w'.heap[gb245]? = some (.cells #[.int .i64 a3, .int .i64 a4, u246002, .int .i64 a1_3] 49 (0, 0))) ∧ Aside0 (Below w.heap.size w w'))
     case atStart => exact ⟨(0), (([] : List Int)), (.slice none 0 0), (xrf), H', ⟨Nat.le_refl _⟩, ⟨by first | exact Kd.R_nil _ _ _ _ _ | exact Kd.N_nil _ _ _ _ _ | exact Kd.V_nil _ _ _ _ _ | exact Kd.Q_nil _ _ _ _ _ | exact Kd.S_nil _ _ _ _ _⟩, ⟨xK BK241⟩, ⟨xK BK242⟩, ⟨xK BK243⟩, ⟨xQ BK245⟩, ⟨xW HB⟩⟩
     case round =>
      clear H'; (try clear p2); (try clear p6); (try clear p2); (try clear p6)
      obtain ⟨x82_2, z246c2, u246002, rfl, HA, HK2, HO_246002, BK241, BK242, BK243, BK245, HB⟩ := hrel
      cases gk with
      | zero => exact absurd HA.out (by simp [pattern_Cut.l0])
      | succ k2 =>
       have H := HA.out; clear HA
       simp only [pattern_Cut.l0] at H
       by_cases c46 : x82_2 < (wrap64 (a3 * a4))
       ·refine box_ ?g11;letI i:type_of% ?g11:=⟨by
        rw [if_pos c46] at H
        have c46b0 : decide (x82_2 < (wrap64 (a3 * a4))) = true := decide_eq_true c46
        clear c46
        by_cases c47 : a3 = 0
        ·rw [if_pos c47] at H
         exact absurd H (by simp)
        ·refine box_ ?g12;letI i:type_of% ?g12:=⟨by
         rw [if_neg c47] at H
         have c47b0 : (a3 == 0) = false := beq_eq_false_iff_ne.mpr c47
         have c47b1 : (a3 != 0) = true := bne_iff_ne.mpr c47
         obtain ⟨ji48, hji48⟩ : ∃ j_ : Int, (wrap64 ((wrap64 (a2 + (wrap64 ((wrap64 (Int.tdiv x82_2 a3)) * a0_1)))) + (Int.tmod x82_2 a3))) = j_ := ⟨_, rfl⟩
         (first | rw [hji48] at H | simp only [hji48] at H)
         have hji48w : (IntKind.i64.wrap ((wrap64 (a2 + (wrap64 ((wrap64 (Int.tdiv x82_2 a3)) * a0_1)))) + (Int.tmod x82_2 a3))) = ji48 := (i64_w _).trans hji48
         by_cases c49 : 0 ≤ (ji48)
         ·refine box_ ?g13;letI i:type_of% ?g13:=⟨by
          rw [if_pos c49] at H
          have c49b0 : decide (0 ≤ (ji48)) = true := decide_eq_true c49
          clear c49
          by_cases c50 : (ji48) < (l1_0.length : Int)
          ·refine box_ ?g14;letI i:type_of% ?g14:=⟨by
           rw [if_pos c50] at H
           have c50b0 : decide ((ji48) < (l1_0.length : Int)) = true := decide_eq_true c50
           clear c50
           by_cases c51 : z246c2.length < 17592186044416
           ·refine box_ ?g15;letI i:type_of% ?g15:=⟨by
            rw [if_pos c51] at H
            have LMc51 := Aside0.mk c51; clear c51
            obtain ⟨y247, hy247⟩ : ∃ y_ : List Int, y_ = (z246c2 ++ [rd l1_0 (ji48)]) := ⟨_, rfl⟩
            replace H : (pattern_Cut.l0 k2 a2 a3 (wrap64 (a3 * a4)) (wrap64 (x82_2 + 1)) a0_0 a0_1 a0_2 l0_3 l0_4 a0_5 a0_6 l0_7 a0_8 a0_9 a0_10 l1_0 l1_1 l1_2 a1_3 a1_4 a3 a4 y247 a1_3) = some (r1, r2, r3, r4, r5) := by first | (rw [hy247]; with_reducible exact H) | (have H2_ := (Option.bind_some _ _).symm.trans H; rw [hy247]; with_reducible exact H2_) | (have H2_ := (Option.bind_some _ _).symm.trans H; with_reducible exact H2_) | with_reducible exact H | (rw [hy247]; exact H) | exact H
            have Ny247 := Aside0.mk hy247; clear hy247
            have H' := Aside0.mk H
            clear H
            try go_wp2
            replace HO_246002 := Aside0.mk (Kd.R_drew HO_246002.out); replace BK241 := Aside0.mk (blk_drew BK241.out); replace BK242 := Aside0.mk (blk_drew BK242.out); replace BK243 := Aside0.mk (blk_drew BK243.out); replace BK245 := Aside0.mk (blk_drew BK245.out); replace HB := Aside0.mk (below_drew1 HB.out)
            have p246 : 0 ≤ ((ji48) : Int) := of_decide_eq_true (by first | (with_reducible assumption) | assumption)
            have q246 : (ji48) < (l1_0.length : Int) := of_decide_eq_true (by first | (with_reducible assumption) | assumption)
            obtain ⟨ad246, e246, hx246_0⟩ := Kd.at_int HR1_0.out (ji48) p246 q246
            have hw246_0 := hx246_0
            cases e246
            replace hx246_0 := (HB.out.cell (World.block_lt_of_cell? w _ hx246_0)).trans hx246_0; replace p246 := eq_true p246; replace q246 := eq_true q246
            refine start_ (n := 22) (S := fun w' => ce w' gb245 0 (.int .i64 a3) ∧ ce w' gb245 1 (.int .i64 a4) ∧ ce w' gb245 2 (u246002) ∧ ce w' gb245 3 (.int .i64 a1_3) ∧ ce w' gb242 0 (.slice (some ad246) l1_0.length c1_0) ∧ ce w' gb242 1 (.slice A1_1 l1_1.length c1_1) ∧ ce w' gb242 2 (.slice A1_2 l1_2.length c1_2) ∧ ce w' gb242 3 (.int .i64 a1_3) ∧ ce w' gb242 4 (.int .i64 a1_4) ∧ ce w' gb241 0 (.string a0_0) ∧ ce w' gb241 1 (.int .i64 a0_1) ∧ ce w' gb241 2 (.int .i64 a0_2) ∧ ce w' gb241 3 (.slice A0_3 l0_3.length c0_3) ∧ ce w' gb241 4 (.slice A0_4 l0_4.length c0_4) ∧ ce w' gb241 5 (.bool a0_5) ∧ ce w' gb241 6 (.bool a0_6) ∧ ce w' gb241 7 (.slice A0_7 l0_7.length c0_7) ∧ ce w' gb241 8 (.int .i64 a0_8) ∧ ce w' gb241 9 (.int .i64 a0_9) ∧ ce w' gb241 10 (.int .i64 a0_10) ∧ w'.cell? (ad246.add ((ji48)).toNat) = some (.int .i64 (rd l1_0 (ji48)))) (ds := [21]) (mk 22 0) kr_ rfl rfl ⟨xc BK245 0, xc BK245 1, xc BK245 2, xc BK245 3, xc BK242 0, xc BK242 1, xc BK242 2, xc BK242 3, xc BK242 4, xc BK241 0, xc BK241 1, xc BK241 2, xc BK241 3, xc BK241 4, xc BK241 5, xc BK241 6, xc BK241 7, xc BK241 8, xc BK241 9, xc BK241 10, ((HB.out.cell (World.block_lt_of_cell? w _ hw246_0)).trans hw246_0)⟩ (fun hHeld => ?_); refine with_tabW pattern_Cut.tab10 pattern_Cut.bits10 (fun HT_ HW_ => ?_)
            generalize wr.drew = w52 at HO_246002 BK241 BK242 BK243 BK245 HB hx246_0 hHeld ⊢; refine pu_ 0 85 HT_ ?_; refine pu_ 2 87 HT_ ?_; refine pu_ 4 89 HT_ ?_; refine pu_ 5 90 HT_ ?_; refine pu_ 6 91 HT_ ?_; refine pu_ 7 92 HT_ ?_; refine pu_ 8 93 HT_ ?_; refine pu_ 12 97 HT_ ?_; refine pu_ 13 98 HT_ ?_; refine pu_ 14 99 HT_ ?_; refine tk_ 1 86 HT_ HW_ hHeld ?_; refine tk_ 3 88 HT_ HW_ hHeld ?_; refine tk_ 9 94 HT_ HW_ hHeld ?_; refine pu_ 10 95 HT_ ?_; refine pu_ 11 96 HT_ ?_; refine pu_ 15 100 HT_ ?_; refine pu_ 16 101 HT_ ?_; refine tk_ 17 102 HT_ HW_ hHeld ?_
            refine one_ (i := 18) (N := some 103) #[true, true, true, true, true, true, true, true, true, true, true, true, true, true, true, true, true, true, true, false, false, false] rfl rfl (one_of HT_.out kr_) (by decide) (fun K hK => ?_)
            refine value_ (w1 := ?_) (v := ?_) (by rfl) rfl ?_ ?_
            rotate_left 2
            ·go_simp
             constructor
             ·rfl
             ·rfl
            refine hK.out _ _ ⟨(blk_cell (blk_alloc BK245.out _) 0).trans rfl, (blk_cell (blk_alloc BK245.out _) 1).trans rfl, (blk_cell (blk_alloc BK245.out _) 2).trans rfl, (blk_cell (blk_alloc BK245.out _) 3).trans rfl, (blk_cell (blk_alloc BK242.out _) 0).trans rfl, (blk_cell (blk_alloc BK242.out _) 1).trans rfl, (blk_cell (blk_alloc BK242.out _) 2).trans rfl, (blk_cell (blk_alloc BK242.out _) 3).trans rfl, (blk_cell (blk_alloc BK242.out _) 4).trans rfl, (blk_cell (blk_alloc BK241.out _) 0).trans rfl, (blk_cell (blk_alloc BK241.out _) 1).trans rfl, (blk_cell (blk_alloc BK241.out _) 2).trans rfl, (blk_cell (blk_alloc BK241.out _) 3).trans rfl, (blk_cell (blk_alloc BK241.out _) 4).trans rfl, (blk_cell (blk_alloc BK241.out _) 5).trans rfl, (blk_cell (blk_alloc BK241.out _) 6).trans rfl, (blk_cell (blk_alloc BK241.out _) 7).trans rfl, (blk_cell (blk_alloc BK241.out _) 8).trans rfl, (blk_cell (blk_alloc BK241.out _) 9).trans rfl, (blk_cell (blk_alloc BK241.out _) 10).trans rfl, (World.cell?_alloc_lt _ _ _ (World.block_lt_of_cell? _ _ (((HB.out.cell (World.block_lt_of_cell? w _ hw246_0)).trans hw246_0)))).trans (((HB.out.cell (World.block_lt_of_cell? w _ hw246_0)).trans hw246_0))⟩ (fun hHeld => ?_)
            clear hK K
            refine norm_ (a' := ?_) ?_ ?_
            rotate_left
            ·show Act.put _ (some 103) _ = _
             simp only [Act.put, List.setIfInBounds_toArray, List.set_cons_zero, List.set_cons_succ, i64_w, i32_w]
             rfl
            refine one_ (i := 19) (N := some 104) #[true, true, true, true, true, true, true, true, true, true, true, true, true, true, true, true, true, true, true, true, false, false] rfl rfl (one_of HT_.out kr_) (by decide) (fun K hK => ?_)
            refine Kd.R_append_step (Kd.int .i64) (w0 := w) w.heap.size (by rfl) (.tmp 86) (.tmp 103) 31 3 (.int .i64 0) 8 rfl Try.underlying31 info3 rfl (by decide) (by omega) u246002 z246c2 (rd l1_0 (ji48)) [.int .i64 (rd l1_0 (ji48))] (fun _ => True) (fun _ => False) rfl rfl ?aP (fun _ hk => hk.elim) ?aF ?aO ?aB ?aS ?aL ?_
            (case aP => exact rfl)
            (case aB => exact (xW HB))
            (case aF => exact (fun _ _ => trivial))
            (case aO => exact (by (with_reducible repeat (first | apply Kd.R_alloc | apply Kd.R_drewN | apply Kd.R_drew)); exact HO_246002.out))
            (case aS => exact (below_size (xW HB)))
            (case aL => have := LMc51.out; omega)
            intro v248 w53 ho hb hg hat
            rw [← Ny247.out] at ho
            have HO249 := Aside0.mk (ho)
            replace BK241 := Aside0.mk (blk_grown (g := gb241) (o := .cells #[.string a0_0, .int .i64 a0_1, .int .i64 a0_2, .slice A0_3 l0_3.length c0_3, .slice A0_4 l0_4.length c0_4, .bool a0_5, .bool a0_6, .slice A0_7 l0_7.length c0_7, .int .i64 a0_8, .int .i64 a0_9, .int .i64 a0_10] 44 (0, 0)) (xK BK241) hg (Kd.R_ne HO_246002.out BK241.out (by decide)))
            replace BK242 := Aside0.mk (blk_grown (g := gb242) (o := .cells #[.slice (some ad246) l1_0.length c1_0, .slice A1_1 l1_1.length c1_1, .slice A1_2 l1_2.length c1_2, .int .i64 a1_3, .int .i64 a1_4] 47 (0, 0)) (xK BK242) hg (Kd.R_ne HO_246002.out BK242.out (by decide)))
            replace BK243 := Aside0.mk (blk_grown (g := gb243) (o := .cells #[.int .i64 0, .int .i64 0, .slice none 0 0, .int .i64 0] 49 (0, 0)) (xK BK243) hg (Kd.R_ne HO_246002.out BK243.out (by decide)))
            replace BK245 := Aside0.mk (blk_grown (g := gb245) (o := .cells #[.int .i64 a3, .int .i64 a4, u246002, .int .i64 a1_3] 49 (0, 0)) (xK BK245) hg (Kd.R_ne HO_246002.out BK245.out (by decide)))
            replace HB := Aside0.mk (hb); clear HO_246002; clear ho hb hg hat
            obtain ⟨Ao54, co54, eo54⟩ := Kd.R_slice HO249.out
            (first | subst eo54 | (injection eo54 with f1_ f2_ f3_; have f4_ := f1_.symm; have f5_ := f3_.symm; clear f1_ f2_ f3_; subst f4_; subst f5_))
            refine hK.out _ _ ⟨(blk_cell BK245.out 0).trans rfl, (blk_cell BK245.out 1).trans rfl, (blk_cell BK245.out 2).trans rfl, (blk_cell BK245.out 3).trans rfl, (blk_cell BK242.out 0).trans rfl, (blk_cell BK242.out 1).trans rfl, (blk_cell BK242.out 2).trans rfl, (blk_cell BK242.out 3).trans rfl, (blk_cell BK242.out 4).trans rfl, (blk_cell BK241.out 0).trans rfl, (blk_cell BK241.out 1).trans rfl, (blk_cell BK241.out 2).trans rfl, (blk_cell BK241.out 3).trans rfl, (blk_cell BK241.out 4).trans rfl, (blk_cell BK241.out 5).trans rfl, (blk_cell BK241.out 6).trans rfl, (blk_cell BK241.out 7).trans rfl, (blk_cell BK241.out 8).trans rfl, (blk_cell BK241.out 9).trans rfl, (blk_cell BK241.out 10).trans rfl, ((HB.out.cell (World.block_lt_of_cell? w _ hw246_0)).trans hw246_0)⟩ (fun hHeld => ?_)
            clear hK K
            refine norm_ (a' := ?_) ?_ ?_
            rotate_left
            ·show Act.put _ (some 104) _ = _
             simp only [Act.put, List.setIfInBounds_toArray, List.set_cons_zero, List.set_cons_succ, i64_w, i32_w]
             rfl
            refine pu_ 20 105 HT_ ?_
            refine last_ (i := 21) (N := none) #[true, true, true, true, true, true, true, true, true, true, true, true, true, true, true, true, true, true, true, true, true, true] rfl rfl (one_of HT_.out kr_) (by decide) (fun K hK => ?_)
            have hs55 : w53.cell? ⟨gb245, 2, none⟩ = some (u246002) := (blk_cell BK245.out 2).trans rfl
            have hfs55 := blk_frozen BK245.out 2; have hms55_0 := NB245_241.out; have hms55_1 := NB245_242.out; have hms55_2 := NB245_243.out
            refine skip_ (w1 := ?_) (by rfl) rfl ?_ ?_
            rotate_left
            ·go_simp
             rfl
            refine hK.out _ _ ?_
            clear hK K
            refine done_ (done_of HT_.out kr_) ?_
            try go_wp2
            (first | go_roundg k2 | (simp only [← hji48]; go_roundg k2))
            case measure => have := HJ7.out; have := HK2.out; omega
            case rel => exact ⟨(wrap64 (x82_2 + 1)), (y247), (.slice Ao54 y247.length co54), (xrf), H', ⟨by have := HJ7.out; have := HK2.out; omega⟩, ⟨by (with_reducible repeat (first | apply Kd.R_alloc | apply Kd.R_drewN | apply Kd.R_drew)); exact Kd.R_mono (Kd.R_far (p := ⟨gb245, 2, none⟩) (Kd.R_types HO249.out BK245.out (by decide)) (fun _ hk => hk.2) (.slice Ao54 y247.length co54)) (fun _ hk => trivial)⟩, ⟨xK BK241⟩, ⟨xK BK242⟩, ⟨xK BK243⟩, ⟨xQ BK245⟩, ⟨xW HB⟩⟩⟩
            exact inferInstanceAs _
           ·rw [if_neg c51] at H
            exact absurd H (by simp)⟩
           exact inferInstanceAs _
          ·rw [if_neg c50] at H
           exact absurd H (by simp)⟩
          exact inferInstanceAs _
         ·rw [if_neg c49] at H
          exact absurd H (by simp)⟩
         exact inferInstanceAs _⟩
        exact inferInstanceAs _
       ·rw [if_neg c46] at H
        have c46b0 : decide (x82_2 < (wrap64 (a3 * a4))) = false := decide_eq_false c46
        clear c46
        simp only [Option.some.injEq, Prod.mk.injEq] at H
        obtain ⟨rfl, rfl, rfl, rfl, rfl⟩ := H
        have hcz59_0 := blkc4 BK245.out; have hcz62_0 := blkc4 BK243.out
        obtain ⟨Ao63, co63, eo63⟩ := Kd.R_slice HO_246002.out
        subst eo63
        go_wp2
        refine bodyPost_ret (results_ct rfl _ _ gb243 49 #[.int .i64 a3, .int .i64 a4, .slice Ao63 z246c2.length co63, .int .i64 a1_3] (0, 0) _ rfl (xQ BK243) Try.underlying49 rfl kr_) rfl ?_
        exact ⟨_, xer, by (with_reducible repeat (first | apply Kd.R_alloc | apply Kd.R_drewN | apply Kd.R_drew)); exact Kd.R_mono (Kd.R_far (p := ⟨gb243, 3, none⟩) (Kd.R_far (p := ⟨gb243, 2, none⟩) (Kd.R_far (p := ⟨gb243, 1, none⟩) (Kd.R_far (p := ⟨gb243, 0, none⟩) (Kd.R_types HO_246002.out BK243.out (by decide)) (fun _ hk => hk.2) (.int .i64 a3)) (fun _ hk => hk.2) (.int .i64 a4)) (fun _ hk => hk.2) (.slice Ao63 z246c2.length co63)) (fun _ hk => hk.2) (.int .i64 a1_3)) (fun _ hk => trivial), xW HB⟩⟩
   exact inferInstanceAs _⟩
  exact inferInstanceAs _
 ·rw [if_neg c7] at H
  have c7b0 : (t244 == 0) = false := beq_eq_false_iff_ne.mpr c7
  have c7b1 : (t244 != 0) = true := bne_iff_ne.mpr c7
  simp only [Option.some.injEq, Prod.mk.injEq] at H
  obtain ⟨rfl, rfl, rfl, rfl, rfl⟩ := H
  go_enter Try.func14, Try.ntmps14
  go_wp2_with (first | ((with_reducible refine gate_dst (N := 5) rfl ?_); (try (refine gate_guard (by rfl) ?_; dsimp only)); refine box_event ?hg (N := 5) ?hd (cs := #[.string a0_0, .int .i64 a0_1, .int .i64 a0_2, .slice A0_3 l0_3.length c0_3, .slice A0_4 l0_4.length c0_4, .bool a0_5, .bool a0_6, .slice A0_7 l0_7.length c0_7, .int .i64 a0_8, .int .i64 a0_9, .int .i64 a0_10]) (t := 44) ?hr ?_; (case hd => rfl); (case hg => rfl); (case hr => first | (go_simp; done) | (go_simp; rfl)); intro gb241 hg w64 hbox hb; have BK241 := Aside0.mk (hbox); have GW241 := Aside0.mk (xZ HB hg); have GE241 := Aside0.mk (xZ HB hg); replace HB := Aside0.mk (xS HB hb); clear hb hbox hg) | ((with_reducible refine gate_dst (N := 6) rfl ?_); (try (refine gate_guard (by rfl) ?_; dsimp only)); refine box_event ?hg (N := 6) ?hd (cs := #[.slice A1_0 l1_0.length c1_0, .slice A1_1 l1_1.length c1_1, .slice A1_2 l1_2.length c1_2, .int .i64 a1_3, .int .i64 a1_4]) (t := 47) ?hr ?_; (case hd => rfl); (case hg => rfl); (case hr => first | (go_simp; done) | (go_simp; rfl)); intro gb242 hg w65 hbox hb; have BK242 := Aside0.mk (hbox); have GW242 := Aside0.mk (xZ HB hg); have GE242 := Aside0.mk (xZ HB hg); have NB241_242 := Aside0.mk (xN BK241 hg); have NB242_241 := Aside0.mk (xM BK241 hg); replace BK241 := Aside0.mk (xB BK241 hb); replace HB := Aside0.mk (xS HB hb); clear hb hbox hg) | ((with_reducible refine gate_dst (N := 10) rfl ?_); (try (refine gate_guard (by rfl) ?_; dsimp only)); refine box_event ?hg (N := 10) ?hd (cs := #[.int .i64 0, .int .i64 0, .slice none 0 0, .int .i64 0]) (t := 49) ?hr ?_; (case hd => rfl); (case hg => rfl); (case hr => first | (go_simp; done) | (go_simp; rfl)); intro gb243 hg w66 hbox hb; have BK243 := Aside0.mk (hbox); have GW243 := Aside0.mk (xZ HB hg); have GE243 := Aside0.mk (xZ HB hg); have NB241_243 := Aside0.mk (xN BK241 hg); have NB243_241 := Aside0.mk (xM BK241 hg); have NB242_243 := Aside0.mk (xN BK242 hg); have NB243_242 := Aside0.mk (xM BK242 hg); replace BK241 := Aside0.mk (xB BK241 hb); replace BK242 := Aside0.mk (xB BK242 hb); replace HB := Aside0.mk (xS HB hb); clear hb hbox hg; have hnb67 := xne7 NB241_242; have hnc67 := xne7 NB242_241; have hnb68 := xne7 NB241_243; have hnc68 := xne7 NB243_241; have hcz69_0 := blkc11 BK241.out; have hnb70 := xne7 NB242_243; have hnc70 := xne7 NB243_242; have hcz71_0 := blkc5 BK242.out) | ((with_reducible refine gate_callee (f := 17) rfl ?_); refine goesL_ (some 17) rfl rfl Try.func17 kr_ rfl #[.agg #[.string a0_0, .int .i64 a0_1, .int .i64 a0_2, .slice A0_3 l0_3.length c0_3, .slice A0_4 l0_4.length c0_4, .bool a0_5, .bool a0_6, .slice A0_7 l0_7.length c0_7, .int .i64 a0_8, .int .i64 a0_9, .int .i64 a0_10], .agg #[.slice A1_0 l1_0.length c1_0, .slice A1_1 l1_1.length c1_1, .slice A1_2 l1_2.length c1_2, .int .i64 a1_3, .int .i64 a1_4]] rfl (by (try simp only [List.map_toArray, List.map_cons, List.map_nil]); first | done | rfl | (simp only [List.length_drop, List.length_take]; rfl)) ?_; (with_reducible refine (place_Check.calls k a0_0 a0_1 a0_2 _ _ l0_3 _ _ l0_4 a0_5 a0_6 _ _ l0_7 a0_8 a0_9 a0_10 _ _ l1_0 _ _ l1_1 _ _ l1_2 a1_3 a1_4 t244 _ ?side1 ?side2 ?side3 ?side4 ?side5 ?side6 ?side7 ?side8 ?side9 ?side10 ?side11 ?side12 A6.out).mono ?_); (case side1 => exact xC (Kd.C_below HR0_3.out HB.out)); (case side2 => exact HC0_3.out); (case side3 => exact xC (Kd.C_below HR0_4.out HB.out)); (case side4 => exact HC0_4.out); (case side5 => exact xC (Kd.C_below HR0_7.out HB.out)); (case side6 => exact HC0_7.out); (case side7 => exact xC (Kd.C_below HR1_0.out HB.out)); (case side8 => exact HC1_0.out); (case side9 => exact xC (Kd.C_below HR1_1.out HB.out)); (case side10 => exact HC1_1.out); (case side11 => exact xC (Kd.C_below HR1_2.out HB.out)); (case side12 => exact HC1_2.out); rintro e w72 ⟨rfl, hb⟩; refine ⟨_, rfl, ?_⟩; replace BK241 := Aside0.mk (xB BK241 hb); replace BK242 := Aside0.mk (xB BK242 hb); replace BK243 := Aside0.mk (xB BK243 hb); replace HB := Aside0.mk (xS HB hb); (try clear hb); (try clear hb2); (try clear hk); (try clear hi); have hcz73_0 := blkc4 BK243.out))
  refine bodyPost_ret (results_ct rfl _ _ gb243 49 #[.int .i64 0, .int .i64 0, .slice none 0 0, .int .i64 0] (0, 0) _ rfl (xQ BK243) Try.underlying49 rfl kr_) rfl ?_
  exact ⟨_, xer, by first | exact Kd.R_nil _ _ _ _ _ | exact Kd.N_nil _ _ _ _ _ | exact Kd.V_nil _ _ _ _ _ | exact Kd.Q_nil _ _ _ _ _ | exact Kd.S_nil _ _ _ _ _, xW HB⟩

/-! ### pattern_Mirror: function 15 -/
def pattern_Mirror.l0 : Nat → Int → Int → Int → Int → List Int → Int → Int → Int → List Int → Int → Option (Int × Int × List Int × Int × Int)
  | 0, _, _, _, _, _, _, _, _, _, _ => none
  | k + 1, x25, x26, z252a, z252b, z252c, z252d, z255a, z255b, z255c, z255d => if x26 < x25 then (if z252a = 0 then (none) else (if 0 ≤ (wrap64 ((wrap64 ((wrap64 ((wrap64 ((wrap64 (Int.tdiv x26 z252a)) * z252a)) + z252a)) - 1)) - (Int.tmod x26 z252a))) then (if (wrap64 ((wrap64 ((wrap64 ((wrap64 ((wrap64 (Int.tdiv x26 z252a)) * z252a)) + z252a)) - 1)) - (Int.tmod x26 z252a))) < (z252c.length : Int) then (if z255c.length < 17592186044416 then (pattern_Mirror.l0 k x25 (wrap64 (x26 + 1)) z252a z252b z252c z252d z255a z255b (z255c ++ [rd z252c (wrap64 ((wrap64 ((wrap64 ((wrap64 ((wrap64 (Int.tdiv x26 z252a)) * z252a)) + z252a)) - 1)) - (Int.tmod x26 z252a)))]) z255d) else (none)) else (none)) else (none))) else (some (z255a, z255b, z255c, z255d, 0))
def pattern_Mirror.f (k : Nat) (a0_0 : ByteArray) (a0_1 : Int) (a0_2 : Int) (l0_3 : List (S101)) (l0_4 : List Int) (a0_5 : Bool) (a0_6 : Bool) (l0_7 : List (S103)) (a0_8 : Int) (a0_9 : Int) (a0_10 : Int) (a1_0 : Int) (a1_1 : Int) (l1_2 : List Int) (a1_3 : Int) : Option (Int × Int × List Int × Int × Int) := (pattern_Check.f k a0_0 a0_1 a0_2 l0_3 l0_4 a0_5 a0_6 l0_7 a0_8 a0_9 a0_10 a1_0 a1_1 l1_2 a1_3).bind fun t253 => (if t253 = 0 then (pattern_Mirror.l0 k (l1_2.length : Int) 0 a1_0 a1_1 l1_2 a1_3 a1_0 a1_1 ([] : List Int) a1_3) else (some (0, 0, ([] : List Int), 0, t253)))
theorem pattern_Mirror.mono_l : ∀ k, (∀ y0 y1 y2 y3 y4 y5 y6 y7 y8 y9, LeO (pattern_Mirror.l0 k y0 y1 y2 y3 y4 y5 y6 y7 y8 y9) (pattern_Mirror.l0 (k + 1) y0 y1 y2 y3 y4 y5 y6 y7 y8 y9))
  | 0 => fun _ _ _ _ _ _ _ _ _ _ r h => by simp [pattern_Mirror.l0] at h
  | k + 1 => by
    have ih0 := pattern_Mirror.mono_l k
    · intros
      unfold pattern_Mirror.l0
      repeat' first
      | (with_reducible apply ih0)
      | (with_reducible apply pattern_Check.mono)
      | (with_reducible exact LeO.refl _)
      | (with_reducible exact LeO.none _)
      | (with_reducible refine LeO.ite ?_ ?_)
      | (with_reducible refine LeO.bind ?_ (fun _ => ?_))
      | apply ih0
      | apply pattern_Check.mono
      | exact LeO.none _
      | refine LeO.ite ?_ ?_
      | refine LeO.bind ?_ (fun _ => ?_)
theorem pattern_Mirror.mono : ∀ a0 a1 a2 a3 a4 a5 a6 a7 a8 a9 a10 a11 a12 a13 a14 k, LeO (pattern_Mirror.f k a0 a1 a2 a3 a4 a5 a6 a7 a8 a9 a10 a11 a12 a13 a14) (pattern_Mirror.f (k + 1) a0 a1 a2 a3 a4 a5 a6 a7 a8 a9 a10 a11 a12 a13 a14) := by
  intro a0 a1 a2 a3 a4 a5 a6 a7 a8 a9 a10 a11 a12 a13 a14 k
  have ih0 := pattern_Mirror.mono_l k
  unfold pattern_Mirror.f
  repeat' first
      | (with_reducible apply ih0)
      | (with_reducible apply pattern_Check.mono)
      | (with_reducible exact LeO.refl _)
      | (with_reducible exact LeO.none _)
      | (with_reducible refine LeO.ite ?_ ?_)
      | (with_reducible refine LeO.bind ?_ (fun _ => ?_))
      | apply ih0
      | apply pattern_Check.mono
      | exact LeO.none _
      | refine LeO.ite ?_ ?_
      | refine LeO.bind ?_ (fun _ => ?_)
def pattern_Mirror.T8 : Bool × List (List Nat × List Nat) := (true, [([], []), ([0], [0]), ([], []), ([2], [2]), ([], []), ([], []), ([5], [5]), ([4, 6], [4, 6]), ([], []), ([8], [8]), ([7, 9], [7, 9]), ([], []), ([11], [11]), ([10, 12], [10, 12]), ([13], [13]), ([], []), ([], []), ([16], [16]), ([15, 17], [15, 17]), ([14, 18], [14, 18]), ([3, 19], [3, 19]), ([20], [20]), ([21], [21]), ([1, 22], [1, 22]), ([0, 1, 2, 3, 4, 5, 6, 7, 8, 9, 10, 11, 12, 13, 14, 15, 16, 17, 18, 19, 20, 21, 22, 23], []), ([24, 23, 23, 0, 1, 2, 3, 4, 5, 6, 7, 8, 9, 10, 11, 12, 13, 14, 15, 16, 17, 18, 19, 20, 21, 22, 23], [23, 24])])
def pattern_Mirror.B8 : List Nat := [0, 1, 0, 4, 0, 0, 32, 112, 0, 256, 1008, 0, 2048, 8176, 16368, 0, 0, 65536, 229376, 524272, 1048572, 2097148, 4194300, 8388607, 16777215, 33554431]
theorem pattern_Mirror.tab8 : rtab .any (opsOf Try.f15 8) = pattern_Mirror.T8 := by as_aux_lemma => kernel_rfl
theorem pattern_Mirror.bits8 : waitsOk pattern_Mirror.T8.2 pattern_Mirror.B8 = true := by as_aux_lemma => kernel_rfl
set_option maxHeartbeats 80000000 in
set_option maxRecDepth 100000 in
theorem pattern_Mirror.calls (k : Nat) (a0_0 : ByteArray) (a0_1 : Int) (a0_2 : Int) (A0_3 : Option Addr) (c0_3 : Nat) (l0_3 : List (S101)) (A0_4 : Option Addr) (c0_4 : Nat) (l0_4 : List Int) (a0_5 : Bool) (a0_6 : Bool) (A0_7 : Option Addr) (c0_7 : Nat) (l0_7 : List (S103)) (a0_8 : Int) (a0_9 : Int) (a0_10 : Int) (a1_0 : Int) (a1_1 : Int) (A1_2 : Option Addr) (c1_2 : Nat) (l1_2 : List Int) (a1_3 : Int) (r1 : Int) (r2 : Int) (r3 : List Int) (r4 : Int) (r5 : Int) (w : World) (hr0_3 : Kd.C k101 w A0_3 l0_3.length l0_3) (hc0_3 : l0_3.length ≤ c0_3) (hr0_4 : Kd.C (Kd.int .i64) w A0_4 l0_4.length l0_4) (hc0_4 : l0_4.length ≤ c0_4) (hr0_7 : Kd.C k103 w A0_7 l0_7.length l0_7) (hc0_7 : l0_7.length ≤ c0_7) (hr1_2 : Kd.C (Kd.int .i64) w A1_2 l1_2.length l1_2) (hc1_2 : l1_2.length ≤ c1_2) (h : pattern_Mirror.f k a0_0 a0_1 a0_2 l0_3 l0_4 a0_5 a0_6 l0_7 a0_8 a0_9 a0_10 a1_0 a1_1 l1_2 a1_3 = some (r1, r2, r3, r4, r5)) :
    Calls Try.prog 15 #[.agg #[.string a0_0, .int .i64 a0_1, .int .i64 a0_2, .slice A0_3 l0_3.length c0_3, .slice A0_4 l0_4.length c0_4, .bool a0_5, .bool a0_6, .slice A0_7 l0_7.length c0_7, .int .i64 a0_8, .int .i64 a0_9, .int .i64 a0_10], .agg #[.int .i64 a1_0, .int .i64 a1_1, .slice A1_2 l1_2.length c1_2, .int .i64 a1_3]] w fun e w' => ∃ v2_ : Value, e = .returned (.tuple #[.agg #[.int .i64 r1, .int .i64 r2, v2_, .int .i64 r4], .int .i64 r5]) ∧ Kd.R (Kd.int .i64) 3 w' w.heap.size (fun _ => True) v2_ r3 ∧ Below w.heap.size w w' := by
 have hu44 := Try.underlying44; have hu49 := Try.underlying49; have HR0_3 := Aside0.mk hr0_3; have HC0_3 := Aside0.mk hc0_3; clear hr0_3 hc0_3; have HR0_4 := Aside0.mk hr0_4; have HC0_4 := Aside0.mk hc0_4; clear hr0_4 hc0_4; have HR0_7 := Aside0.mk hr0_7; have HC0_7 := Aside0.mk hc0_7; clear hr0_7 hc0_7; have HR1_2 := Aside0.mk hr1_2; have HC1_2 := Aside0.mk hc1_2; clear hr1_2 hc1_2; have HB := Aside0.mk (Below.refl w.heap.size w); have hss_ := @isSome_setCell
 have H : ((pattern_Check.f k a0_0 a0_1 a0_2 l0_3 l0_4 a0_5 a0_6 l0_7 a0_8 a0_9 a0_10 a1_0 a1_1 l1_2 a1_3).bind fun t253 => (if t253 = 0 then (pattern_Mirror.l0 k (l1_2.length : Int) 0 a1_0 a1_1 l1_2 a1_3 a1_0 a1_1 ([] : List Int) a1_3) else (some (0, 0, ([] : List Int), 0, t253)))) = some (r1, r2, r3, r4, r5) := h
 clear h; replace H := Option.bind_eq_some_iff.mp H
 obtain ⟨t253, A30, H⟩ := H
 try dsimp only at H
 have A3 := Aside0.mk A30; clear A30
 by_cases c4 : t253 = 0
 ·refine box_ ?g16;letI i:type_of% ?g16:=⟨by
  rw [if_pos c4] at H
  have c4b0 : (t253 == 0) = true := beq_iff_eq.mpr c4
  have c4b1 : (t253 != 0) = false := bne_eq_false_iff_eq.mpr c4
  clear c4
  have H' := Aside0.mk H
  clear H
  go_enter Try.func15, Try.ntmps15
  go_wp2_with (first | ((with_reducible refine gate_dst (N := 2) rfl ?_); refine box_event ?hg (N := 2) ?hd (cs := #[.string a0_0, .int .i64 a0_1, .int .i64 a0_2, .slice A0_3 l0_3.length c0_3, .slice A0_4 l0_4.length c0_4, .bool a0_5, .bool a0_6, .slice A0_7 l0_7.length c0_7, .int .i64 a0_8, .int .i64 a0_9, .int .i64 a0_10]) (t := 44) ?hr ?_; (case hd => rfl); (case hg => rfl); (case hr => first | (go_simp; done) | (go_simp; rfl)); intro gb250 hg w5 hbox hb; have BK250 := Aside0.mk (hbox); have GW250 := Aside0.mk (xZ HB hg); have GE250 := Aside0.mk (xZ HB hg); replace HB := Aside0.mk (xS HB hb); clear hb hbox hg) | ((with_reducible refine gate_dst (N := 3) rfl ?_); refine box_event ?hg (N := 3) ?hd (cs := #[.int .i64 a1_0, .int .i64 a1_1, .slice A1_2 l1_2.length c1_2, .int .i64 a1_3]) (t := 49) ?hr ?_; (case hd => rfl); (case hg => rfl); (case hr => first | (go_simp; done) | (go_simp; rfl)); intro gb251 hg w6 hbox hb; have BK251 := Aside0.mk (hbox); have GW251 := Aside0.mk (xZ HB hg); have GE251 := Aside0.mk (xZ HB hg); have NB250_251 := Aside0.mk (xN BK250 hg); have NB251_250 := Aside0.mk (xM BK250 hg); replace BK250 := Aside0.mk (xB BK250 hb); replace HB := Aside0.mk (xS HB hb); clear hb hbox hg) | ((with_reducible refine gate_dst (N := 4) rfl ?_); refine box_event ?hg (N := 4) ?hd (cs := #[.int .i64 0, .int .i64 0, .slice none 0 0, .int .i64 0]) (t := 49) ?hr ?_; (case hd => rfl); (case hg => rfl); (case hr => first | (go_simp; done) | (go_simp; rfl)); intro gb252 hg w7 hbox hb; have BK252 := Aside0.mk (hbox); have GW252 := Aside0.mk (xZ HB hg); have GE252 := Aside0.mk (xZ HB hg); have NB250_252 := Aside0.mk (xN BK250 hg); have NB252_250 := Aside0.mk (xM BK250 hg); have NB251_252 := Aside0.mk (xN BK251 hg); have NB252_251 := Aside0.mk (xM BK251 hg); replace BK250 := Aside0.mk (xB BK250 hb); replace BK251 := Aside0.mk (xB BK251 hb); replace HB := Aside0.mk (xS HB hb); clear hb hbox hg; have hnb8 := xne7 NB250_251; have hnc8 := xne7 NB251_250; have hnb9 := xne7 NB250_252; have hnc9 := xne7 NB252_250; have hcz10_0 := blkc11 BK250.out; have hnb11 := xne7 NB251_252; have hnc11 := xne7 NB252_251; have hcz12_0 := blkc4 BK251.out) | ((with_reducible refine gate_callee (f := 35) rfl ?_); refine goesL_ (some 11) rfl rfl Try.func35 kr_ rfl #[.agg #[.string a0_0, .int .i64 a0_1, .int .i64 a0_2, .slice A0_3 l0_3.length c0_3, .slice A0_4 l0_4.length c0_4, .bool a0_5, .bool a0_6, .slice A0_7 l0_7.length c0_7, .int .i64 a0_8, .int .i64 a0_9, .int .i64 a0_10], .agg #[.int .i64 a1_0, .int .i64 a1_1, .slice A1_2 l1_2.length c1_2, .int .i64 a1_3]] rfl (by (try simp only [List.map_toArray, List.map_cons, List.map_nil]); first | done | rfl | (simp only [List.length_drop, List.length_take]; rfl)) ?_; (with_reducible refine (pattern_Check.calls k a0_0 a0_1 a0_2 _ _ l0_3 _ _ l0_4 a0_5 a0_6 _ _ l0_7 a0_8 a0_9 a0_10 a1_0 a1_1 _ _ l1_2 a1_3 t253 _ ?side1 ?side2 ?side3 ?side4 ?side5 ?side6 ?side7 ?side8 A3.out).mono ?_); (case side1 => exact xC (Kd.C_below HR0_3.out HB.out)); (case side2 => exact HC0_3.out); (case side3 => exact xC (Kd.C_below HR0_4.out HB.out)); (case side4 => exact HC0_4.out); (case side5 => exact xC (Kd.C_below HR0_7.out HB.out)); (case side6 => exact HC0_7.out); (case side7 => exact xC (Kd.C_below HR1_2.out HB.out)); (case side8 => exact HC1_2.out); rintro e w13 ⟨rfl, hb⟩; refine ⟨_, rfl, ?_⟩; replace BK250 := Aside0.mk (xB BK250 hb); replace BK251 := Aside0.mk (xB BK251 hb); replace BK252 := Aside0.mk (xB BK252 hb); replace HB := Aside0.mk (xS HB hb); (try clear hb); (try clear hb2); (try clear hk); (try clear hi); have hcz14_0 := blkc4 BK251.out) | ((with_reducible refine gate_dst (N := 7) rfl ?_); refine box_event ?hg (N := 7) ?hd (cs := #[.int .i64 0, .int .i64 0, .slice none 0 0, .int .i64 0]) (t := 49) ?hr ?_; (case hd => rfl); (case hg => rfl); (case hr => first | (go_simp; done) | (go_simp; rfl)); intro gb254 hg w15 hbox hb; have BK254 := Aside0.mk (hbox); have GW254 := Aside0.mk (xZ HB hg); have GE254 := Aside0.mk (xZ HB hg); have NB250_254 := Aside0.mk (xN BK250 hg); have NB254_250 := Aside0.mk (xM BK250 hg); have NB251_254 := Aside0.mk (xN BK251 hg); have NB254_251 := Aside0.mk (xM BK251 hg); have NB252_254 := Aside0.mk (xN BK252 hg); have NB254_252 := Aside0.mk (xM BK252 hg); replace BK250 := Aside0.mk (xB BK250 hb); replace BK251 := Aside0.mk (xB BK251 hb); replace BK252 := Aside0.mk (xB BK252 hb); replace HB := Aside0.mk (xS HB hb); clear hb hbox hg; have hnb16 := xne7 NB254_250; have hnc16 := xne7 NB250_254; have hnb17 := xne7 NB254_251; have hnc17 := xne7 NB251_254; have hnb18 := xne7 NB254_252; have hnc18 := xne7 NB252_254; have hcz19_0 := blkc4 BK254.out; have hcz20_0 := blkc4 BK251.out))
  (try have hq250_254 := xne7 NB250_254); (try have hq251_254 := xne7 NB251_254); (try have hq252_254 := xne7 NB252_254); (try have hq254_250 := xne7 NB254_250); (try have hq254_251 := xne7 NB254_251); (try have hq254_252 := xne7 NB254_252); (try have hq252_250 := xne7 NB252_250); (try have hq250_252 := xne7 NB250_252); (try have hq252_251 := xne7 NB252_251); (try have hq251_252 := xne7 NB251_252)
  go_loopg [26] k (fun kq vs26 w' => ∃ (x26_1 : Int) (z255c1 : List Int) (u255002 : Value), vs26 = .int .i64 x26_1 ∧ Aside0 (pattern_Mirror.l0 kq (l1_2.length : Int) x26_1 a1_0 a1_1 l1_2 a1_3 a1_0 a1_1 z255c1 a1_3 = some (r1, r2, r3, r4, r5)) ∧ Aside0 (kq ≤ k) ∧ Aside0 (Kd.R (Kd.int .i64) 3 w' w.heap.size (fun _ => True) u255002 z255c1) ∧ Aside0 (w'.heap[gb250]? = some (.cells #[.string a0_0, .int .i64 a0_1, .int .i64 a0_2, (.slice A0_3 l0_3.length c0_3), (.slice A0_4 l0_4.length c0_4), .bool a0_5, .bool a0_6, (.slice A0_7 l0_7.length c0_7), .int .i64 a0_8, .int .i64 a0_9, .int .i64 a0_10] 44 (0, 0))) ∧ Aside0 (w'.heap[gb251]? = some (.cells #[.int .i64 a1_0, .int .i64 a1_1, (.slice A1_2 l1_2.length c1_2), .int .i64 a1_3] 49 (0, 0))) ∧ Aside0 (w'.heap[gb252]? = some (.cells #[.int .i64 0, .int .i64 0, (.slice none 0 0), .int .i64 0] 49 (0, 0))) ∧ Aside0 (w'.heap[gb254]? = some (.cells #[.int .i64 a1_0, .int .i64 a1_1, u255002, .int .i64 a1_3] 49 (0, 0))) ∧ Aside0 (Below w.heap.size w w'))
  case atStart => exact ⟨(0), (([] : List Int)), (.slice none 0 0), (xrf), H', ⟨Nat.le_refl _⟩, ⟨by first | exact Kd.R_nil _ _ _ _ _ | exact Kd.N_nil _ _ _ _ _ | exact Kd.V_nil _ _ _ _ _ | exact Kd.Q_nil _ _ _ _ _ | exact Kd.S_nil _ _ _ _ _⟩, ⟨xK BK250⟩, ⟨xK BK251⟩, ⟨xK BK252⟩, ⟨xQ BK254⟩, ⟨xW HB⟩⟩
  case round =>
   clear H'; (try clear p2)
   obtain ⟨x26_1, z255c1, u255002, rfl, HA, HK1, HO_255002, BK250, BK251, BK252, BK254, HB⟩ := hrel
   cases gk with
   | zero => exact absurd HA.out (by simp [pattern_Mirror.l0])
   | succ k1 =>
    have H := HA.out; clear HA
    simp only [pattern_Mirror.l0] at H
    by_cases c21 : x26_1 < (l1_2.length : Int)
    ·refine box_ ?g17;letI i:type_of% ?g17:=⟨by
     rw [if_pos c21] at H
     have c21b0 : decide (x26_1 < (l1_2.length : Int)) = true := decide_eq_true c21
     clear c21
     by_cases c22 : a1_0 = 0
     ·rw [if_pos c22] at H
      exact absurd H (by simp)
     ·refine box_ ?g18;letI i:type_of% ?g18:=⟨by
      rw [if_neg c22] at H
      have c22b0 : (a1_0 == 0) = false := beq_eq_false_iff_ne.mpr c22
      have c22b1 : (a1_0 != 0) = true := bne_iff_ne.mpr c22
      obtain ⟨ji23, hji23⟩ : ∃ j_ : Int, (wrap64 ((wrap64 ((wrap64 ((wrap64 ((wrap64 (Int.tdiv x26_1 a1_0)) * a1_0)) + a1_0)) - 1)) - (Int.tmod x26_1 a1_0))) = j_ := ⟨_, rfl⟩
      (first | rw [hji23] at H | simp only [hji23] at H)
      have hji23w : (IntKind.i64.wrap ((wrap64 ((wrap64 ((wrap64 ((wrap64 (Int.tdiv x26_1 a1_0)) * a1_0)) + a1_0)) - 1)) - (Int.tmod x26_1 a1_0))) = ji23 := (i64_w _).trans hji23
      by_cases c24 : 0 ≤ (ji23)
      ·refine box_ ?g19;letI i:type_of% ?g19:=⟨by
       rw [if_pos c24] at H
       have c24b0 : decide (0 ≤ (ji23)) = true := decide_eq_true c24
       clear c24
       by_cases c25 : (ji23) < (l1_2.length : Int)
       ·refine box_ ?g20;letI i:type_of% ?g20:=⟨by
        rw [if_pos c25] at H
        have c25b0 : decide ((ji23) < (l1_2.length : Int)) = true := decide_eq_true c25
        clear c25
        by_cases c26 : z255c1.length < 17592186044416
        ·refine box_ ?g21;letI i:type_of% ?g21:=⟨by
         rw [if_pos c26] at H
         have LMc26 := Aside0.mk c26; clear c26
         obtain ⟨y256, hy256⟩ : ∃ y_ : List Int, y_ = (z255c1 ++ [rd l1_2 (ji23)]) := ⟨_, rfl⟩
         replace H : (pattern_Mirror.l0 k1 (l1_2.length : Int) (wrap64 (x26_1 + 1)) a1_0 a1_1 l1_2 a1_3 a1_0 a1_1 y256 a1_3) = some (r1, r2, r3, r4, r5) := by first | (rw [hy256]; with_reducible exact H) | (have H2_ := (Option.bind_some _ _).symm.trans H; rw [hy256]; with_reducible exact H2_) | (have H2_ := (Option.bind_some _ _).symm.trans H; with_reducible exact H2_) | with_reducible exact H | (rw [hy256]; exact H) | exact H
         have Ny256 := Aside0.mk hy256; clear hy256
         have H' := Aside0.mk H
         clear H
         try go_wp2
         replace HO_255002 := Aside0.mk (Kd.R_drew HO_255002.out); replace BK250 := Aside0.mk (blk_drew BK250.out); replace BK251 := Aside0.mk (blk_drew BK251.out); replace BK252 := Aside0.mk (blk_drew BK252.out); replace BK254 := Aside0.mk (blk_drew BK254.out); replace HB := Aside0.mk (below_drew1 HB.out)
         have p255 : 0 ≤ ((ji23) : Int) := of_decide_eq_true (by first | (with_reducible assumption) | assumption)
         have q255 : (ji23) < (l1_2.length : Int) := of_decide_eq_true (by first | (with_reducible assumption) | assumption)
         obtain ⟨ad255, e255, hx255_0⟩ := Kd.at_int HR1_2.out (ji23) p255 q255
         have hw255_0 := hx255_0
         cases e255
         replace hx255_0 := (HB.out.cell (World.block_lt_of_cell? w _ hx255_0)).trans hx255_0; replace p255 := eq_true p255; replace q255 := eq_true q255
         refine start_ (n := 26) (S := fun w' => ce w' gb254 0 (.int .i64 a1_0) ∧ ce w' gb254 1 (.int .i64 a1_1) ∧ ce w' gb254 2 (u255002) ∧ ce w' gb254 3 (.int .i64 a1_3) ∧ ce w' gb251 0 (.int .i64 a1_0) ∧ ce w' gb251 1 (.int .i64 a1_1) ∧ ce w' gb251 2 (.slice (some ad255) l1_2.length c1_2) ∧ ce w' gb251 3 (.int .i64 a1_3) ∧ w'.cell? (ad255.add ((ji23)).toNat) = some (.int .i64 (rd l1_2 (ji23)))) (ds := [25]) (mk 26 0) kr_ rfl rfl ⟨xc BK254 0, xc BK254 1, xc BK254 2, xc BK254 3, xc BK251 0, xc BK251 1, xc BK251 2, xc BK251 3, ((HB.out.cell (World.block_lt_of_cell? w _ hw255_0)).trans hw255_0)⟩ (fun hHeld => ?_); refine with_tabW pattern_Mirror.tab8 pattern_Mirror.bits8 (fun HT_ HW_ => ?_)
         generalize wr.drew = w27 at HO_255002 BK250 BK251 BK252 BK254 HB hx255_0 hHeld ⊢; refine pu_ 0 29 HT_ ?_; refine pu_ 2 31 HT_ ?_; refine pu_ 4 33 HT_ ?_; refine pu_ 5 34 HT_ ?_; refine pu_ 8 37 HT_ ?_; refine pu_ 11 40 HT_ ?_; refine pu_ 15 44 HT_ ?_; refine pu_ 16 45 HT_ ?_; refine tk_ 1 30 HT_ HW_ hHeld ?_; refine tk_ 3 32 HT_ HW_ hHeld ?_; refine tk_ 6 35 HT_ HW_ hHeld ?_; refine pu_ 7 36 HT_ ?_; refine tk_ 9 38 HT_ HW_ hHeld ?_; refine pu_ 10 39 HT_ ?_; refine tk_ 12 41 HT_ HW_ hHeld ?_; refine pu_ 13 42 HT_ ?_; refine pu_ 14 43 HT_ ?_; refine tk_ 17 46 HT_ HW_ hHeld ?_; refine pu_ 18 47 HT_ ?_; refine pu_ 19 48 HT_ ?_; refine pu_ 20 49 HT_ ?_; refine tk_ 21 50 HT_ HW_ hHeld ?_
         refine one_ (i := 22) (N := some 51) #[true, true, true, true, true, true, true, true, true, true, true, true, true, true, true, true, true, true, true, true, true, true, true, false, false, false] rfl rfl (one_of HT_.out kr_) (by decide) (fun K hK => ?_)
         refine value_ (w1 := ?_) (v := ?_) (by rfl) rfl ?_ ?_
         rotate_left 2
         ·go_simp
          constructor
          ·rfl
          ·rfl
         refine hK.out _ _ ⟨(blk_cell (blk_alloc BK254.out _) 0).trans rfl, (blk_cell (blk_alloc BK254.out _) 1).trans rfl, (blk_cell (blk_alloc BK254.out _) 2).trans rfl, (blk_cell (blk_alloc BK254.out _) 3).trans rfl, (blk_cell (blk_alloc BK251.out _) 0).trans rfl, (blk_cell (blk_alloc BK251.out _) 1).trans rfl, (blk_cell (blk_alloc BK251.out _) 2).trans rfl, (blk_cell (blk_alloc BK251.out _) 3).trans rfl, (World.cell?_alloc_lt _ _ _ (World.block_lt_of_cell? _ _ (((HB.out.cell (World.block_lt_of_cell? w _ hw255_0)).trans hw255_0)))).trans (((HB.out.cell (World.block_lt_of_cell? w _ hw255_0)).trans hw255_0))⟩ (fun hHeld => ?_)
         clear hK K
         refine norm_ (a' := ?_) ?_ ?_
         rotate_left
         ·show Act.put _ (some 51) _ = _
          simp only [Act.put, List.setIfInBounds_toArray, List.set_cons_zero, List.set_cons_succ, i64_w, i32_w]
          rfl
         refine one_ (i := 23) (N := some 52) #[true, true, true, true, true, true, true, true, true, true, true, true, true, true, true, true, true, true, true, true, true, true, true, true, false, false] rfl rfl (one_of HT_.out kr_) (by decide) (fun K hK => ?_)
         refine Kd.R_append_step (Kd.int .i64) (w0 := w) w.heap.size (by rfl) (.tmp 30) (.tmp 51) 31 3 (.int .i64 0) 8 rfl Try.underlying31 info3 rfl (by decide) (by omega) u255002 z255c1 (rd l1_2 (ji23)) [.int .i64 (rd l1_2 (ji23))] (fun _ => True) (fun _ => False) rfl rfl ?aP (fun _ hk => hk.elim) ?aF ?aO ?aB ?aS ?aL ?_
         (case aP => exact rfl)
         (case aB => exact (xW HB))
         (case aF => exact (fun _ _ => trivial))
         (case aO => exact (by (with_reducible repeat (first | apply Kd.R_alloc | apply Kd.R_drewN | apply Kd.R_drew)); exact HO_255002.out))
         (case aS => exact (below_size (xW HB)))
         (case aL => have := LMc26.out; omega)
         intro v257 w28 ho hb hg hat
         rw [← Ny256.out] at ho
         have HO258 := Aside0.mk (ho)
         replace BK250 := Aside0.mk (blk_grown (g := gb250) (o := .cells #[.string a0_0, .int .i64 a0_1, .int .i64 a0_2, .slice A0_3 l0_3.length c0_3, .slice A0_4 l0_4.length c0_4, .bool a0_5, .bool a0_6, .slice A0_7 l0_7.length c0_7, .int .i64 a0_8, .int .i64 a0_9, .int .i64 a0_10] 44 (0, 0)) (xK BK250) hg (Kd.R_ne HO_255002.out BK250.out (by decide)))
         replace BK251 := Aside0.mk (blk_grown (g := gb251) (o := .cells #[.int .i64 a1_0, .int .i64 a1_1, .slice (some ad255) l1_2.length c1_2, .int .i64 a1_3] 49 (0, 0)) (xK BK251) hg (Kd.R_ne HO_255002.out BK251.out (by decide)))
         replace BK252 := Aside0.mk (blk_grown (g := gb252) (o := .cells #[.int .i64 0, .int .i64 0, .slice none 0 0, .int .i64 0] 49 (0, 0)) (xK BK252) hg (Kd.R_ne HO_255002.out BK252.out (by decide)))
         replace BK254 := Aside0.mk (blk_grown (g := gb254) (o := .cells #[.int .i64 a1_0, .int .i64 a1_1, u255002, .int .i64 a1_3] 49 (0, 0)) (xK BK254) hg (Kd.R_ne HO_255002.out BK254.out (by decide)))
         replace HB := Aside0.mk (hb); clear HO_255002; clear ho hb hg hat
         obtain ⟨Ao29, co29, eo29⟩ := Kd.R_slice HO258.out
         (first | subst eo29 | (injection eo29 with f1_ f2_ f3_; have f4_ := f1_.symm; have f5_ := f3_.symm; clear f1_ f2_ f3_; subst f4_; subst f5_))
         refine hK.out _ _ ⟨(blk_cell BK254.out 0).trans rfl, (blk_cell BK254.out 1).trans rfl, (blk_cell BK254.out 2).trans rfl, (blk_cell BK254.out 3).trans rfl, (blk_cell BK251.out 0).trans rfl, (blk_cell BK251.out 1).trans rfl, (blk_cell BK251.out 2).trans rfl, (blk_cell BK251.out 3).trans rfl, ((HB.out.cell (World.block_lt_of_cell? w _ hw255_0)).trans hw255_0)⟩ (fun hHeld => ?_)
         clear hK K
         refine norm_ (a' := ?_) ?_ ?_
         rotate_left
         ·show Act.put _ (some 52) _ = _
          simp only [Act.put, List.setIfInBounds_toArray, List.set_cons_zero, List.set_cons_succ, i64_w, i32_w]
          rfl
         refine pu_ 24 53 HT_ ?_
         refine last_ (i := 25) (N := none) #[true, true, true, true, true, true, true, true, true, true, true, true, true, true, true, true, true, true, true, true, true, true, true, true, true, true] rfl rfl (one_of HT_.out kr_) (by decide) (fun K hK => ?_)
         have hs30 : w28.cell? ⟨gb254, 2, none⟩ = some (u255002) := (blk_cell BK254.out 2).trans rfl
         have hfs30 := blk_frozen BK254.out 2; have hms30_0 := NB254_250.out; have hms30_1 := NB254_251.out; have hms30_2 := NB254_252.out
         refine skip_ (w1 := ?_) (by rfl) rfl ?_ ?_
         rotate_left
         ·go_simp
          rfl
         refine hK.out _ _ ?_
         clear hK K
         refine done_ (done_of HT_.out kr_) ?_
         try go_wp2
         (first | go_roundg k1 | (simp only [← hji23]; go_roundg k1))
         case measure => have := HK1.out; omega
         case rel => exact ⟨(wrap64 (x26_1 + 1)), (y256), (.slice Ao29 y256.length co29), (xrf), H', ⟨by have := HK1.out; omega⟩, ⟨by (with_reducible repeat (first | apply Kd.R_alloc | apply Kd.R_drewN | apply Kd.R_drew)); exact Kd.R_mono (Kd.R_far (p := ⟨gb254, 2, none⟩) (Kd.R_types HO258.out BK254.out (by decide)) (fun _ hk => hk.2) (.slice Ao29 y256.length co29)) (fun _ hk => trivial)⟩, ⟨xK BK250⟩, ⟨xK BK251⟩, ⟨xK BK252⟩, ⟨xQ BK254⟩, ⟨xW HB⟩⟩⟩
         exact inferInstanceAs _
        ·rw [if_neg c26] at H
         exact absurd H (by simp)⟩
        exact inferInstanceAs _
       ·rw [if_neg c25] at H
        exact absurd H (by simp)⟩
       exact inferInstanceAs _
      ·rw [if_neg c24] at H
       exact absurd H (by simp)⟩
      exact inferInstanceAs _⟩
     exact inferInstanceAs _
    ·rw [if_neg c21] at H
     have c21b0 : decide (x26_1 < (l1_2.length : Int)) = false := decide_eq_false c21
     clear c21
     simp only [Option.some.injEq, Prod.mk.injEq] at H
     obtain ⟨rfl, rfl, rfl, rfl, rfl⟩ := H
     have hcz34_0 := blkc4 BK254.out; have hcz37_0 := blkc4 BK252.out
     obtain ⟨Ao38, co38, eo38⟩ := Kd.R_slice HO_255002.out
     subst eo38
     go_wp2
     refine bodyPost_ret (results_ct rfl _ _ gb252 49 #[.int .i64 a1_0, .int .i64 a1_1, .slice Ao38 z255c1.length co38, .int .i64 a1_3] (0, 0) _ rfl (xQ BK252) Try.underlying49 rfl kr_) rfl ?_
     exact ⟨_, xer, by (with_reducible repeat (first | apply Kd.R_alloc | apply Kd.R_drewN | apply Kd.R_drew)); exact Kd.R_mono (Kd.R_far (p := ⟨gb252, 3, none⟩) (Kd.R_far (p := ⟨gb252, 2, none⟩) (Kd.R_far (p := ⟨gb252, 1, none⟩) (Kd.R_far (p := ⟨gb252, 0, none⟩) (Kd.R_types HO_255002.out BK252.out (by decide)) (fun _ hk => hk.2) (.int .i64 a1_0)) (fun _ hk => hk.2) (.int .i64 a1_1)) (fun _ hk => hk.2) (.slice Ao38 z255c1.length co38)) (fun _ hk => hk.2) (.int .i64 a1_3)) (fun _ hk => trivial), xW HB⟩⟩
  exact inferInstanceAs _
 ·rw [if_neg c4] at H
  have c4b0 : (t253 == 0) = false := beq_eq_false_iff_ne.mpr c4
  have c4b1 : (t253 != 0) = true := bne_iff_ne.mpr c4
  simp only [Option.some.injEq, Prod.mk.injEq] at H
  obtain ⟨rfl, rfl, rfl, rfl, rfl⟩ := H
  go_enter Try.func15, Try.ntmps15
  go_wp2_with (first | ((with_reducible refine gate_dst (N := 2) rfl ?_); refine box_event ?hg (N := 2) ?hd (cs := #[.string a0_0, .int .i64 a0_1, .int .i64 a0_2, .slice A0_3 l0_3.length c0_3, .slice A0_4 l0_4.length c0_4, .bool a0_5, .bool a0_6, .slice A0_7 l0_7.length c0_7, .int .i64 a0_8, .int .i64 a0_9, .int .i64 a0_10]) (t := 44) ?hr ?_; (case hd => rfl); (case hg => rfl); (case hr => first | (go_simp; done) | (go_simp; rfl)); intro gb250 hg w39 hbox hb; have BK250 := Aside0.mk (hbox); have GW250 := Aside0.mk (xZ HB hg); have GE250 := Aside0.mk (xZ HB hg); replace HB := Aside0.mk (xS HB hb); clear hb hbox hg) | ((with_reducible refine gate_dst (N := 3) rfl ?_); refine box_event ?hg (N := 3) ?hd (cs := #[.int .i64 a1_0, .int .i64 a1_1, .slice A1_2 l1_2.length c1_2, .int .i64 a1_3]) (t := 49) ?hr ?_; (case hd => rfl); (case hg => rfl); (case hr => first | (go_simp; done) | (go_simp; rfl)); intro gb251 hg w40 hbox hb; have BK251 := Aside0.mk (hbox); have GW251 := Aside0.mk (xZ HB hg); have GE251 := Aside0.mk (xZ HB hg); have NB250_251 := Aside0.mk (xN BK250 hg); have NB251_250 := Aside0.mk (xM BK250 hg); replace BK250 := Aside0.mk (xB BK250 hb); replace HB := Aside0.mk (xS HB hb); clear hb hbox hg) | ((with_reducible refine gate_dst (N := 4) rfl ?_); refine box_event ?hg (N := 4) ?hd (cs := #[.int .i64 0, .int .i64 0, .slice none 0 0, .int .i64 0]) (t := 49) ?hr ?_; (case hd => rfl); (case hg => rfl); (case hr => first | (go_simp; done) | (go_simp; rfl)); intro gb252 hg w41 hbox hb; have BK252 := Aside0.mk (hbox); have GW252 := Aside0.mk (xZ HB hg); have GE252 := Aside0.mk (xZ HB hg); have NB250_252 := Aside0.mk (xN BK250 hg); have NB252_250 := Aside0.mk (xM BK250 hg); have NB251_252 := Aside0.mk (xN BK251 hg); have NB252_251 := Aside0.mk (xM BK251 hg); replace BK250 := Aside0.mk (xB BK250 hb); replace BK251 := Aside0.mk (xB BK251 hb); replace HB := Aside0.mk (xS HB hb); clear hb hbox hg; have hnb42 := xne7 NB250_251; have hnc42 := xne7 NB251_250; have hnb43 := xne7 NB250_252; have hnc43 := xne7 NB252_250; have hcz44_0 := blkc11 BK250.out; have hnb45 := xne7 NB251_252; have hnc45 := xne7 NB252_251; have hcz46_0 := blkc4 BK251.out) | ((with_reducible refine gate_callee (f := 35) rfl ?_); refine goesL_ (some 11) rfl rfl Try.func35 kr_ rfl #[.agg #[.string a0_0, .int .i64 a0_1, .int .i64 a0_2, .slice A0_3 l0_3.length c0_3, .slice A0_4 l0_4.length c0_4, .bool a0_5, .bool a0_6, .slice A0_7 l0_7.length c0_7, .int .i64 a0_8, .int .i64 a0_9, .int .i64 a0_10], .agg #[.int .i64 a1_0, .int .i64 a1_1, .slice A1_2 l1_2.length c1_2, .int .i64 a1_3]] rfl (by (try simp only [List.map_toArray, List.map_cons, List.map_nil]); first | done | rfl | (simp only [List.length_drop, List.length_take]; rfl)) ?_; (with_reducible refine (pattern_Check.calls k a0_0 a0_1 a0_2 _ _ l0_3 _ _ l0_4 a0_5 a0_6 _ _ l0_7 a0_8 a0_9 a0_10 a1_0 a1_1 _ _ l1_2 a1_3 t253 _ ?side1 ?side2 ?side3 ?side4 ?side5 ?side6 ?side7 ?side8 A3.out).mono ?_); (case side1 => exact xC (Kd.C_below HR0_3.out HB.out)); (case side2 => exact HC0_3.out); (case side3 => exact xC (Kd.C_below HR0_4.out HB.out)); (case side4 => exact HC0_4.out); (case side5 => exact xC (Kd.C_below HR0_7.out HB.out)); (case side6 => exact HC0_7.out); (case side7 => exact xC (Kd.C_below HR1_2.out HB.out)); (case side8 => exact HC1_2.out); rintro e w47 ⟨rfl, hb⟩; refine ⟨_, rfl, ?_⟩; replace BK250 := Aside0.mk (xB BK250 hb); replace BK251 := Aside0.mk (xB BK251 hb); replace BK252 := Aside0.mk (xB BK252 hb); replace HB := Aside0.mk (xS HB hb); (try clear hb); (try clear hb2); (try clear hk); (try clear hi); have hcz48_0 := blkc4 BK252.out))
  refine bodyPost_ret (results_ct rfl _ _ gb252 49 #[.int .i64 0, .int .i64 0, .slice none 0 0, .int .i64 0] (0, 0) _ rfl (xQ BK252) Try.underlying49 rfl kr_) rfl ?_
  exact ⟨_, xer, by first | exact Kd.R_nil _ _ _ _ _ | exact Kd.N_nil _ _ _ _ _ | exact Kd.V_nil _ _ _ _ _ | exact Kd.Q_nil _ _ _ _ _ | exact Kd.S_nil _ _ _ _ _, xW HB⟩

/-! ### gamehalllaw3_patternFault: function 16 -/
mutual
def gamehalllaw3_patternFault.j0 : Nat → Bool → ByteArray → Int → Int → List (S101) → List Int → Bool → Bool → List (S103) → Int → Int → Int → Int → Int → List Int → Int → Option (Int)
  | 0, _, _, _, _, _, _, _, _, _, _, _, _, _, _, _, _ => none
  | k + 1, x34, z260a, z260b, z260c, z260d, z260e, z260f, z260g, z260h, z260i, z260j, z260k, z261a, z261b, z261c, z261d => if x34 = true then (some 4) else (if (z261c.length : Int) = (wrap64 (z261a * z261b)) then (gamehalllaw3_patternFault.l0 k z261c (z261c.length : Int) 0 z260a z260b z260c z260d z260e z260f z260g z260h z260i z260j z260k z261a z261b z261c z261d) else (some 3))
def gamehalllaw3_patternFault.l0 : Nat → List Int → Int → Int → ByteArray → Int → Int → List (S101) → List Int → Bool → Bool → List (S103) → Int → Int → Int → Int → Int → List Int → Int → Option (Int)
  | 0, _, _, _, _, _, _, _, _, _, _, _, _, _, _, _, _, _, _ => none
  | k + 1, x45, x46, x47, z260a, z260b, z260c, z260d, z260e, z260f, z260g, z260h, z260i, z260j, z260k, z261a, z261b, z261c, z261d => if x47 < x46 then (if 0 ≤ x47 then (if x47 < (x45.length : Int) then (if (rd x45 x47) < (-3) then (some 4) else (if (rd x45 x47) > (wrap64 (2 * (z260d.length : Int))) then (some 4) else (gamehalllaw3_patternFault.l0 k x45 x46 (wrap64 (x47 + 1)) z260a z260b z260c z260d z260e z260f z260g z260h z260i z260j z260k z261a z261b z261c z261d))) else (none)) else (none)) else (if z261d < (-1) then (some 4) else (if z261d > 1 then (some 4) else (some 0)))
end
def gamehalllaw3_patternFault.f (k : Nat) (a0_0 : ByteArray) (a0_1 : Int) (a0_2 : Int) (l0_3 : List (S101)) (l0_4 : List Int) (a0_5 : Bool) (a0_6 : Bool) (l0_7 : List (S103)) (a0_8 : Int) (a0_9 : Int) (a0_10 : Int) (a1_0 : Int) (a1_1 : Int) (l1_2 : List Int) (a1_3 : Int) : Option (Int) := (rules_Check.f k a0_0 a0_1 a0_2 l0_3 l0_4 a0_5 a0_6 l0_7 a0_8 a0_9 a0_10).bind fun t261 => (if t261 = 0 then (if a1_0 < 1 then (gamehalllaw3_patternFault.j0 k true a0_0 a0_1 a0_2 l0_3 l0_4 a0_5 a0_6 l0_7 a0_8 a0_9 a0_10 a1_0 a1_1 l1_2 a1_3) else (if a1_0 > a0_1 then (gamehalllaw3_patternFault.j0 k true a0_0 a0_1 a0_2 l0_3 l0_4 a0_5 a0_6 l0_7 a0_8 a0_9 a0_10 a1_0 a1_1 l1_2 a1_3) else (if a1_1 < 1 then (gamehalllaw3_patternFault.j0 k true a0_0 a0_1 a0_2 l0_3 l0_4 a0_5 a0_6 l0_7 a0_8 a0_9 a0_10 a1_0 a1_1 l1_2 a1_3) else (gamehalllaw3_patternFault.j0 k (decide (a1_1 > a0_2)) a0_0 a0_1 a0_2 l0_3 l0_4 a0_5 a0_6 l0_7 a0_8 a0_9 a0_10 a1_0 a1_1 l1_2 a1_3)))) else (some t261))
theorem gamehalllaw3_patternFault.mono_l : ∀ k, (∀ y0 y1 y2 y3 y4 y5 y6 y7 y8 y9 y10 y11 y12 y13 y14 y15, LeO (gamehalllaw3_patternFault.j0 k y0 y1 y2 y3 y4 y5 y6 y7 y8 y9 y10 y11 y12 y13 y14 y15) (gamehalllaw3_patternFault.j0 (k + 1) y0 y1 y2 y3 y4 y5 y6 y7 y8 y9 y10 y11 y12 y13 y14 y15)) ∧ (∀ y0 y1 y2 y3 y4 y5 y6 y7 y8 y9 y10 y11 y12 y13 y14 y15 y16 y17, LeO (gamehalllaw3_patternFault.l0 k y0 y1 y2 y3 y4 y5 y6 y7 y8 y9 y10 y11 y12 y13 y14 y15 y16 y17) (gamehalllaw3_patternFault.l0 (k + 1) y0 y1 y2 y3 y4 y5 y6 y7 y8 y9 y10 y11 y12 y13 y14 y15 y16 y17))
  | 0 => ⟨fun _ _ _ _ _ _ _ _ _ _ _ _ _ _ _ _ r h => by simp [gamehalllaw3_patternFault.j0] at h, fun _ _ _ _ _ _ _ _ _ _ _ _ _ _ _ _ _ _ r h => by simp [gamehalllaw3_patternFault.l0] at h⟩
  | k + 1 => by
    obtain ⟨ih0, ih1⟩ := gamehalllaw3_patternFault.mono_l k
    refine ⟨?_, ?_⟩
    · intros
      unfold gamehalllaw3_patternFault.j0
      repeat' first
      | (with_reducible apply ih0)
      | (with_reducible apply ih1)
      | (with_reducible apply rules_Check.mono)
      | (with_reducible exact LeO.refl _)
      | (with_reducible exact LeO.none _)
      | (with_reducible refine LeO.ite ?_ ?_)
      | (with_reducible refine LeO.bind ?_ (fun _ => ?_))
      | apply ih0
      | apply ih1
      | apply rules_Check.mono
      | exact LeO.none _
      | refine LeO.ite ?_ ?_
      | refine LeO.bind ?_ (fun _ => ?_)
    · intros
      unfold gamehalllaw3_patternFault.l0
      repeat' first
      | (with_reducible apply ih0)
      | (with_reducible apply ih1)
      | (with_reducible apply rules_Check.mono)
      | (with_reducible exact LeO.refl _)
      | (with_reducible exact LeO.none _)
      | (with_reducible refine LeO.ite ?_ ?_)
      | (with_reducible refine LeO.bind ?_ (fun _ => ?_))
      | apply ih0
      | apply ih1
      | apply rules_Check.mono
      | exact LeO.none _
      | refine LeO.ite ?_ ?_
      | refine LeO.bind ?_ (fun _ => ?_)
theorem gamehalllaw3_patternFault.mono : ∀ a0 a1 a2 a3 a4 a5 a6 a7 a8 a9 a10 a11 a12 a13 a14 k, LeO (gamehalllaw3_patternFault.f k a0 a1 a2 a3 a4 a5 a6 a7 a8 a9 a10 a11 a12 a13 a14) (gamehalllaw3_patternFault.f (k + 1) a0 a1 a2 a3 a4 a5 a6 a7 a8 a9 a10 a11 a12 a13 a14) := by
  intro a0 a1 a2 a3 a4 a5 a6 a7 a8 a9 a10 a11 a12 a13 a14 k
  obtain ⟨ih0, ih1⟩ := gamehalllaw3_patternFault.mono_l k
  unfold gamehalllaw3_patternFault.f
  repeat' first
      | (with_reducible apply ih0)
      | (with_reducible apply ih1)
      | (with_reducible apply rules_Check.mono)
      | (with_reducible exact LeO.refl _)
      | (with_reducible exact LeO.none _)
      | (with_reducible refine LeO.ite ?_ ?_)
      | (with_reducible refine LeO.bind ?_ (fun _ => ?_))
      | apply ih0
      | apply ih1
      | apply rules_Check.mono
      | exact LeO.none _
      | refine LeO.ite ?_ ?_
      | refine LeO.bind ?_ (fun _ => ?_)
set_option maxHeartbeats 80000000 in
set_option maxRecDepth 100000 in
theorem gamehalllaw3_patternFault.calls (k : Nat) (a0_0 : ByteArray) (a0_1 : Int) (a0_2 : Int) (A0_3 : Option Addr) (c0_3 : Nat) (l0_3 : List (S101)) (A0_4 : Option Addr) (c0_4 : Nat) (l0_4 : List Int) (a0_5 : Bool) (a0_6 : Bool) (A0_7 : Option Addr) (c0_7 : Nat) (l0_7 : List (S103)) (a0_8 : Int) (a0_9 : Int) (a0_10 : Int) (a1_0 : Int) (a1_1 : Int) (A1_2 : Option Addr) (c1_2 : Nat) (l1_2 : List Int) (a1_3 : Int) (r : Int) (w : World) (hr0_3 : Kd.C k101 w A0_3 l0_3.length l0_3) (hc0_3 : l0_3.length ≤ c0_3) (hr0_4 : Kd.C (Kd.int .i64) w A0_4 l0_4.length l0_4) (hc0_4 : l0_4.length ≤ c0_4) (hr0_7 : Kd.C k103 w A0_7 l0_7.length l0_7) (hc0_7 : l0_7.length ≤ c0_7) (hr1_2 : Kd.C (Kd.int .i64) w A1_2 l1_2.length l1_2) (hc1_2 : l1_2.length ≤ c1_2) (h : gamehalllaw3_patternFault.f k a0_0 a0_1 a0_2 l0_3 l0_4 a0_5 a0_6 l0_7 a0_8 a0_9 a0_10 a1_0 a1_1 l1_2 a1_3 = some r) :
    Calls Try.prog 16 #[.agg #[.string a0_0, .int .i64 a0_1, .int .i64 a0_2, .slice A0_3 l0_3.length c0_3, .slice A0_4 l0_4.length c0_4, .bool a0_5, .bool a0_6, .slice A0_7 l0_7.length c0_7, .int .i64 a0_8, .int .i64 a0_9, .int .i64 a0_10], .agg #[.int .i64 a1_0, .int .i64 a1_1, .slice A1_2 l1_2.length c1_2, .int .i64 a1_3]] w fun e w' => e = .returned (.int .i64 r) ∧ Below w.heap.size w w' := by
 have hu44 := Try.underlying44; have hu49 := Try.underlying49; have HR0_3 := Aside0.mk hr0_3; have HC0_3 := Aside0.mk hc0_3; clear hr0_3 hc0_3; have HR0_4 := Aside0.mk hr0_4; have HC0_4 := Aside0.mk hc0_4; clear hr0_4 hc0_4; have HR0_7 := Aside0.mk hr0_7; have HC0_7 := Aside0.mk hc0_7; clear hr0_7 hc0_7; have HR1_2 := Aside0.mk hr1_2; have HC1_2 := Aside0.mk hc1_2; clear hr1_2 hc1_2; have HB := Aside0.mk (Below.refl w.heap.size w); have hss_ := @isSome_setCell
 have H : ((rules_Check.f k a0_0 a0_1 a0_2 l0_3 l0_4 a0_5 a0_6 l0_7 a0_8 a0_9 a0_10).bind fun t261 => (if t261 = 0 then (if a1_0 < 1 then (gamehalllaw3_patternFault.j0 k true a0_0 a0_1 a0_2 l0_3 l0_4 a0_5 a0_6 l0_7 a0_8 a0_9 a0_10 a1_0 a1_1 l1_2 a1_3) else (if a1_0 > a0_1 then (gamehalllaw3_patternFault.j0 k true a0_0 a0_1 a0_2 l0_3 l0_4 a0_5 a0_6 l0_7 a0_8 a0_9 a0_10 a1_0 a1_1 l1_2 a1_3) else (if a1_1 < 1 then (gamehalllaw3_patternFault.j0 k true a0_0 a0_1 a0_2 l0_3 l0_4 a0_5 a0_6 l0_7 a0_8 a0_9 a0_10 a1_0 a1_1 l1_2 a1_3) else (gamehalllaw3_patternFault.j0 k (decide (a1_1 > a0_2)) a0_0 a0_1 a0_2 l0_3 l0_4 a0_5 a0_6 l0_7 a0_8 a0_9 a0_10 a1_0 a1_1 l1_2 a1_3)))) else (some t261))) = some r := h
 clear h; replace H := Option.bind_eq_some_iff.mp H
 obtain ⟨t261, A30, H⟩ := H
 try dsimp only at H
 have A3 := Aside0.mk A30; clear A30
 by_cases c4 : t261 = 0
 ·refine box_ ?g22;letI i:type_of% ?g22:=⟨by
  rw [if_pos c4] at H
  have c4b0 : (t261 == 0) = true := beq_iff_eq.mpr c4
  have c4b1 : (t261 != 0) = false := bne_eq_false_iff_eq.mpr c4
  clear c4; have HC5 := Aside0.mk H; clear H
  go_enter Try.func16, Try.ntmps16
  go_upto_region 4 with (first | ((with_reducible refine gate_dst (N := 2) rfl ?_); (try (refine gate_guard (by rfl) ?_; dsimp only)); refine box_event ?hg (N := 2) ?hd (cs := #[.string a0_0, .int .i64 a0_1, .int .i64 a0_2, .slice A0_3 l0_3.length c0_3, .slice A0_4 l0_4.length c0_4, .bool a0_5, .bool a0_6, .slice A0_7 l0_7.length c0_7, .int .i64 a0_8, .int .i64 a0_9, .int .i64 a0_10]) (t := 44) ?hr ?_; (case hd => rfl); (case hg => rfl); (case hr => first | (go_simp; done) | (go_simp; rfl)); intro gb259 hg w6 hbox hb; have BK259 := Aside0.mk (hbox); have GW259 := Aside0.mk (xZ HB hg); have GE259 := Aside0.mk (xZ HB hg); replace HB := Aside0.mk (xS HB hb); clear hb hbox hg) | ((with_reducible refine gate_dst (N := 3) rfl ?_); (try (refine gate_guard (by rfl) ?_; dsimp only)); refine box_event ?hg (N := 3) ?hd (cs := #[.int .i64 a1_0, .int .i64 a1_1, .slice A1_2 l1_2.length c1_2, .int .i64 a1_3]) (t := 49) ?hr ?_; (case hd => rfl); (case hg => rfl); (case hr => first | (go_simp; done) | (go_simp; rfl)); intro gb260 hg w7 hbox hb; have BK260 := Aside0.mk (hbox); have GW260 := Aside0.mk (xZ HB hg); have GE260 := Aside0.mk (xZ HB hg); have NB259_260 := Aside0.mk (xN BK259 hg); have NB260_259 := Aside0.mk (xM BK259 hg); replace BK259 := Aside0.mk (xB BK259 hb); replace HB := Aside0.mk (xS HB hb); clear hb hbox hg; have hnb8 := xne7 NB259_260; have hnc8 := xne7 NB260_259; have hcz9_0 := blkc11 BK259.out) | ((with_reducible refine gate_callee (f := 36) rfl ?_); refine goesL_ (some 9) rfl rfl Try.func36 kr_ rfl #[.agg #[.string a0_0, .int .i64 a0_1, .int .i64 a0_2, .slice A0_3 l0_3.length c0_3, .slice A0_4 l0_4.length c0_4, .bool a0_5, .bool a0_6, .slice A0_7 l0_7.length c0_7, .int .i64 a0_8, .int .i64 a0_9, .int .i64 a0_10]] rfl (by (try simp only [List.map_toArray, List.map_cons, List.map_nil]); first | done | rfl | (simp only [List.length_drop, List.length_take]; rfl)) ?_; (with_reducible refine (rules_Check.calls k a0_0 a0_1 a0_2 _ _ l0_3 _ _ l0_4 a0_5 a0_6 _ _ l0_7 a0_8 a0_9 a0_10 t261 _ ?side1 ?side2 ?side3 ?side4 ?side5 ?side6 A3.out).mono ?_); (case side1 => exact xC (Kd.C_below HR0_3.out HB.out)); (case side2 => exact HC0_3.out); (case side3 => exact xC (Kd.C_below HR0_4.out HB.out)); (case side4 => exact HC0_4.out); (case side5 => exact xC (Kd.C_below HR0_7.out HB.out)); (case side6 => exact HC0_7.out); rintro e w10 ⟨rfl, hb⟩; refine ⟨_, rfl, ?_⟩; replace BK259 := Aside0.mk (xB BK259 hb); replace BK260 := Aside0.mk (xB BK260 hb); replace HB := Aside0.mk (xS HB hb); (try clear hb); (try clear hb2); (try clear hk); (try clear hi)))
  (try have hq260_259 := xne7 NB260_259); (try have hq259_260 := xne7 NB259_260)
  (try simp only [Act.put, List.setIfInBounds_toArray, List.set_cons_zero, List.set_cons_succ])
  go_cut [34] (fun vs34 wc => ∃ (kq : Nat) (x34_4 : Bool), vs34 = .bool x34_4 ∧ Aside0 (gamehalllaw3_patternFault.j0 kq x34_4 a0_0 a0_1 a0_2 l0_3 l0_4 a0_5 a0_6 l0_7 a0_8 a0_9 a0_10 a1_0 a1_1 l1_2 a1_3 = some r) ∧ Aside0 (kq ≤ k) ∧ Aside0 (wc.heap[gb259]? = some (.cells #[.string a0_0, .int .i64 a0_1, .int .i64 a0_2, (.slice A0_3 l0_3.length c0_3), (.slice A0_4 l0_4.length c0_4), .bool a0_5, .bool a0_6, (.slice A0_7 l0_7.length c0_7), .int .i64 a0_8, .int .i64 a0_9, .int .i64 a0_10] 44 (0, 0))) ∧ Aside0 (wc.heap[gb260]? = some (.cells #[.int .i64 a1_0, .int .i64 a1_1, (.slice A1_2 l1_2.length c1_2), .int .i64 a1_3] 49 (0, 0))) ∧ Aside0 (Below w.heap.size w wc))
  case first =>
   refine box_ ?g23;letI i:type_of% ?g23:=⟨by
   have H := HC5.out; clear HC5
   by_cases c11 : a1_0 < 1
   ·rw [if_pos c11] at H
    have c11b0 : decide (a1_0 < 1) = true := decide_eq_true c11
    clear c11
    (first | rw [c11b0] | (simp only [i64_w, i32_w]; rw [c11b0]) | skip)
    have H' := Aside0.mk H
    clear H; have hcz13_0 := blkc4 BK260.out
    go_wp2
    go_meet
    case rel => exact ⟨_, (true), (xrf), H', ⟨by first | omega | exact Nat.le_refl _⟩, ⟨xK BK259⟩, ⟨xK BK260⟩, ⟨xW HB⟩⟩
   ·refine box_ ?g24;letI i:type_of% ?g24:=⟨by
    rw [if_neg c11] at H
    have c11b0 : decide (a1_0 < 1) = false := decide_eq_false c11
    clear c11
    (first | rw [c11b0] | (simp only [i64_w, i32_w]; rw [c11b0]) | skip)
    by_cases c14 : a1_0 > a0_1
    ·rw [if_pos c14] at H
     have c14b0 : decide (a0_1 < a1_0) = true := decide_eq_true c14
     clear c14
     have H' := Aside0.mk H
     clear H; have hcz16_0 := blkc4 BK260.out; have hcz17_0 := blkc11 BK259.out
     go_wp2
     go_meet
     case rel => exact ⟨_, (true), (xrf), H', ⟨by first | omega | exact Nat.le_refl _⟩, ⟨xK BK259⟩, ⟨xK BK260⟩, ⟨xW HB⟩⟩
    ·rw [if_neg c14] at H
     have c14b0 : decide (a0_1 < a1_0) = false := decide_eq_false c14
     clear c14
     by_cases c18 : a1_1 < 1
     ·rw [if_pos c18] at H
      have c18b0 : decide (a1_1 < 1) = true := decide_eq_true c18
      clear c18
      have H' := Aside0.mk H
      clear H; have hcz20_0 := blkc4 BK260.out; have hcz21_0 := blkc11 BK259.out
      go_wp2
      go_meet
      case rel => exact ⟨_, (true), (xrf), H', ⟨by first | omega | exact Nat.le_refl _⟩, ⟨xK BK259⟩, ⟨xK BK260⟩, ⟨xW HB⟩⟩
     ·rw [if_neg c18] at H
      have c18b0 : decide (a1_1 < 1) = false := decide_eq_false c18
      clear c18
      have H' := Aside0.mk H
      clear H; have hcz23_0 := blkc4 BK260.out; have hcz24_0 := blkc11 BK259.out
      go_wp2
      go_meet
      case rel => exact ⟨_, (decide (a1_1 > a0_2)), (xrf), H', ⟨by first | omega | exact Nat.le_refl _⟩, ⟨xK BK259⟩, ⟨xK BK260⟩, ⟨xW HB⟩⟩⟩
    exact inferInstanceAs _⟩
   exact inferInstanceAs _
  case rest =>
   refine box_ ?g25;letI i:type_of% ?g25:=⟨by
   clear HC5; (try clear p2)
   obtain ⟨kq, x34_4, rfl, HA, HJ4, BK259, BK260, HB⟩ := hcut
   cases kq with
   | zero => exact absurd HA.out (by simp [gamehalllaw3_patternFault.j0])
   | succ kj4 =>
    have H := HA.out; clear HA
    simp only [gamehalllaw3_patternFault.j0] at H
    by_cases c25 : x34_4 = true
    ·subst c25
     rw [if_pos rfl] at H
     obtain rfl := Option.some.inj H
     go_wp2
     go_ret
     exact ⟨xer, xW HB⟩
    ·replace c25 := Bool.eq_false_iff.mpr c25
     subst c25
     rw [if_neg (show ¬ (false = true) by decide)] at H
     by_cases c26 : (l1_2.length : Int) = (wrap64 (a1_0 * a1_1))
     ·refine box_ ?g26;letI i:type_of% ?g26:=⟨by
      rw [if_pos c26] at H
      have c26b0 : ((l1_2.length : Int) == (wrap64 (a1_0 * a1_1))) = true := beq_iff_eq.mpr c26
      have c26b1 : ((l1_2.length : Int) != (wrap64 (a1_0 * a1_1))) = false := bne_eq_false_iff_eq.mpr c26
      clear c26
      have H' := Aside0.mk H
      clear H; have hcz28_0 := blkc4 BK260.out
      go_wp2
      go_loopg [47] kj4 (fun kq vs47 w' => ∃ (x47_2 : Int), vs47 = .int .i64 x47_2 ∧ Aside0 (gamehalllaw3_patternFault.l0 kq l1_2 (l1_2.length : Int) x47_2 a0_0 a0_1 a0_2 l0_3 l0_4 a0_5 a0_6 l0_7 a0_8 a0_9 a0_10 a1_0 a1_1 l1_2 a1_3 = some r) ∧ Aside0 (kq ≤ kj4) ∧ Aside0 (w'.heap[gb259]? = some (.cells #[.string a0_0, .int .i64 a0_1, .int .i64 a0_2, (.slice A0_3 l0_3.length c0_3), (.slice A0_4 l0_4.length c0_4), .bool a0_5, .bool a0_6, (.slice A0_7 l0_7.length c0_7), .int .i64 a0_8, .int .i64 a0_9, .int .i64 a0_10] 44 (0, 0))) ∧ Aside0 (w'.heap[gb260]? = some (.cells #[.int .i64 a1_0, .int .i64 a1_1, (.slice A1_2 l1_2.length c1_2), .int .i64 a1_3] 49 (0, 0))) ∧ Aside0 (Below w.heap.size w w'))
      case atStart => exact ⟨(0), (xrf), H', ⟨Nat.le_refl _⟩, ⟨xK BK259⟩, ⟨xK BK260⟩, ⟨xW HB⟩⟩
      case round =>
       clear H'; (try clear p2); (try clear p6); (try clear p2)
       obtain ⟨x47_2, rfl, HA, HK2, BK259, BK260, HB⟩ := hrel
       cases gk with
       | zero => exact absurd HA.out (by simp [gamehalllaw3_patternFault.l0])
       | succ k2 =>
        have H := HA.out; clear HA
        simp only [gamehalllaw3_patternFault.l0] at H
        by_cases c29 : x47_2 < (l1_2.length : Int)
        ·refine box_ ?g27;letI i:type_of% ?g27:=⟨by
         rw [if_pos c29] at H
         have c29b0 : decide (x47_2 < (l1_2.length : Int)) = true := decide_eq_true c29
         clear c29
         by_cases c30 : 0 ≤ x47_2
         ·refine box_ ?g28;letI i:type_of% ?g28:=⟨by
          rw [if_pos c30] at H
          have c30b0 : decide (0 ≤ x47_2) = true := decide_eq_true c30
          clear c30
          by_cases c31 : x47_2 < (l1_2.length : Int)
          ·refine box_ ?g29;letI i:type_of% ?g29:=⟨by
           rw [if_pos c31] at H
           have c31b0 : decide (x47_2 < (l1_2.length : Int)) = true := decide_eq_true c31
           clear c31
           by_cases c32 : (rd l1_2 x47_2) < (-3)
           ·rw [if_pos c32] at H
            have c32b0 : decide ((rd l1_2 x47_2) < (-3)) = true := decide_eq_true c32
            clear c32
            obtain rfl := Option.some.inj H
            have p262 : 0 ≤ (x47_2 : Int) := of_decide_eq_true (by first | (with_reducible assumption) | assumption)
            have q262 : x47_2 < (l1_2.length : Int) := of_decide_eq_true (by first | (with_reducible assumption) | assumption)
            obtain ⟨ad262, e262, hx262_0⟩ := Kd.at_int HR1_2.out x47_2 p262 q262
            cases e262
            replace hx262_0 := (HB.out.cell (World.block_lt_of_cell? w _ hx262_0)).trans hx262_0; replace p262 := eq_true p262; replace q262 := eq_true q262
            go_wp2
            go_ret
            exact ⟨xer, xW HB⟩
           ·refine box_ ?g30;letI i:type_of% ?g30:=⟨by
            rw [if_neg c32] at H
            have c32b0 : decide ((rd l1_2 x47_2) < (-3)) = false := decide_eq_false c32
            clear c32
            by_cases c33 : (rd l1_2 x47_2) > (wrap64 (2 * (l0_3.length : Int)))
            ·rw [if_pos c33] at H
             have c33b0 : decide ((wrap64 (2 * (l0_3.length : Int))) < (rd l1_2 x47_2)) = true := decide_eq_true c33
             clear c33
             obtain rfl := Option.some.inj H
             have p262 : 0 ≤ (x47_2 : Int) := of_decide_eq_true (by first | (with_reducible assumption) | assumption)
             have q262 : x47_2 < (l1_2.length : Int) := of_decide_eq_true (by first | (with_reducible assumption) | assumption)
             obtain ⟨ad262, e262, hx262_0⟩ := Kd.at_int HR1_2.out x47_2 p262 q262
             cases e262
             replace hx262_0 := (HB.out.cell (World.block_lt_of_cell? w _ hx262_0)).trans hx262_0; replace p262 := eq_true p262; replace q262 := eq_true q262; have hcz35_0 := blkc11 BK259.out
             go_wp2
             go_ret
             exact ⟨xer, xW HB⟩
            ·rw [if_neg c33] at H
             have c33b0 : decide ((wrap64 (2 * (l0_3.length : Int))) < (rd l1_2 x47_2)) = false := decide_eq_false c33
             clear c33
             have H' := Aside0.mk H
             clear H
             have p262 : 0 ≤ (x47_2 : Int) := of_decide_eq_true (by first | (with_reducible assumption) | assumption)
             have q262 : x47_2 < (l1_2.length : Int) := of_decide_eq_true (by first | (with_reducible assumption) | assumption)
             obtain ⟨ad262, e262, hx262_0⟩ := Kd.at_int HR1_2.out x47_2 p262 q262
             cases e262
             replace hx262_0 := (HB.out.cell (World.block_lt_of_cell? w _ hx262_0)).trans hx262_0; replace p262 := eq_true p262; replace q262 := eq_true q262; have hcz37_0 := blkc11 BK259.out
             go_wp2
             go_roundg k2
             case measure => have := HJ4.out; have := HK2.out; omega
             case rel => exact ⟨(wrap64 (x47_2 + 1)), (xrf), H', ⟨by have := HJ4.out; have := HK2.out; omega⟩, ⟨xK BK259⟩, ⟨xK BK260⟩, ⟨xW HB⟩⟩⟩
            exact inferInstanceAs _⟩
           exact inferInstanceAs _
          ·rw [if_neg c31] at H
           exact absurd H (by simp)⟩
          exact inferInstanceAs _
         ·rw [if_neg c30] at H
          exact absurd H (by simp)⟩
         exact inferInstanceAs _
        ·refine box_ ?g31;letI i:type_of% ?g31:=⟨by
         rw [if_neg c29] at H
         have c29b0 : decide (x47_2 < (l1_2.length : Int)) = false := decide_eq_false c29
         clear c29
         by_cases c38 : a1_3 < (-1)
         ·rw [if_pos c38] at H
          have c38b0 : decide (a1_3 < (-1)) = true := decide_eq_true c38
          clear c38
          obtain rfl := Option.some.inj H
          have hcz40_0 := blkc4 BK260.out
          go_wp2
          go_ret
          exact ⟨xer, xW HB⟩
         ·rw [if_neg c38] at H
          have c38b0 : decide (a1_3 < (-1)) = false := decide_eq_false c38
          clear c38
          by_cases c41 : a1_3 > 1
          ·rw [if_pos c41] at H
           have c41b0 : decide (1 < a1_3) = true := decide_eq_true c41
           clear c41
           obtain rfl := Option.some.inj H
           have hcz43_0 := blkc4 BK260.out
           go_wp2
           go_ret
           exact ⟨xer, xW HB⟩
          ·rw [if_neg c41] at H
           have c41b0 : decide (1 < a1_3) = false := decide_eq_false c41
           clear c41
           obtain rfl := Option.some.inj H
           have hcz45_0 := blkc4 BK260.out
           go_wp2
           go_ret
           exact ⟨xer, xW HB⟩⟩
         exact inferInstanceAs _⟩
      exact inferInstanceAs _
     ·rw [if_neg c26] at H
      have c26b0 : ((l1_2.length : Int) == (wrap64 (a1_0 * a1_1))) = false := beq_eq_false_iff_ne.mpr c26
      have c26b1 : ((l1_2.length : Int) != (wrap64 (a1_0 * a1_1))) = true := bne_iff_ne.mpr c26
      obtain rfl := Option.some.inj H
      have hcz47_0 := blkc4 BK260.out
      go_wp2
      go_ret
      exact ⟨xer, xW HB⟩⟩
   exact inferInstanceAs _⟩
  exact inferInstanceAs _
 ·rw [if_neg c4] at H
  have c4b0 : (t261 == 0) = false := beq_eq_false_iff_ne.mpr c4
  have c4b1 : (t261 != 0) = true := bne_iff_ne.mpr c4
  obtain rfl := Option.some.inj H
  go_enter Try.func16, Try.ntmps16
  go_wp2_with (first | ((with_reducible refine gate_dst (N := 2) rfl ?_); (try (refine gate_guard (by rfl) ?_; dsimp only)); refine box_event ?hg (N := 2) ?hd (cs := #[.string a0_0, .int .i64 a0_1, .int .i64 a0_2, .slice A0_3 l0_3.length c0_3, .slice A0_4 l0_4.length c0_4, .bool a0_5, .bool a0_6, .slice A0_7 l0_7.length c0_7, .int .i64 a0_8, .int .i64 a0_9, .int .i64 a0_10]) (t := 44) ?hr ?_; (case hd => rfl); (case hg => rfl); (case hr => first | (go_simp; done) | (go_simp; rfl)); intro gb259 hg w48 hbox hb; have BK259 := Aside0.mk (hbox); have GW259 := Aside0.mk (xZ HB hg); have GE259 := Aside0.mk (xZ HB hg); replace HB := Aside0.mk (xS HB hb); clear hb hbox hg) | ((with_reducible refine gate_dst (N := 3) rfl ?_); (try (refine gate_guard (by rfl) ?_; dsimp only)); refine box_event ?hg (N := 3) ?hd (cs := #[.int .i64 a1_0, .int .i64 a1_1, .slice A1_2 l1_2.length c1_2, .int .i64 a1_3]) (t := 49) ?hr ?_; (case hd => rfl); (case hg => rfl); (case hr => first | (go_simp; done) | (go_simp; rfl)); intro gb260 hg w49 hbox hb; have BK260 := Aside0.mk (hbox); have GW260 := Aside0.mk (xZ HB hg); have GE260 := Aside0.mk (xZ HB hg); have NB259_260 := Aside0.mk (xN BK259 hg); have NB260_259 := Aside0.mk (xM BK259 hg); replace BK259 := Aside0.mk (xB BK259 hb); replace HB := Aside0.mk (xS HB hb); clear hb hbox hg; have hnb50 := xne7 NB259_260; have hnc50 := xne7 NB260_259; have hcz51_0 := blkc11 BK259.out) | ((with_reducible refine gate_callee (f := 36) rfl ?_); refine goesL_ (some 9) rfl rfl Try.func36 kr_ rfl #[.agg #[.string a0_0, .int .i64 a0_1, .int .i64 a0_2, .slice A0_3 l0_3.length c0_3, .slice A0_4 l0_4.length c0_4, .bool a0_5, .bool a0_6, .slice A0_7 l0_7.length c0_7, .int .i64 a0_8, .int .i64 a0_9, .int .i64 a0_10]] rfl (by (try simp only [List.map_toArray, List.map_cons, List.map_nil]); first | done | rfl | (simp only [List.length_drop, List.length_take]; rfl)) ?_; (with_reducible refine (rules_Check.calls k a0_0 a0_1 a0_2 _ _ l0_3 _ _ l0_4 a0_5 a0_6 _ _ l0_7 a0_8 a0_9 a0_10 t261 _ ?side1 ?side2 ?side3 ?side4 ?side5 ?side6 A3.out).mono ?_); (case side1 => exact xC (Kd.C_below HR0_3.out HB.out)); (case side2 => exact HC0_3.out); (case side3 => exact xC (Kd.C_below HR0_4.out HB.out)); (case side4 => exact HC0_4.out); (case side5 => exact xC (Kd.C_below HR0_7.out HB.out)); (case side6 => exact HC0_7.out); rintro e w52 ⟨rfl, hb⟩; refine ⟨_, rfl, ?_⟩; replace BK259 := Aside0.mk (xB BK259 hb); replace BK260 := Aside0.mk (xB BK260 hb); replace HB := Aside0.mk (xS HB hb); (try clear hb); (try clear hb2); (try clear hk); (try clear hi)))
  go_ret
  exact ⟨xer, xW HB⟩

end Go.Proofs.Ytemfkhafkhkffaa.PPatternCuts
