-- Printed by a program of this claim's writer (wip/ext): an extension of the kit's print.
import Derived.Test.YtemfkhafkhkffaaPPatternCutsx0
import Derived.Test.YtemfkhafkhkffaaPPatternCutsx3
namespace Go.Proofs.Ytemfkhafkhkffaa.PPatternCuts
open Go.RowKit Go.Proofs.YtemfkhafkhkffaaW.PrintWords Go.Proofs.YtemfkhafkhkffaaW.PrintLast Go.Proofs.YtemfkhafkhkffaaW.PrintMore
attribute [local go_sem] max2_int min2_int max_two min_two max_three min_three max_four min_four   -- for this text's walks alone
set_option linter.unusedVariables false
set_option linter.unusedSimpArgs false

/-! ### place_Check: function 17 -/
mutual
def place_Check.j0 : Nat → Bool → ByteArray → Int → Int → List (S101) → List Int → Bool → Bool → List (S103) → Int → Int → Int → List Int → List Int → List Int → Int → Int → Option (Int)
  | 0, _, _, _, _, _, _, _, _, _, _, _, _, _, _, _, _, _ => none
  | k + 1, x45, z166a, z166b, z166c, z166d, z166e, z166f, z166g, z166h, z166i, z166j, z166k, z167a, z167b, z167c, z167d, z167e => if x45 = true then (some 3) else (place_Check.l0 k z167a (z167a.length : Int) 0 z166a z166b z166c z166d z166e z166f z166g z166h z166i z166j z166k z167a z167b z167c z167d z167e)
def place_Check.l0 : Nat → List Int → Int → Int → ByteArray → Int → Int → List (S101) → List Int → Bool → Bool → List (S103) → Int → Int → Int → List Int → List Int → List Int → Int → Int → Option (Int)
  | 0, _, _, _, _, _, _, _, _, _, _, _, _, _, _, _, _, _, _, _ => none
  | k + 1, x47, x48, x49, z166a, z166b, z166c, z166d, z166e, z166f, z166g, z166h, z166i, z166j, z166k, z167a, z167b, z167c, z167d, z167e => if x49 < x48 then (if 0 ≤ x49 then (if x49 < (x47.length : Int) then (if (rd x47 x49) < 0 then (some 4) else (if (rd x47 x49) > (wrap64 (2 * (z166d.length : Int))) then (some 4) else (place_Check.l0 k x47 x48 (wrap64 (x49 + 1)) z166a z166b z166c z166d z166e z166f z166g z166h z166i z166j z166k z167a z167b z167c z167d z167e))) else (none)) else (none)) else (place_Check.l1 k 0 z167b z167c z167a z167b z167c z167d z167e)
def place_Check.l1 : Nat → Int → List Int → List Int → List Int → List Int → List Int → Int → Int → Option (Int)
  | 0, _, _, _, _, _, _, _, _ => none
  | k + 1, x66, x101, x102, z167a, z167b, z167c, z167d, z167e => if x66 < 2 then (if 0 ≤ x66 then (if x66 = 0 then (place_Check.j3 k x101 x66 x101 x102 z167a z167b z167c z167d z167e) else (place_Check.j3 k x102 x66 x101 x102 z167a z167b z167c z167d z167e)) else (none)) else (if z167d = 0 then (if z167e < 0 then (some 4) else (if z167e > 200 then (some 4) else (some 0))) else (if z167d = 1 then (if z167e < 0 then (some 4) else (if z167e > 200 then (some 4) else (some 0))) else (some 4)))
def place_Check.j3 : Nat → List Int → Int → List Int → List Int → List Int → List Int → List Int → Int → Int → Option (Int)
  | 0, _, _, _, _, _, _, _, _, _ => none
  | k + 1, x9, x66, x101, x102, z167a, z167b, z167c, z167d, z167e => place_Check.l2 k x66 x9 (x9.length : Int) 0 x101 x102 z167a z167b z167c z167d z167e
def place_Check.l2 : Nat → Int → List Int → Int → Int → List Int → List Int → List Int → List Int → List Int → Int → Int → Option (Int)
  | 0, _, _, _, _, _, _, _, _, _, _, _ => none
  | k + 1, x66, x69, x70, x71, x101, x102, z167a, z167b, z167c, z167d, z167e => if x71 < x70 then (if 0 ≤ x71 then (if x71 < (x69.length : Int) then (if (rd x69 x71) < 0 then (some 4) else (if (rd x69 x71) > 1000 then (some 4) else (place_Check.l2 k x66 x69 x70 (wrap64 (x71 + 1)) x101 x102 z167a z167b z167c z167d z167e))) else (none)) else (none)) else (place_Check.l1 k (wrap64 (x66 + 1)) x101 x102 z167a z167b z167c z167d z167e)
end
def place_Check.f (k : Nat) (a0_0 : ByteArray) (a0_1 : Int) (a0_2 : Int) (l0_3 : List (S101)) (l0_4 : List Int) (a0_5 : Bool) (a0_6 : Bool) (l0_7 : List (S103)) (a0_8 : Int) (a0_9 : Int) (a0_10 : Int) (l1_0 : List Int) (l1_1 : List Int) (l1_2 : List Int) (a1_3 : Int) (a1_4 : Int) : Option (Int) := (rules_Check.f k a0_0 a0_1 a0_2 l0_3 l0_4 a0_5 a0_6 l0_7 a0_8 a0_9 a0_10).bind fun t167 => (if t167 = 0 then (if (l1_0.length : Int) = (wrap64 (a0_1 * a0_2)) then (if (l1_1.length : Int) = (l0_3.length : Int) then (place_Check.j0 k ((l1_2.length : Int) != (l0_3.length : Int)) a0_0 a0_1 a0_2 l0_3 l0_4 a0_5 a0_6 l0_7 a0_8 a0_9 a0_10 l1_0 l1_1 l1_2 a1_3 a1_4) else (place_Check.j0 k true a0_0 a0_1 a0_2 l0_3 l0_4 a0_5 a0_6 l0_7 a0_8 a0_9 a0_10 l1_0 l1_1 l1_2 a1_3 a1_4)) else (place_Check.j0 k true a0_0 a0_1 a0_2 l0_3 l0_4 a0_5 a0_6 l0_7 a0_8 a0_9 a0_10 l1_0 l1_1 l1_2 a1_3 a1_4)) else (some t167))
theorem place_Check.mono_l : ∀ k, (∀ y0 y1 y2 y3 y4 y5 y6 y7 y8 y9 y10 y11 y12 y13 y14 y15 y16, LeO (place_Check.j0 k y0 y1 y2 y3 y4 y5 y6 y7 y8 y9 y10 y11 y12 y13 y14 y15 y16) (place_Check.j0 (k + 1) y0 y1 y2 y3 y4 y5 y6 y7 y8 y9 y10 y11 y12 y13 y14 y15 y16)) ∧ (∀ y0 y1 y2 y3 y4 y5 y6 y7 y8 y9 y10 y11 y12 y13 y14 y15 y16 y17 y18, LeO (place_Check.l0 k y0 y1 y2 y3 y4 y5 y6 y7 y8 y9 y10 y11 y12 y13 y14 y15 y16 y17 y18) (place_Check.l0 (k + 1) y0 y1 y2 y3 y4 y5 y6 y7 y8 y9 y10 y11 y12 y13 y14 y15 y16 y17 y18)) ∧ (∀ y0 y1 y2 y3 y4 y5 y6 y7, LeO (place_Check.l1 k y0 y1 y2 y3 y4 y5 y6 y7) (place_Check.l1 (k + 1) y0 y1 y2 y3 y4 y5 y6 y7)) ∧ (∀ y0 y1 y2 y3 y4 y5 y6 y7 y8, LeO (place_Check.j3 k y0 y1 y2 y3 y4 y5 y6 y7 y8) (place_Check.j3 (k + 1) y0 y1 y2 y3 y4 y5 y6 y7 y8)) ∧ (∀ y0 y1 y2 y3 y4 y5 y6 y7 y8 y9 y10, LeO (place_Check.l2 k y0 y1 y2 y3 y4 y5 y6 y7 y8 y9 y10) (place_Check.l2 (k + 1) y0 y1 y2 y3 y4 y5 y6 y7 y8 y9 y10))
  | 0 => ⟨fun _ _ _ _ _ _ _ _ _ _ _ _ _ _ _ _ _ r h => by simp [place_Check.j0] at h, fun _ _ _ _ _ _ _ _ _ _ _ _ _ _ _ _ _ _ _ r h => by simp [place_Check.l0] at h, fun _ _ _ _ _ _ _ _ r h => by simp [place_Check.l1] at h, fun _ _ _ _ _ _ _ _ _ r h => by simp [place_Check.j3] at h, fun _ _ _ _ _ _ _ _ _ _ _ r h => by simp [place_Check.l2] at h⟩
  | k + 1 => by
    obtain ⟨ih0, ih1, ih2, ih3, ih4⟩ := place_Check.mono_l k
    refine ⟨?_, ?_, ?_, ?_, ?_⟩
    · intros
      unfold place_Check.j0
      repeat' first
      | (with_reducible apply ih0)
      | (with_reducible apply ih1)
      | (with_reducible apply ih2)
      | (with_reducible apply ih3)
      | (with_reducible apply ih4)
      | (with_reducible apply rules_Check.mono)
      | (with_reducible exact LeO.refl _)
      | (with_reducible exact LeO.none _)
      | (with_reducible refine LeO.ite ?_ ?_)
      | (with_reducible refine LeO.bind ?_ (fun _ => ?_))
      | apply ih0
      | apply ih1
      | apply ih2
      | apply ih3
      | apply ih4
      | apply rules_Check.mono
      | exact LeO.none _
      | refine LeO.ite ?_ ?_
      | refine LeO.bind ?_ (fun _ => ?_)
    · intros
      unfold place_Check.l0
      repeat' first
      | (with_reducible apply ih0)
      | (with_reducible apply ih1)
      | (with_reducible apply ih2)
      | (with_reducible apply ih3)
      | (with_reducible apply ih4)
      | (with_reducible apply rules_Check.mono)
      | (with_reducible exact LeO.refl _)
      | (with_reducible exact LeO.none _)
      | (with_reducible refine LeO.ite ?_ ?_)
      | (with_reducible refine LeO.bind ?_ (fun _ => ?_))
      | apply ih0
      | apply ih1
      | apply ih2
      | apply ih3
      | apply ih4
      | apply rules_Check.mono
      | exact LeO.none _
      | refine LeO.ite ?_ ?_
      | refine LeO.bind ?_ (fun _ => ?_)
    · intros
      unfold place_Check.l1
      repeat' first
      | (with_reducible apply ih0)
      | (with_reducible apply ih1)
      | (with_reducible apply ih2)
      | (with_reducible apply ih3)
      | (with_reducible apply ih4)
      | (with_reducible apply rules_Check.mono)
      | (with_reducible exact LeO.refl _)
      | (with_reducible exact LeO.none _)
      | (with_reducible refine LeO.ite ?_ ?_)
      | (with_reducible refine LeO.bind ?_ (fun _ => ?_))
      | apply ih0
      | apply ih1
      | apply ih2
      | apply ih3
      | apply ih4
      | apply rules_Check.mono
      | exact LeO.none _
      | refine LeO.ite ?_ ?_
      | refine LeO.bind ?_ (fun _ => ?_)
    · intros
      unfold place_Check.j3
      repeat' first
      | (with_reducible apply ih0)
      | (with_reducible apply ih1)
      | (with_reducible apply ih2)
      | (with_reducible apply ih3)
      | (with_reducible apply ih4)
      | (with_reducible apply rules_Check.mono)
      | (with_reducible exact LeO.refl _)
      | (with_reducible exact LeO.none _)
      | (with_reducible refine LeO.ite ?_ ?_)
      | (with_reducible refine LeO.bind ?_ (fun _ => ?_))
      | apply ih0
      | apply ih1
      | apply ih2
      | apply ih3
      | apply ih4
      | apply rules_Check.mono
      | exact LeO.none _
      | refine LeO.ite ?_ ?_
      | refine LeO.bind ?_ (fun _ => ?_)
    · intros
      unfold place_Check.l2
      repeat' first
      | (with_reducible apply ih0)
      | (with_reducible apply ih1)
      | (with_reducible apply ih2)
      | (with_reducible apply ih3)
      | (with_reducible apply ih4)
      | (with_reducible apply rules_Check.mono)
      | (with_reducible exact LeO.refl _)
      | (with_reducible exact LeO.none _)
      | (with_reducible refine LeO.ite ?_ ?_)
      | (with_reducible refine LeO.bind ?_ (fun _ => ?_))
      | apply ih0
      | apply ih1
      | apply ih2
      | apply ih3
      | apply ih4
      | apply rules_Check.mono
      | exact LeO.none _
      | refine LeO.ite ?_ ?_
      | refine LeO.bind ?_ (fun _ => ?_)
theorem place_Check.mono : ∀ a0 a1 a2 a3 a4 a5 a6 a7 a8 a9 a10 a11 a12 a13 a14 a15 k, LeO (place_Check.f k a0 a1 a2 a3 a4 a5 a6 a7 a8 a9 a10 a11 a12 a13 a14 a15) (place_Check.f (k + 1) a0 a1 a2 a3 a4 a5 a6 a7 a8 a9 a10 a11 a12 a13 a14 a15) := by
  intro a0 a1 a2 a3 a4 a5 a6 a7 a8 a9 a10 a11 a12 a13 a14 a15 k
  obtain ⟨ih0, ih1, ih2, ih3, ih4⟩ := place_Check.mono_l k
  unfold place_Check.f
  repeat' first
      | (with_reducible apply ih0)
      | (with_reducible apply ih1)
      | (with_reducible apply ih2)
      | (with_reducible apply ih3)
      | (with_reducible apply ih4)
      | (with_reducible apply rules_Check.mono)
      | (with_reducible exact LeO.refl _)
      | (with_reducible exact LeO.none _)
      | (with_reducible refine LeO.ite ?_ ?_)
      | (with_reducible refine LeO.bind ?_ (fun _ => ?_))
      | apply ih0
      | apply ih1
      | apply ih2
      | apply ih3
      | apply ih4
      | apply rules_Check.mono
      | exact LeO.none _
      | refine LeO.ite ?_ ?_
      | refine LeO.bind ?_ (fun _ => ?_)
set_option maxHeartbeats 8000000 in
set_option maxRecDepth 100000 in
theorem place_Check.calls (k : Nat) (a0_0 : ByteArray) (a0_1 : Int) (a0_2 : Int) (A0_3 : Option Addr) (c0_3 : Nat) (l0_3 : List (S101)) (A0_4 : Option Addr) (c0_4 : Nat) (l0_4 : List Int) (a0_5 : Bool) (a0_6 : Bool) (A0_7 : Option Addr) (c0_7 : Nat) (l0_7 : List (S103)) (a0_8 : Int) (a0_9 : Int) (a0_10 : Int) (A1_0 : Option Addr) (c1_0 : Nat) (l1_0 : List Int) (A1_1 : Option Addr) (c1_1 : Nat) (l1_1 : List Int) (A1_2 : Option Addr) (c1_2 : Nat) (l1_2 : List Int) (a1_3 : Int) (a1_4 : Int) (r : Int) (w : World) (hr0_3 : Kd.C k101 w A0_3 l0_3.length l0_3) (hc0_3 : l0_3.length ≤ c0_3) (hr0_4 : Kd.C (Kd.int .i64) w A0_4 l0_4.length l0_4) (hc0_4 : l0_4.length ≤ c0_4) (hr0_7 : Kd.C k103 w A0_7 l0_7.length l0_7) (hc0_7 : l0_7.length ≤ c0_7) (hr1_0 : Kd.C (Kd.int .i64) w A1_0 l1_0.length l1_0) (hc1_0 : l1_0.length ≤ c1_0) (hr1_1 : Kd.C (Kd.int .i64) w A1_1 l1_1.length l1_1) (hc1_1 : l1_1.length ≤ c1_1) (hr1_2 : Kd.C (Kd.int .i64) w A1_2 l1_2.length l1_2) (hc1_2 : l1_2.length ≤ c1_2) (h : place_Check.f k a0_0 a0_1 a0_2 l0_3 l0_4 a0_5 a0_6 l0_7 a0_8 a0_9 a0_10 l1_0 l1_1 l1_2 a1_3 a1_4 = some r) :
    Calls Try.prog 17 #[.agg #[.string a0_0, .int .i64 a0_1, .int .i64 a0_2, .slice A0_3 l0_3.length c0_3, .slice A0_4 l0_4.length c0_4, .bool a0_5, .bool a0_6, .slice A0_7 l0_7.length c0_7, .int .i64 a0_8, .int .i64 a0_9, .int .i64 a0_10], .agg #[.slice A1_0 l1_0.length c1_0, .slice A1_1 l1_1.length c1_1, .slice A1_2 l1_2.length c1_2, .int .i64 a1_3, .int .i64 a1_4]] w fun e w' => e = .returned (.int .i64 r) ∧ Below w.heap.size w w' := by
 have hu44 := Try.underlying44; have hu47 := Try.underlying47; have hu45 := Try.underlying45; have HR0_3 := Aside0.mk hr0_3; have HC0_3 := Aside0.mk hc0_3; clear hr0_3 hc0_3; have HR0_4 := Aside0.mk hr0_4; have HC0_4 := Aside0.mk hc0_4; clear hr0_4 hc0_4; have HR0_7 := Aside0.mk hr0_7; have HC0_7 := Aside0.mk hc0_7; clear hr0_7 hc0_7; have HR1_0 := Aside0.mk hr1_0; have HC1_0 := Aside0.mk hc1_0; clear hr1_0 hc1_0; have HR1_1 := Aside0.mk hr1_1; have HC1_1 := Aside0.mk hc1_1; clear hr1_1 hc1_1; have HR1_2 := Aside0.mk hr1_2; have HC1_2 := Aside0.mk hc1_2; clear hr1_2 hc1_2; have HB := Aside0.mk (Below.refl w.heap.size w); have hss_ := @isSome_setCell
 have H : ((rules_Check.f k a0_0 a0_1 a0_2 l0_3 l0_4 a0_5 a0_6 l0_7 a0_8 a0_9 a0_10).bind fun t167 => (if t167 = 0 then (if (l1_0.length : Int) = (wrap64 (a0_1 * a0_2)) then (if (l1_1.length : Int) = (l0_3.length : Int) then (place_Check.j0 k ((l1_2.length : Int) != (l0_3.length : Int)) a0_0 a0_1 a0_2 l0_3 l0_4 a0_5 a0_6 l0_7 a0_8 a0_9 a0_10 l1_0 l1_1 l1_2 a1_3 a1_4) else (place_Check.j0 k true a0_0 a0_1 a0_2 l0_3 l0_4 a0_5 a0_6 l0_7 a0_8 a0_9 a0_10 l1_0 l1_1 l1_2 a1_3 a1_4)) else (place_Check.j0 k true a0_0 a0_1 a0_2 l0_3 l0_4 a0_5 a0_6 l0_7 a0_8 a0_9 a0_10 l1_0 l1_1 l1_2 a1_3 a1_4)) else (some t167))) = some r := h
 clear h; replace H := Option.bind_eq_some_iff.mp H
 obtain ⟨t167, A30, H⟩ := H
 try dsimp only at H
 have A3 := Aside0.mk A30; clear A30
 by_cases c4 : t167 = 0
 ·rw [if_pos c4] at H
  have c4b0 : (t167 == 0) = true := beq_iff_eq.mpr c4
  have c4b1 : (t167 != 0) = false := bne_eq_false_iff_eq.mpr c4
  clear c4; have HC5 := Aside0.mk H; clear H
  go_enter Try.func17, Try.ntmps17
  go_upto_region 4 with (first | ((with_reducible refine gate_dst (N := 2) rfl ?_); (try (refine gate_guard (by rfl) ?_; dsimp only)); refine box_event ?hg (N := 2) ?hd (cs := #[.string a0_0, .int .i64 a0_1, .int .i64 a0_2, .slice A0_3 l0_3.length c0_3, .slice A0_4 l0_4.length c0_4, .bool a0_5, .bool a0_6, .slice A0_7 l0_7.length c0_7, .int .i64 a0_8, .int .i64 a0_9, .int .i64 a0_10]) (t := 44) ?hr ?_; (case hd => rfl); (case hg => rfl); (case hr => first | (go_simp; done) | (go_simp; rfl)); intro gb165 hg w6 hbox hb; have BK165 := Aside0.mk (hbox); have GW165 := Aside0.mk (xZ HB hg); have GE165 := Aside0.mk (xZ HB hg); replace HB := Aside0.mk (xS HB hb); clear hb hbox hg) | ((with_reducible refine gate_dst (N := 3) rfl ?_); (try (refine gate_guard (by rfl) ?_; dsimp only)); refine box_event ?hg (N := 3) ?hd (cs := #[.slice A1_0 l1_0.length c1_0, .slice A1_1 l1_1.length c1_1, .slice A1_2 l1_2.length c1_2, .int .i64 a1_3, .int .i64 a1_4]) (t := 47) ?hr ?_; (case hd => rfl); (case hg => rfl); (case hr => first | (go_simp; done) | (go_simp; rfl)); intro gb166 hg w7 hbox hb; have BK166 := Aside0.mk (hbox); have GW166 := Aside0.mk (xZ HB hg); have GE166 := Aside0.mk (xZ HB hg); have NB165_166 := Aside0.mk (xN BK165 hg); have NB166_165 := Aside0.mk (xM BK165 hg); replace BK165 := Aside0.mk (xB BK165 hb); replace HB := Aside0.mk (xS HB hb); clear hb hbox hg; have hnb8 := NB165_166.out; have hnc8 := NB166_165.out; have hcz9_0 := blkc11 BK165.out) | ((with_reducible refine gate_callee (f := 36) rfl ?_); refine goesL_ (some 13) rfl rfl Try.func36 (by kernel_rfl) rfl #[.agg #[.string a0_0, .int .i64 a0_1, .int .i64 a0_2, .slice A0_3 l0_3.length c0_3, .slice A0_4 l0_4.length c0_4, .bool a0_5, .bool a0_6, .slice A0_7 l0_7.length c0_7, .int .i64 a0_8, .int .i64 a0_9, .int .i64 a0_10]] rfl (by (try simp only [List.map_toArray, List.map_cons, List.map_nil]); first | done | rfl | (simp only [List.length_drop, List.length_take]; rfl)) ?_; (with_reducible refine (rules_Check.calls k a0_0 a0_1 a0_2 _ _ l0_3 _ _ l0_4 a0_5 a0_6 _ _ l0_7 a0_8 a0_9 a0_10 t167 _ ?side1 ?side2 ?side3 ?side4 ?side5 ?side6 A3.out).mono ?_); (case side1 => exact xC (Kd.C_below HR0_3.out HB.out)); (case side2 => exact HC0_3.out); (case side3 => exact xC (Kd.C_below HR0_4.out HB.out)); (case side4 => exact HC0_4.out); (case side5 => exact xC (Kd.C_below HR0_7.out HB.out)); (case side6 => exact HC0_7.out); rintro e w10 ⟨rfl, hb⟩; refine ⟨_, rfl, ?_⟩; replace BK165 := Aside0.mk (xB BK165 hb); replace BK166 := Aside0.mk (xB BK166 hb); replace HB := Aside0.mk (xS HB hb); (try clear hb); (try clear hb2); (try clear hk); (try clear hi)))
  (try have hq166_165 := NB166_165.out); (try have hq165_166 := NB165_166.out)
  (try simp only [Act.put, List.setIfInBounds_toArray, List.set_cons_zero, List.set_cons_succ])
  go_cut [45] (fun vs45 wc => ∃ (kq : Nat) (x45_4 : Bool), vs45 = .bool x45_4 ∧ Aside0 (place_Check.j0 kq x45_4 a0_0 a0_1 a0_2 l0_3 l0_4 a0_5 a0_6 l0_7 a0_8 a0_9 a0_10 l1_0 l1_1 l1_2 a1_3 a1_4 = some r) ∧ Aside0 (kq ≤ k) ∧ Aside0 (wc.heap[gb165]? = some (.cells #[.string a0_0, .int .i64 a0_1, .int .i64 a0_2, (.slice A0_3 l0_3.length c0_3), (.slice A0_4 l0_4.length c0_4), .bool a0_5, .bool a0_6, (.slice A0_7 l0_7.length c0_7), .int .i64 a0_8, .int .i64 a0_9, .int .i64 a0_10] 44 (0, 0))) ∧ Aside0 (wc.heap[gb166]? = some (.cells #[(.slice A1_0 l1_0.length c1_0), (.slice A1_1 l1_1.length c1_1), (.slice A1_2 l1_2.length c1_2), .int .i64 a1_3, .int .i64 a1_4] 47 (0, 0))) ∧ Aside0 (Below w.heap.size w wc))
  case first =>
   have H := HC5.out; clear HC5
   by_cases c11 : (l1_0.length : Int) = (wrap64 (a0_1 * a0_2))
   ·rw [if_pos c11] at H
    have c11b0 : ((l1_0.length : Int) == (wrap64 (a0_1 * a0_2))) = true := beq_iff_eq.mpr c11
    have c11b1 : ((l1_0.length : Int) != (wrap64 (a0_1 * a0_2))) = false := bne_eq_false_iff_eq.mpr c11
    clear c11
    (first | rw [c11b0] | (simp only [i64_w, i32_w]; rw [c11b0]) | skip)
    by_cases c12 : (l1_1.length : Int) = (l0_3.length : Int)
    ·rw [if_pos c12] at H
     have c12b0 : ((l1_1.length : Int) == (l0_3.length : Int)) = true := beq_iff_eq.mpr c12
     have c12b1 : ((l1_1.length : Int) != (l0_3.length : Int)) = false := bne_eq_false_iff_eq.mpr c12
     have c12b2 : (l1_1.length == l0_3.length) = true := by first | simpa using c12 | (simp at c12 ⊢; omega)
     clear c12
     have H' := Aside0.mk H
     clear H; have hcz14_0 := blkc5 BK166.out; have hcz15_0 := blkc11 BK165.out
     go_wp2
     go_meet
     case rel => exact ⟨_, (((l1_2.length : Int) != (l0_3.length : Int))), (xrf), H', ⟨by first | omega | exact Nat.le_refl _⟩, ⟨xK BK165⟩, ⟨xK BK166⟩, ⟨xW HB⟩⟩
    ·rw [if_neg c12] at H
     have c12b0 : ((l1_1.length : Int) == (l0_3.length : Int)) = false := beq_eq_false_iff_ne.mpr c12
     have c12b1 : ((l1_1.length : Int) != (l0_3.length : Int)) = true := bne_iff_ne.mpr c12
     have c12b2 : (l1_1.length == l0_3.length) = false := by first | simpa using c12 | (simp at c12 ⊢; omega)
     have H' := Aside0.mk H
     clear H; have hcz17_0 := blkc5 BK166.out; have hcz18_0 := blkc11 BK165.out
     go_wp2
     go_meet
     case rel => exact ⟨_, (true), (xrf), H', ⟨by first | omega | exact Nat.le_refl _⟩, ⟨xK BK165⟩, ⟨xK BK166⟩, ⟨xW HB⟩⟩
   ·rw [if_neg c11] at H
    have c11b0 : ((l1_0.length : Int) == (wrap64 (a0_1 * a0_2))) = false := beq_eq_false_iff_ne.mpr c11
    have c11b1 : ((l1_0.length : Int) != (wrap64 (a0_1 * a0_2))) = true := bne_iff_ne.mpr c11
    (first | rw [c11b0] | (simp only [i64_w, i32_w]; rw [c11b0]) | skip)
    have H' := Aside0.mk H
    clear H; have hcz20_0 := blkc5 BK166.out; have hcz21_0 := blkc11 BK165.out
    go_wp2
    go_meet
    case rel => exact ⟨_, (true), (xrf), H', ⟨by first | omega | exact Nat.le_refl _⟩, ⟨xK BK165⟩, ⟨xK BK166⟩, ⟨xW HB⟩⟩
  case rest =>
   clear HC5; (try clear p2); (try clear p6)
   obtain ⟨kq, x45_4, rfl, HA, HJ4, BK165, BK166, HB⟩ := hcut
   cases kq with
   | zero => exact absurd HA.out (by simp [place_Check.j0])
   | succ kj4 =>
    have H := HA.out; clear HA
    simp only [place_Check.j0] at H
    by_cases c22 : x45_4 = true
    ·subst c22
     rw [if_pos rfl] at H
     obtain rfl := Option.some.inj H
     go_wp2
     go_ret
     exact ⟨xer, xW HB⟩
    ·replace c22 := Bool.eq_false_iff.mpr c22
     subst c22
     rw [if_neg (show ¬ (false = true) by decide)] at H
     have H' := Aside0.mk H
     clear H; have hcz24_0 := blkc5 BK166.out
     go_wp2
     go_loopg [49] kj4 (fun kq vs49 w' => ∃ (x49_2 : Int), vs49 = .int .i64 x49_2 ∧ Aside0 (place_Check.l0 kq l1_0 (l1_0.length : Int) x49_2 a0_0 a0_1 a0_2 l0_3 l0_4 a0_5 a0_6 l0_7 a0_8 a0_9 a0_10 l1_0 l1_1 l1_2 a1_3 a1_4 = some r) ∧ Aside0 (kq ≤ kj4) ∧ Aside0 (w'.heap[gb165]? = some (.cells #[.string a0_0, .int .i64 a0_1, .int .i64 a0_2, (.slice A0_3 l0_3.length c0_3), (.slice A0_4 l0_4.length c0_4), .bool a0_5, .bool a0_6, (.slice A0_7 l0_7.length c0_7), .int .i64 a0_8, .int .i64 a0_9, .int .i64 a0_10] 44 (0, 0))) ∧ Aside0 (w'.heap[gb166]? = some (.cells #[(.slice A1_0 l1_0.length c1_0), (.slice A1_1 l1_1.length c1_1), (.slice A1_2 l1_2.length c1_2), .int .i64 a1_3, .int .i64 a1_4] 47 (0, 0))) ∧ Aside0 (Below w.heap.size w w'))
     case atStart => exact ⟨(0), (xrf), H', ⟨Nat.le_refl _⟩, ⟨xK BK165⟩, ⟨xK BK166⟩, ⟨xW HB⟩⟩
     case round =>
      clear H'; (try clear p2); (try clear p6); (try clear p2); (try clear p6)
      obtain ⟨x49_2, rfl, HA, HK2, BK165, BK166, HB⟩ := hrel
      cases gk with
      | zero => exact absurd HA.out (by simp [place_Check.l0])
      | succ k2 =>
       have H := HA.out; clear HA
       simp only [place_Check.l0] at H
       by_cases c25 : x49_2 < (l1_0.length : Int)
       ·rw [if_pos c25] at H
        have c25b0 : decide (x49_2 < (l1_0.length : Int)) = true := decide_eq_true c25
        clear c25
        by_cases c26 : 0 ≤ x49_2
        ·rw [if_pos c26] at H
         have c26b0 : decide (0 ≤ x49_2) = true := decide_eq_true c26
         clear c26
         by_cases c27 : x49_2 < (l1_0.length : Int)
         ·rw [if_pos c27] at H
          have c27b0 : decide (x49_2 < (l1_0.length : Int)) = true := decide_eq_true c27
          clear c27
          by_cases c28 : (rd l1_0 x49_2) < 0
          ·rw [if_pos c28] at H
           have c28b0 : decide ((rd l1_0 x49_2) < 0) = true := decide_eq_true c28
           clear c28
           obtain rfl := Option.some.inj H
           have p168 : 0 ≤ (x49_2 : Int) := of_decide_eq_true (by first | (with_reducible assumption) | assumption)
           have q168 : x49_2 < (l1_0.length : Int) := of_decide_eq_true (by first | (with_reducible assumption) | assumption)
           obtain ⟨ad168, e168, hx168_0⟩ := Kd.at_int HR1_0.out x49_2 p168 q168
           cases e168
           replace hx168_0 := (HB.out.cell (World.block_lt_of_cell? w _ hx168_0)).trans hx168_0; replace p168 := eq_true p168; replace q168 := eq_true q168
           go_wp2
           go_ret
           exact ⟨xer, xW HB⟩
          ·rw [if_neg c28] at H
           have c28b0 : decide ((rd l1_0 x49_2) < 0) = false := decide_eq_false c28
           clear c28
           by_cases c29 : (rd l1_0 x49_2) > (wrap64 (2 * (l0_3.length : Int)))
           ·rw [if_pos c29] at H
            have c29b0 : decide ((wrap64 (2 * (l0_3.length : Int))) < (rd l1_0 x49_2)) = true := decide_eq_true c29
            clear c29
            obtain rfl := Option.some.inj H
            have p168 : 0 ≤ (x49_2 : Int) := of_decide_eq_true (by first | (with_reducible assumption) | assumption)
            have q168 : x49_2 < (l1_0.length : Int) := of_decide_eq_true (by first | (with_reducible assumption) | assumption)
            obtain ⟨ad168, e168, hx168_0⟩ := Kd.at_int HR1_0.out x49_2 p168 q168
            cases e168
            replace hx168_0 := (HB.out.cell (World.block_lt_of_cell? w _ hx168_0)).trans hx168_0; replace p168 := eq_true p168; replace q168 := eq_true q168; have hcz31_0 := blkc11 BK165.out
            go_wp2
            go_ret
            exact ⟨xer, xW HB⟩
           ·rw [if_neg c29] at H
            have c29b0 : decide ((wrap64 (2 * (l0_3.length : Int))) < (rd l1_0 x49_2)) = false := decide_eq_false c29
            clear c29
            have H' := Aside0.mk H
            clear H
            have p168 : 0 ≤ (x49_2 : Int) := of_decide_eq_true (by first | (with_reducible assumption) | assumption)
            have q168 : x49_2 < (l1_0.length : Int) := of_decide_eq_true (by first | (with_reducible assumption) | assumption)
            obtain ⟨ad168, e168, hx168_0⟩ := Kd.at_int HR1_0.out x49_2 p168 q168
            cases e168
            replace hx168_0 := (HB.out.cell (World.block_lt_of_cell? w _ hx168_0)).trans hx168_0; replace p168 := eq_true p168; replace q168 := eq_true q168; have hcz33_0 := blkc11 BK165.out
            go_wp2
            go_roundg k2
            case measure => have := HJ4.out; have := HK2.out; omega
            case rel => exact ⟨(wrap64 (x49_2 + 1)), (xrf), H', ⟨by have := HJ4.out; have := HK2.out; omega⟩, ⟨xK BK165⟩, ⟨xK BK166⟩, ⟨xW HB⟩⟩
         ·rw [if_neg c27] at H
          exact absurd H (by simp)
        ·rw [if_neg c26] at H
         exact absurd H (by simp)
       ·rw [if_neg c25] at H
        have c25b0 : decide (x49_2 < (l1_0.length : Int)) = false := decide_eq_false c25
        clear c25
        have H' := Aside0.mk H
        clear H; have hcz35_0 := blkc5 BK166.out
        go_wp2
        go_loopg [66] k2 (fun kq vs66 w' => ∃ (x66_3 : Int), vs66 = .int .i64 x66_3 ∧ Aside0 (place_Check.l1 kq x66_3 l1_1 l1_2 l1_0 l1_1 l1_2 a1_3 a1_4 = some r) ∧ Aside0 (kq ≤ k2) ∧ Aside0 (w'.heap[gb165]? = some (.cells #[.string a0_0, .int .i64 a0_1, .int .i64 a0_2, (.slice A0_3 l0_3.length c0_3), (.slice A0_4 l0_4.length c0_4), .bool a0_5, .bool a0_6, (.slice A0_7 l0_7.length c0_7), .int .i64 a0_8, .int .i64 a0_9, .int .i64 a0_10] 44 (0, 0))) ∧ Aside0 (w'.heap[gb166]? = some (.cells #[(.slice A1_0 l1_0.length c1_0), (.slice A1_1 l1_1.length c1_1), (.slice A1_2 l1_2.length c1_2), .int .i64 a1_3, .int .i64 a1_4] 47 (0, 0))) ∧ Aside0 (Below w.heap.size w w'))
        case atStart => exact ⟨(0), (xrf), H', ⟨Nat.le_refl _⟩, ⟨xK BK165⟩, ⟨xK BK166⟩, ⟨xW HB⟩⟩
        case round =>
         clear H'; (try clear p1); (try clear q1); (try clear hx1); (try clear p2); (try clear p6); (try clear p16); (try clear q16); (try clear hx16); (try clear hx168_0); (try clear p168); (try clear p2); (try clear p6); (try clear q168)
         obtain ⟨x66_3, rfl, HA, HK3, BK165, BK166, HB⟩ := hrel
         cases gk with
         | zero => exact absurd HA.out (by simp [place_Check.l1])
         | succ k3 =>
          have H := HA.out; clear HA
          simp only [place_Check.l1] at H
          by_cases c36 : x66_3 < 2
          ·rw [if_pos c36] at H
           have c36b0 : decide (x66_3 < 2) = true := decide_eq_true c36
           clear c36; have HC37 := Aside0.mk H; clear H
           go_upto_region 14 with (fail)
           go_cut [9] (fun vs9 wc => ∃ (kq : Nat) (x9_36 : List Int) (Ar9 : Option Addr) (cr9 : Nat), vs9 = .slice Ar9 x9_36.length cr9 ∧ Aside0 (Kd.C (Kd.int .i64) w Ar9 x9_36.length x9_36) ∧ Aside0 (x9_36.length ≤ cr9) ∧ Aside0 (place_Check.j3 kq x9_36 x66_3 l1_1 l1_2 l1_0 l1_1 l1_2 a1_3 a1_4 = some r) ∧ Aside0 (kq ≤ k3) ∧ Aside0 (wc.heap[gb165]? = some (.cells #[.string a0_0, .int .i64 a0_1, .int .i64 a0_2, (.slice A0_3 l0_3.length c0_3), (.slice A0_4 l0_4.length c0_4), .bool a0_5, .bool a0_6, (.slice A0_7 l0_7.length c0_7), .int .i64 a0_8, .int .i64 a0_9, .int .i64 a0_10] 44 (0, 0))) ∧ Aside0 (wc.heap[gb166]? = some (.cells #[(.slice A1_0 l1_0.length c1_0), (.slice A1_1 l1_1.length c1_1), (.slice A1_2 l1_2.length c1_2), .int .i64 a1_3, .int .i64 a1_4] 47 (0, 0))) ∧ Aside0 (Below w.heap.size w wc))
           case first =>
            have H := HC37.out; clear HC37
            by_cases c38 : 0 ≤ x66_3
            ·rw [if_pos c38] at H
             have c38b0 : decide (0 ≤ x66_3) = true := decide_eq_true c38
             clear c38
             (first | rw [c38b0] | (simp only [i64_w, i32_w]; rw [c38b0]) | skip)
             by_cases c39 : x66_3 = 0
             ·rw [if_pos c39] at H
              have c39b0 : (x66_3 == 0) = true := beq_iff_eq.mpr c39
              have c39b1 : (x66_3 != 0) = false := bne_eq_false_iff_eq.mpr c39
              clear c39; obtain ⟨c40b, c40g, c40c, c40d⟩ := xar (x66_3 : Int) 0 0 2
              have c40i : ∀ (v0_ v1_ : Value) (w_ : World), (Instr.index 45 (.agg #[v0_, v1_]) (.int .i64 x66_3)).run Try.prog w_ = .ok v0_ w_ := by intro v0_ v1_ w_; have h0_ := c40b c40g; simp [Instr.index, asIntOf, part, isAgg, sizeOf, Try.underlying45, c40c, c40d, h0_] <;> simp [show Try.t31.size = 1 from rfl]
              have H' := Aside0.mk H
              clear H
              go_wp2
              go_meet
              case rel => exact ⟨_, (l1_1), (A1_1), (c1_1), rfl, ⟨HR1_1.out⟩, ⟨HC1_1.out⟩, H', ⟨by have := HJ4.out; have := HK2.out; have := HK3.out; first | omega | exact Nat.le_refl _⟩, ⟨xK BK165⟩, ⟨xK BK166⟩, ⟨xW HB⟩⟩
             ·rw [if_neg c39] at H
              have c39b0 : (x66_3 == 0) = false := beq_eq_false_iff_ne.mpr c39
              have c39b1 : (x66_3 != 0) = true := bne_iff_ne.mpr c39
              obtain ⟨c41b, c41g, c41c, c41d⟩ := xar (x66_3 : Int) 1 1 2
              have c41i : ∀ (v0_ v1_ : Value) (w_ : World), (Instr.index 45 (.agg #[v0_, v1_]) (.int .i64 x66_3)).run Try.prog w_ = .ok v1_ w_ := by intro v0_ v1_ w_; have h0_ := c41b c41g; simp [Instr.index, asIntOf, part, isAgg, sizeOf, Try.underlying45, c41c, c41d, h0_] <;> simp [show Try.t31.size = 1 from rfl]
              have H' := Aside0.mk H
              clear H
              go_wp2
              go_meet
              case rel => exact ⟨_, (l1_2), (A1_2), (c1_2), rfl, ⟨HR1_2.out⟩, ⟨HC1_2.out⟩, H', ⟨by have := HJ4.out; have := HK2.out; have := HK3.out; first | omega | exact Nat.le_refl _⟩, ⟨xK BK165⟩, ⟨xK BK166⟩, ⟨xW HB⟩⟩
            ·rw [if_neg c38] at H
             exact absurd H (by simp)
           case rest =>
            clear HC37; (try clear p1); (try clear q1); (try clear hx1); (try clear p2); (try clear p6); (try clear p16); (try clear q16); (try clear hx16); (try clear hx168_0); (try clear p1); (try clear p16); (try clear p168); (try clear p2); (try clear p6); (try clear q1); (try clear q16); (try clear q168)
            obtain ⟨kq, x9_36, Ar9, cr9, rfl, HR_9, HC_9, HA, HJ36, BK165, BK166, HB⟩ := hcut
            cases kq with
            | zero => exact absurd HA.out (by simp [place_Check.j3])
            | succ kj36 =>
             have H := HA.out; clear HA
             simp only [place_Check.j3] at H
             have H' := Aside0.mk H
             clear H
             go_wp2
             go_loopg [71] kj36 (fun kq vs71 w' => ∃ (x71_5 : Int), vs71 = .int .i64 x71_5 ∧ Aside0 (place_Check.l2 kq x66_3 x9_36 (x9_36.length : Int) x71_5 l1_1 l1_2 l1_0 l1_1 l1_2 a1_3 a1_4 = some r) ∧ Aside0 (kq ≤ kj36) ∧ Aside0 (w'.heap[gb165]? = some (.cells #[.string a0_0, .int .i64 a0_1, .int .i64 a0_2, (.slice A0_3 l0_3.length c0_3), (.slice A0_4 l0_4.length c0_4), .bool a0_5, .bool a0_6, (.slice A0_7 l0_7.length c0_7), .int .i64 a0_8, .int .i64 a0_9, .int .i64 a0_10] 44 (0, 0))) ∧ Aside0 (w'.heap[gb166]? = some (.cells #[(.slice A1_0 l1_0.length c1_0), (.slice A1_1 l1_1.length c1_1), (.slice A1_2 l1_2.length c1_2), .int .i64 a1_3, .int .i64 a1_4] 47 (0, 0))) ∧ Aside0 (Below w.heap.size w w'))
             case atStart => exact ⟨(0), (xrf), H', ⟨Nat.le_refl _⟩, ⟨xK BK165⟩, ⟨xK BK166⟩, ⟨xW HB⟩⟩
             case round =>
              clear H'; (try clear p1); (try clear q1); (try clear hx1); (try clear p2); (try clear p6); (try clear p16); (try clear q16); (try clear hx16); (try clear hx168_0); (try clear p1); (try clear p16); (try clear p168); (try clear p2); (try clear p6); (try clear q1); (try clear q16); (try clear q168)
              obtain ⟨x71_5, rfl, HA, HK5, BK165, BK166, HB⟩ := hrel
              cases gk with
              | zero => exact absurd HA.out (by simp [place_Check.l2])
              | succ k5 =>
               have H := HA.out; clear HA
               simp only [place_Check.l2] at H
               by_cases c42 : x71_5 < (x9_36.length : Int)
               ·rw [if_pos c42] at H
                have c42b0 : decide (x71_5 < (x9_36.length : Int)) = true := decide_eq_true c42
                clear c42
                by_cases c43 : 0 ≤ x71_5
                ·rw [if_pos c43] at H
                 have c43b0 : decide (0 ≤ x71_5) = true := decide_eq_true c43
                 clear c43
                 by_cases c44 : x71_5 < (x9_36.length : Int)
                 ·rw [if_pos c44] at H
                  have c44b0 : decide (x71_5 < (x9_36.length : Int)) = true := decide_eq_true c44
                  clear c44
                  by_cases c45 : (rd x9_36 x71_5) < 0
                  ·rw [if_pos c45] at H
                   have c45b0 : decide ((rd x9_36 x71_5) < 0) = true := decide_eq_true c45
                   clear c45
                   obtain rfl := Option.some.inj H
                   have p169 : 0 ≤ (x71_5 : Int) := of_decide_eq_true (by first | (with_reducible assumption) | assumption)
                   have q169 : x71_5 < (x9_36.length : Int) := of_decide_eq_true (by first | (with_reducible assumption) | assumption)
                   obtain ⟨ad169, e169, hx169_0⟩ := Kd.at_int HR_9.out x71_5 p169 q169
                   cases e169
                   replace hx169_0 := (HB.out.cell (World.block_lt_of_cell? w _ hx169_0)).trans hx169_0; replace p169 := eq_true p169; replace q169 := eq_true q169
                   go_wp2
                   go_ret
                   exact ⟨xer, xW HB⟩
                  ·rw [if_neg c45] at H
                   have c45b0 : decide ((rd x9_36 x71_5) < 0) = false := decide_eq_false c45
                   clear c45
                   by_cases c46 : (rd x9_36 x71_5) > 1000
                   ·rw [if_pos c46] at H
                    have c46b0 : decide (1000 < (rd x9_36 x71_5)) = true := decide_eq_true c46
                    clear c46
                    obtain rfl := Option.some.inj H
                    have p169 : 0 ≤ (x71_5 : Int) := of_decide_eq_true (by first | (with_reducible assumption) | assumption)
                    have q169 : x71_5 < (x9_36.length : Int) := of_decide_eq_true (by first | (with_reducible assumption) | assumption)
                    obtain ⟨ad169, e169, hx169_0⟩ := Kd.at_int HR_9.out x71_5 p169 q169
                    cases e169
                    replace hx169_0 := (HB.out.cell (World.block_lt_of_cell? w _ hx169_0)).trans hx169_0; replace p169 := eq_true p169; replace q169 := eq_true q169
                    go_wp2
                    go_ret
                    exact ⟨xer, xW HB⟩
                   ·rw [if_neg c46] at H
                    have c46b0 : decide (1000 < (rd x9_36 x71_5)) = false := decide_eq_false c46
                    clear c46
                    have H' := Aside0.mk H
                    clear H
                    have p169 : 0 ≤ (x71_5 : Int) := of_decide_eq_true (by first | (with_reducible assumption) | assumption)
                    have q169 : x71_5 < (x9_36.length : Int) := of_decide_eq_true (by first | (with_reducible assumption) | assumption)
                    obtain ⟨ad169, e169, hx169_0⟩ := Kd.at_int HR_9.out x71_5 p169 q169
                    cases e169
                    replace hx169_0 := (HB.out.cell (World.block_lt_of_cell? w _ hx169_0)).trans hx169_0; replace p169 := eq_true p169; replace q169 := eq_true q169
                    go_wp2
                    go_roundg k5
                    case measure => have := HJ4.out; have := HK2.out; have := HK3.out; have := HJ36.out; have := HK5.out; omega
                    case rel => exact ⟨(wrap64 (x71_5 + 1)), (xrf), H', ⟨by have := HJ4.out; have := HK2.out; have := HK3.out; have := HJ36.out; have := HK5.out; omega⟩, ⟨xK BK165⟩, ⟨xK BK166⟩, ⟨xW HB⟩⟩
                 ·rw [if_neg c44] at H
                  exact absurd H (by simp)
                ·rw [if_neg c43] at H
                 exact absurd H (by simp)
               ·rw [if_neg c42] at H
                have c42b0 : decide (x71_5 < (x9_36.length : Int)) = false := decide_eq_false c42
                clear c42
                have H' := Aside0.mk H
                clear H
                go_wp2
                go_roundg k5
                case measure => have := HJ4.out; have := HK2.out; have := HK3.out; have := HJ36.out; have := HK5.out; omega
                case rel => exact ⟨(wrap64 (x66_3 + 1)), (xrf), H', ⟨by have := HJ4.out; have := HK2.out; have := HK3.out; have := HJ36.out; have := HK5.out; omega⟩, ⟨xK BK165⟩, ⟨xK BK166⟩, ⟨xW HB⟩⟩
          ·rw [if_neg c36] at H
           have c36b0 : decide (x66_3 < 2) = false := decide_eq_false c36
           clear c36
           by_cases c47 : a1_3 = 0
           ·rw [if_pos c47] at H
            have c47b0 : (a1_3 == 0) = true := beq_iff_eq.mpr c47
            have c47b1 : (a1_3 != 0) = false := bne_eq_false_iff_eq.mpr c47
            clear c47
            by_cases c48 : a1_4 < 0
            ·rw [if_pos c48] at H
             have c48b0 : decide (a1_4 < 0) = true := decide_eq_true c48
             clear c48
             obtain rfl := Option.some.inj H
             have hcz50_0 := blkc5 BK166.out
             go_wp2
             go_ret
             exact ⟨xer, xW HB⟩
            ·rw [if_neg c48] at H
             have c48b0 : decide (a1_4 < 0) = false := decide_eq_false c48
             clear c48
             by_cases c51 : a1_4 > 200
             ·rw [if_pos c51] at H
              have c51b0 : decide (200 < a1_4) = true := decide_eq_true c51
              clear c51
              obtain rfl := Option.some.inj H
              have hcz53_0 := blkc5 BK166.out
              go_wp2
              go_ret
              exact ⟨xer, xW HB⟩
             ·rw [if_neg c51] at H
              have c51b0 : decide (200 < a1_4) = false := decide_eq_false c51
              clear c51
              obtain rfl := Option.some.inj H
              have hcz55_0 := blkc5 BK166.out
              go_wp2
              go_ret
              exact ⟨xer, xW HB⟩
           ·rw [if_neg c47] at H
            have c47b0 : (a1_3 == 0) = false := beq_eq_false_iff_ne.mpr c47
            have c47b1 : (a1_3 != 0) = true := bne_iff_ne.mpr c47
            by_cases c56 : a1_3 = 1
            ·rw [if_pos c56] at H
             have c56b0 : (a1_3 == 1) = true := beq_iff_eq.mpr c56
             have c56b1 : (a1_3 != 1) = false := bne_eq_false_iff_eq.mpr c56
             clear c56
             by_cases c57 : a1_4 < 0
             ·rw [if_pos c57] at H
              have c57b0 : decide (a1_4 < 0) = true := decide_eq_true c57
              clear c57
              obtain rfl := Option.some.inj H
              have hcz59_0 := blkc5 BK166.out
              go_wp2
              go_ret
              exact ⟨xer, xW HB⟩
             ·rw [if_neg c57] at H
              have c57b0 : decide (a1_4 < 0) = false := decide_eq_false c57
              clear c57
              by_cases c60 : a1_4 > 200
              ·rw [if_pos c60] at H
               have c60b0 : decide (200 < a1_4) = true := decide_eq_true c60
               clear c60
               obtain rfl := Option.some.inj H
               have hcz62_0 := blkc5 BK166.out
               go_wp2
               go_ret
               exact ⟨xer, xW HB⟩
              ·rw [if_neg c60] at H
               have c60b0 : decide (200 < a1_4) = false := decide_eq_false c60
               clear c60
               obtain rfl := Option.some.inj H
               have hcz64_0 := blkc5 BK166.out
               go_wp2
               go_ret
               exact ⟨xer, xW HB⟩
            ·rw [if_neg c56] at H
             have c56b0 : (a1_3 == 1) = false := beq_eq_false_iff_ne.mpr c56
             have c56b1 : (a1_3 != 1) = true := bne_iff_ne.mpr c56
             obtain rfl := Option.some.inj H
             have hcz66_0 := blkc5 BK166.out
             go_wp2
             go_ret
             exact ⟨xer, xW HB⟩
 ·rw [if_neg c4] at H
  have c4b0 : (t167 == 0) = false := beq_eq_false_iff_ne.mpr c4
  have c4b1 : (t167 != 0) = true := bne_iff_ne.mpr c4
  obtain rfl := Option.some.inj H
  go_enter Try.func17, Try.ntmps17
  go_wp2_with (first | ((with_reducible refine gate_dst (N := 2) rfl ?_); (try (refine gate_guard (by rfl) ?_; dsimp only)); refine box_event ?hg (N := 2) ?hd (cs := #[.string a0_0, .int .i64 a0_1, .int .i64 a0_2, .slice A0_3 l0_3.length c0_3, .slice A0_4 l0_4.length c0_4, .bool a0_5, .bool a0_6, .slice A0_7 l0_7.length c0_7, .int .i64 a0_8, .int .i64 a0_9, .int .i64 a0_10]) (t := 44) ?hr ?_; (case hd => rfl); (case hg => rfl); (case hr => first | (go_simp; done) | (go_simp; rfl)); intro gb165 hg w67 hbox hb; have BK165 := Aside0.mk (hbox); have GW165 := Aside0.mk (xZ HB hg); have GE165 := Aside0.mk (xZ HB hg); replace HB := Aside0.mk (xS HB hb); clear hb hbox hg) | ((with_reducible refine gate_dst (N := 3) rfl ?_); (try (refine gate_guard (by rfl) ?_; dsimp only)); refine box_event ?hg (N := 3) ?hd (cs := #[.slice A1_0 l1_0.length c1_0, .slice A1_1 l1_1.length c1_1, .slice A1_2 l1_2.length c1_2, .int .i64 a1_3, .int .i64 a1_4]) (t := 47) ?hr ?_; (case hd => rfl); (case hg => rfl); (case hr => first | (go_simp; done) | (go_simp; rfl)); intro gb166 hg w68 hbox hb; have BK166 := Aside0.mk (hbox); have GW166 := Aside0.mk (xZ HB hg); have GE166 := Aside0.mk (xZ HB hg); have NB165_166 := Aside0.mk (xN BK165 hg); have NB166_165 := Aside0.mk (xM BK165 hg); replace BK165 := Aside0.mk (xB BK165 hb); replace HB := Aside0.mk (xS HB hb); clear hb hbox hg; have hnb69 := NB165_166.out; have hnc69 := NB166_165.out; have hcz70_0 := blkc11 BK165.out) | ((with_reducible refine gate_callee (f := 36) rfl ?_); refine goesL_ (some 13) rfl rfl Try.func36 (by kernel_rfl) rfl #[.agg #[.string a0_0, .int .i64 a0_1, .int .i64 a0_2, .slice A0_3 l0_3.length c0_3, .slice A0_4 l0_4.length c0_4, .bool a0_5, .bool a0_6, .slice A0_7 l0_7.length c0_7, .int .i64 a0_8, .int .i64 a0_9, .int .i64 a0_10]] rfl (by (try simp only [List.map_toArray, List.map_cons, List.map_nil]); first | done | rfl | (simp only [List.length_drop, List.length_take]; rfl)) ?_; (with_reducible refine (rules_Check.calls k a0_0 a0_1 a0_2 _ _ l0_3 _ _ l0_4 a0_5 a0_6 _ _ l0_7 a0_8 a0_9 a0_10 t167 _ ?side1 ?side2 ?side3 ?side4 ?side5 ?side6 A3.out).mono ?_); (case side1 => exact xC (Kd.C_below HR0_3.out HB.out)); (case side2 => exact HC0_3.out); (case side3 => exact xC (Kd.C_below HR0_4.out HB.out)); (case side4 => exact HC0_4.out); (case side5 => exact xC (Kd.C_below HR0_7.out HB.out)); (case side6 => exact HC0_7.out); rintro e w71 ⟨rfl, hb⟩; refine ⟨_, rfl, ?_⟩; replace BK165 := Aside0.mk (xB BK165 hb); replace BK166 := Aside0.mk (xB BK166 hb); replace HB := Aside0.mk (xS HB hb); (try clear hb); (try clear hb2); (try clear hk); (try clear hi)))
  go_ret
  exact ⟨xer, xW HB⟩

/-! ### pattern_Check: function 35 -/
mutual
def pattern_Check.j0 : Nat → Bool → ByteArray → Int → Int → List (S101) → List Int → Bool → Bool → List (S103) → Int → Int → Int → Int → Int → List Int → Int → Option (Int)
  | 0, _, _, _, _, _, _, _, _, _, _, _, _, _, _, _, _ => none
  | k + 1, x34, z171a, z171b, z171c, z171d, z171e, z171f, z171g, z171h, z171i, z171j, z171k, z172a, z172b, z172c, z172d => if x34 = true then (some 4) else (if (z172c.length : Int) = (wrap64 (z172a * z172b)) then (pattern_Check.l0 k z172c (z172c.length : Int) 0 z171a z171b z171c z171d z171e z171f z171g z171h z171i z171j z171k z172a z172b z172c z172d) else (some 3))
def pattern_Check.l0 : Nat → List Int → Int → Int → ByteArray → Int → Int → List (S101) → List Int → Bool → Bool → List (S103) → Int → Int → Int → Int → Int → List Int → Int → Option (Int)
  | 0, _, _, _, _, _, _, _, _, _, _, _, _, _, _, _, _, _, _ => none
  | k + 1, x45, x46, x47, z171a, z171b, z171c, z171d, z171e, z171f, z171g, z171h, z171i, z171j, z171k, z172a, z172b, z172c, z172d => if x47 < x46 then (if 0 ≤ x47 then (if x47 < (x45.length : Int) then (if (rd x45 x47) < (-3) then (some 4) else (if (rd x45 x47) > (wrap64 (2 * (z171d.length : Int))) then (some 4) else (pattern_Check.l0 k x45 x46 (wrap64 (x47 + 1)) z171a z171b z171c z171d z171e z171f z171g z171h z171i z171j z171k z172a z172b z172c z172d))) else (none)) else (none)) else (if z172d < (-1) then (some 4) else (if z172d > 1 then (some 4) else (some 0)))
end
def pattern_Check.f (k : Nat) (a0_0 : ByteArray) (a0_1 : Int) (a0_2 : Int) (l0_3 : List (S101)) (l0_4 : List Int) (a0_5 : Bool) (a0_6 : Bool) (l0_7 : List (S103)) (a0_8 : Int) (a0_9 : Int) (a0_10 : Int) (a1_0 : Int) (a1_1 : Int) (l1_2 : List Int) (a1_3 : Int) : Option (Int) := (rules_Check.f k a0_0 a0_1 a0_2 l0_3 l0_4 a0_5 a0_6 l0_7 a0_8 a0_9 a0_10).bind fun t172 => (if t172 = 0 then (if a1_0 < 1 then (pattern_Check.j0 k true a0_0 a0_1 a0_2 l0_3 l0_4 a0_5 a0_6 l0_7 a0_8 a0_9 a0_10 a1_0 a1_1 l1_2 a1_3) else (if a1_1 < 1 then (pattern_Check.j0 k true a0_0 a0_1 a0_2 l0_3 l0_4 a0_5 a0_6 l0_7 a0_8 a0_9 a0_10 a1_0 a1_1 l1_2 a1_3) else (if a1_0 > a0_1 then (pattern_Check.j0 k true a0_0 a0_1 a0_2 l0_3 l0_4 a0_5 a0_6 l0_7 a0_8 a0_9 a0_10 a1_0 a1_1 l1_2 a1_3) else (pattern_Check.j0 k (decide (a1_1 > a0_2)) a0_0 a0_1 a0_2 l0_3 l0_4 a0_5 a0_6 l0_7 a0_8 a0_9 a0_10 a1_0 a1_1 l1_2 a1_3)))) else (some t172))
theorem pattern_Check.mono_l : ∀ k, (∀ y0 y1 y2 y3 y4 y5 y6 y7 y8 y9 y10 y11 y12 y13 y14 y15, LeO (pattern_Check.j0 k y0 y1 y2 y3 y4 y5 y6 y7 y8 y9 y10 y11 y12 y13 y14 y15) (pattern_Check.j0 (k + 1) y0 y1 y2 y3 y4 y5 y6 y7 y8 y9 y10 y11 y12 y13 y14 y15)) ∧ (∀ y0 y1 y2 y3 y4 y5 y6 y7 y8 y9 y10 y11 y12 y13 y14 y15 y16 y17, LeO (pattern_Check.l0 k y0 y1 y2 y3 y4 y5 y6 y7 y8 y9 y10 y11 y12 y13 y14 y15 y16 y17) (pattern_Check.l0 (k + 1) y0 y1 y2 y3 y4 y5 y6 y7 y8 y9 y10 y11 y12 y13 y14 y15 y16 y17))
  | 0 => ⟨fun _ _ _ _ _ _ _ _ _ _ _ _ _ _ _ _ r h => by simp [pattern_Check.j0] at h, fun _ _ _ _ _ _ _ _ _ _ _ _ _ _ _ _ _ _ r h => by simp [pattern_Check.l0] at h⟩
  | k + 1 => by
    obtain ⟨ih0, ih1⟩ := pattern_Check.mono_l k
    refine ⟨?_, ?_⟩
    · intros
      unfold pattern_Check.j0
      repeat' first
      | (with_reducible apply ih0)
      | (with_reducible apply ih1)
      | (with_reducible apply rules_Check.mono)
      | (with_reducible exact LeO.refl _)
      | (with_reducible exact LeO.none _)
      | (with_reducible refine LeO.ite ?_ ?_)
      | (with_reducible refine LeO.bind ?_ (fun _ => ?_))
      | apply ih0
      | apply ih1
      | apply rules_Check.mono
      | exact LeO.none _
      | refine LeO.ite ?_ ?_
      | refine LeO.bind ?_ (fun _ => ?_)
    · intros
      unfold pattern_Check.l0
      repeat' first
      | (with_reducible apply ih0)
      | (with_reducible apply ih1)
      | (with_reducible apply rules_Check.mono)
      | (with_reducible exact LeO.refl _)
      | (with_reducible exact LeO.none _)
      | (with_reducible refine LeO.ite ?_ ?_)
      | (with_reducible refine LeO.bind ?_ (fun _ => ?_))
      | apply ih0
      | apply ih1
      | apply rules_Check.mono
      | exact LeO.none _
      | refine LeO.ite ?_ ?_
      | refine LeO.bind ?_ (fun _ => ?_)
theorem pattern_Check.mono : ∀ a0 a1 a2 a3 a4 a5 a6 a7 a8 a9 a10 a11 a12 a13 a14 k, LeO (pattern_Check.f k a0 a1 a2 a3 a4 a5 a6 a7 a8 a9 a10 a11 a12 a13 a14) (pattern_Check.f (k + 1) a0 a1 a2 a3 a4 a5 a6 a7 a8 a9 a10 a11 a12 a13 a14) := by
  intro a0 a1 a2 a3 a4 a5 a6 a7 a8 a9 a10 a11 a12 a13 a14 k
  obtain ⟨ih0, ih1⟩ := pattern_Check.mono_l k
  unfold pattern_Check.f
  repeat' first
      | (with_reducible apply ih0)
      | (with_reducible apply ih1)
      | (with_reducible apply rules_Check.mono)
      | (with_reducible exact LeO.refl _)
      | (with_reducible exact LeO.none _)
      | (with_reducible refine LeO.ite ?_ ?_)
      | (with_reducible refine LeO.bind ?_ (fun _ => ?_))
      | apply ih0
      | apply ih1
      | apply rules_Check.mono
      | exact LeO.none _
      | refine LeO.ite ?_ ?_
      | refine LeO.bind ?_ (fun _ => ?_)
set_option maxHeartbeats 8000000 in
set_option maxRecDepth 100000 in
theorem pattern_Check.calls (k : Nat) (a0_0 : ByteArray) (a0_1 : Int) (a0_2 : Int) (A0_3 : Option Addr) (c0_3 : Nat) (l0_3 : List (S101)) (A0_4 : Option Addr) (c0_4 : Nat) (l0_4 : List Int) (a0_5 : Bool) (a0_6 : Bool) (A0_7 : Option Addr) (c0_7 : Nat) (l0_7 : List (S103)) (a0_8 : Int) (a0_9 : Int) (a0_10 : Int) (a1_0 : Int) (a1_1 : Int) (A1_2 : Option Addr) (c1_2 : Nat) (l1_2 : List Int) (a1_3 : Int) (r : Int) (w : World) (hr0_3 : Kd.C k101 w A0_3 l0_3.length l0_3) (hc0_3 : l0_3.length ≤ c0_3) (hr0_4 : Kd.C (Kd.int .i64) w A0_4 l0_4.length l0_4) (hc0_4 : l0_4.length ≤ c0_4) (hr0_7 : Kd.C k103 w A0_7 l0_7.length l0_7) (hc0_7 : l0_7.length ≤ c0_7) (hr1_2 : Kd.C (Kd.int .i64) w A1_2 l1_2.length l1_2) (hc1_2 : l1_2.length ≤ c1_2) (h : pattern_Check.f k a0_0 a0_1 a0_2 l0_3 l0_4 a0_5 a0_6 l0_7 a0_8 a0_9 a0_10 a1_0 a1_1 l1_2 a1_3 = some r) :
    Calls Try.prog 35 #[.agg #[.string a0_0, .int .i64 a0_1, .int .i64 a0_2, .slice A0_3 l0_3.length c0_3, .slice A0_4 l0_4.length c0_4, .bool a0_5, .bool a0_6, .slice A0_7 l0_7.length c0_7, .int .i64 a0_8, .int .i64 a0_9, .int .i64 a0_10], .agg #[.int .i64 a1_0, .int .i64 a1_1, .slice A1_2 l1_2.length c1_2, .int .i64 a1_3]] w fun e w' => e = .returned (.int .i64 r) ∧ Below w.heap.size w w' := by
 have hu44 := Try.underlying44; have hu49 := Try.underlying49; have HR0_3 := Aside0.mk hr0_3; have HC0_3 := Aside0.mk hc0_3; clear hr0_3 hc0_3; have HR0_4 := Aside0.mk hr0_4; have HC0_4 := Aside0.mk hc0_4; clear hr0_4 hc0_4; have HR0_7 := Aside0.mk hr0_7; have HC0_7 := Aside0.mk hc0_7; clear hr0_7 hc0_7; have HR1_2 := Aside0.mk hr1_2; have HC1_2 := Aside0.mk hc1_2; clear hr1_2 hc1_2; have HB := Aside0.mk (Below.refl w.heap.size w); have hss_ := @isSome_setCell
 have H : ((rules_Check.f k a0_0 a0_1 a0_2 l0_3 l0_4 a0_5 a0_6 l0_7 a0_8 a0_9 a0_10).bind fun t172 => (if t172 = 0 then (if a1_0 < 1 then (pattern_Check.j0 k true a0_0 a0_1 a0_2 l0_3 l0_4 a0_5 a0_6 l0_7 a0_8 a0_9 a0_10 a1_0 a1_1 l1_2 a1_3) else (if a1_1 < 1 then (pattern_Check.j0 k true a0_0 a0_1 a0_2 l0_3 l0_4 a0_5 a0_6 l0_7 a0_8 a0_9 a0_10 a1_0 a1_1 l1_2 a1_3) else (if a1_0 > a0_1 then (pattern_Check.j0 k true a0_0 a0_1 a0_2 l0_3 l0_4 a0_5 a0_6 l0_7 a0_8 a0_9 a0_10 a1_0 a1_1 l1_2 a1_3) else (pattern_Check.j0 k (decide (a1_1 > a0_2)) a0_0 a0_1 a0_2 l0_3 l0_4 a0_5 a0_6 l0_7 a0_8 a0_9 a0_10 a1_0 a1_1 l1_2 a1_3)))) else (some t172))) = some r := h
 clear h; replace H := Option.bind_eq_some_iff.mp H
 obtain ⟨t172, A30, H⟩ := H
 try dsimp only at H
 have A3 := Aside0.mk A30; clear A30
 by_cases c4 : t172 = 0
 ·rw [if_pos c4] at H
  have c4b0 : (t172 == 0) = true := beq_iff_eq.mpr c4
  have c4b1 : (t172 != 0) = false := bne_eq_false_iff_eq.mpr c4
  clear c4; have HC5 := Aside0.mk H; clear H
  go_enter Try.func35, Try.ntmps35
  go_upto_region 4 with (first | ((with_reducible refine gate_dst (N := 2) rfl ?_); (try (refine gate_guard (by rfl) ?_; dsimp only)); refine box_event ?hg (N := 2) ?hd (cs := #[.string a0_0, .int .i64 a0_1, .int .i64 a0_2, .slice A0_3 l0_3.length c0_3, .slice A0_4 l0_4.length c0_4, .bool a0_5, .bool a0_6, .slice A0_7 l0_7.length c0_7, .int .i64 a0_8, .int .i64 a0_9, .int .i64 a0_10]) (t := 44) ?hr ?_; (case hd => rfl); (case hg => rfl); (case hr => first | (go_simp; done) | (go_simp; rfl)); intro gb170 hg w6 hbox hb; have BK170 := Aside0.mk (hbox); have GW170 := Aside0.mk (xZ HB hg); have GE170 := Aside0.mk (xZ HB hg); replace HB := Aside0.mk (xS HB hb); clear hb hbox hg) | ((with_reducible refine gate_dst (N := 3) rfl ?_); (try (refine gate_guard (by rfl) ?_; dsimp only)); refine box_event ?hg (N := 3) ?hd (cs := #[.int .i64 a1_0, .int .i64 a1_1, .slice A1_2 l1_2.length c1_2, .int .i64 a1_3]) (t := 49) ?hr ?_; (case hd => rfl); (case hg => rfl); (case hr => first | (go_simp; done) | (go_simp; rfl)); intro gb171 hg w7 hbox hb; have BK171 := Aside0.mk (hbox); have GW171 := Aside0.mk (xZ HB hg); have GE171 := Aside0.mk (xZ HB hg); have NB170_171 := Aside0.mk (xN BK170 hg); have NB171_170 := Aside0.mk (xM BK170 hg); replace BK170 := Aside0.mk (xB BK170 hb); replace HB := Aside0.mk (xS HB hb); clear hb hbox hg; have hnb8 := NB170_171.out; have hnc8 := NB171_170.out; have hcz9_0 := blkc11 BK170.out) | ((with_reducible refine gate_callee (f := 36) rfl ?_); refine goesL_ (some 9) rfl rfl Try.func36 (by kernel_rfl) rfl #[.agg #[.string a0_0, .int .i64 a0_1, .int .i64 a0_2, .slice A0_3 l0_3.length c0_3, .slice A0_4 l0_4.length c0_4, .bool a0_5, .bool a0_6, .slice A0_7 l0_7.length c0_7, .int .i64 a0_8, .int .i64 a0_9, .int .i64 a0_10]] rfl (by (try simp only [List.map_toArray, List.map_cons, List.map_nil]); first | done | rfl | (simp only [List.length_drop, List.length_take]; rfl)) ?_; (with_reducible refine (rules_Check.calls k a0_0 a0_1 a0_2 _ _ l0_3 _ _ l0_4 a0_5 a0_6 _ _ l0_7 a0_8 a0_9 a0_10 t172 _ ?side1 ?side2 ?side3 ?side4 ?side5 ?side6 A3.out).mono ?_); (case side1 => exact xC (Kd.C_below HR0_3.out HB.out)); (case side2 => exact HC0_3.out); (case side3 => exact xC (Kd.C_below HR0_4.out HB.out)); (case side4 => exact HC0_4.out); (case side5 => exact xC (Kd.C_below HR0_7.out HB.out)); (case side6 => exact HC0_7.out); rintro e w10 ⟨rfl, hb⟩; refine ⟨_, rfl, ?_⟩; replace BK170 := Aside0.mk (xB BK170 hb); replace BK171 := Aside0.mk (xB BK171 hb); replace HB := Aside0.mk (xS HB hb); (try clear hb); (try clear hb2); (try clear hk); (try clear hi)))
  (try have hq171_170 := NB171_170.out); (try have hq170_171 := NB170_171.out)
  (try simp only [Act.put, List.setIfInBounds_toArray, List.set_cons_zero, List.set_cons_succ])
  go_cut [34] (fun vs34 wc => ∃ (kq : Nat) (x34_4 : Bool), vs34 = .bool x34_4 ∧ Aside0 (pattern_Check.j0 kq x34_4 a0_0 a0_1 a0_2 l0_3 l0_4 a0_5 a0_6 l0_7 a0_8 a0_9 a0_10 a1_0 a1_1 l1_2 a1_3 = some r) ∧ Aside0 (kq ≤ k) ∧ Aside0 (wc.heap[gb170]? = some (.cells #[.string a0_0, .int .i64 a0_1, .int .i64 a0_2, (.slice A0_3 l0_3.length c0_3), (.slice A0_4 l0_4.length c0_4), .bool a0_5, .bool a0_6, (.slice A0_7 l0_7.length c0_7), .int .i64 a0_8, .int .i64 a0_9, .int .i64 a0_10] 44 (0, 0))) ∧ Aside0 (wc.heap[gb171]? = some (.cells #[.int .i64 a1_0, .int .i64 a1_1, (.slice A1_2 l1_2.length c1_2), .int .i64 a1_3] 49 (0, 0))) ∧ Aside0 (Below w.heap.size w wc))
  case first =>
   have H := HC5.out; clear HC5
   by_cases c11 : a1_0 < 1
   ·rw [if_pos c11] at H
    have c11b0 : decide (a1_0 < 1) = true := decide_eq_true c11
    clear c11
    (first | rw [c11b0] | (simp only [i64_w, i32_w]; rw [c11b0]) | skip)
    have H' := Aside0.mk H
    clear H; have hcz13_0 := blkc4 BK171.out
    go_wp2
    go_meet
    case rel => exact ⟨_, (true), (xrf), H', ⟨by first | omega | exact Nat.le_refl _⟩, ⟨xK BK170⟩, ⟨xK BK171⟩, ⟨xW HB⟩⟩
   ·rw [if_neg c11] at H
    have c11b0 : decide (a1_0 < 1) = false := decide_eq_false c11
    clear c11
    (first | rw [c11b0] | (simp only [i64_w, i32_w]; rw [c11b0]) | skip)
    by_cases c14 : a1_1 < 1
    ·rw [if_pos c14] at H
     have c14b0 : decide (a1_1 < 1) = true := decide_eq_true c14
     clear c14
     have H' := Aside0.mk H
     clear H; have hcz16_0 := blkc4 BK171.out
     go_wp2
     go_meet
     case rel => exact ⟨_, (true), (xrf), H', ⟨by first | omega | exact Nat.le_refl _⟩, ⟨xK BK170⟩, ⟨xK BK171⟩, ⟨xW HB⟩⟩
    ·rw [if_neg c14] at H
     have c14b0 : decide (a1_1 < 1) = false := decide_eq_false c14
     clear c14
     by_cases c17 : a1_0 > a0_1
     ·rw [if_pos c17] at H
      have c17b0 : decide (a0_1 < a1_0) = true := decide_eq_true c17
      clear c17
      have H' := Aside0.mk H
      clear H; have hcz19_0 := blkc4 BK171.out; have hcz20_0 := blkc11 BK170.out
      go_wp2
      go_meet
      case rel => exact ⟨_, (true), (xrf), H', ⟨by first | omega | exact Nat.le_refl _⟩, ⟨xK BK170⟩, ⟨xK BK171⟩, ⟨xW HB⟩⟩
     ·rw [if_neg c17] at H
      have c17b0 : decide (a0_1 < a1_0) = false := decide_eq_false c17
      clear c17
      have H' := Aside0.mk H
      clear H; have hcz22_0 := blkc4 BK171.out; have hcz23_0 := blkc11 BK170.out
      go_wp2
      go_meet
      case rel => exact ⟨_, (decide (a1_1 > a0_2)), (xrf), H', ⟨by first | omega | exact Nat.le_refl _⟩, ⟨xK BK170⟩, ⟨xK BK171⟩, ⟨xW HB⟩⟩
  case rest =>
   clear HC5; (try clear p2)
   obtain ⟨kq, x34_4, rfl, HA, HJ4, BK170, BK171, HB⟩ := hcut
   cases kq with
   | zero => exact absurd HA.out (by simp [pattern_Check.j0])
   | succ kj4 =>
    have H := HA.out; clear HA
    simp only [pattern_Check.j0] at H
    by_cases c24 : x34_4 = true
    ·subst c24
     rw [if_pos rfl] at H
     obtain rfl := Option.some.inj H
     go_wp2
     go_ret
     exact ⟨xer, xW HB⟩
    ·replace c24 := Bool.eq_false_iff.mpr c24
     subst c24
     rw [if_neg (show ¬ (false = true) by decide)] at H
     by_cases c25 : (l1_2.length : Int) = (wrap64 (a1_0 * a1_1))
     ·rw [if_pos c25] at H
      have c25b0 : ((l1_2.length : Int) == (wrap64 (a1_0 * a1_1))) = true := beq_iff_eq.mpr c25
      have c25b1 : ((l1_2.length : Int) != (wrap64 (a1_0 * a1_1))) = false := bne_eq_false_iff_eq.mpr c25
      clear c25
      have H' := Aside0.mk H
      clear H; have hcz27_0 := blkc4 BK171.out
      go_wp2
      go_loopg [47] kj4 (fun kq vs47 w' => ∃ (x47_2 : Int), vs47 = .int .i64 x47_2 ∧ Aside0 (pattern_Check.l0 kq l1_2 (l1_2.length : Int) x47_2 a0_0 a0_1 a0_2 l0_3 l0_4 a0_5 a0_6 l0_7 a0_8 a0_9 a0_10 a1_0 a1_1 l1_2 a1_3 = some r) ∧ Aside0 (kq ≤ kj4) ∧ Aside0 (w'.heap[gb170]? = some (.cells #[.string a0_0, .int .i64 a0_1, .int .i64 a0_2, (.slice A0_3 l0_3.length c0_3), (.slice A0_4 l0_4.length c0_4), .bool a0_5, .bool a0_6, (.slice A0_7 l0_7.length c0_7), .int .i64 a0_8, .int .i64 a0_9, .int .i64 a0_10] 44 (0, 0))) ∧ Aside0 (w'.heap[gb171]? = some (.cells #[.int .i64 a1_0, .int .i64 a1_1, (.slice A1_2 l1_2.length c1_2), .int .i64 a1_3] 49 (0, 0))) ∧ Aside0 (Below w.heap.size w w'))
      case atStart => exact ⟨(0), (xrf), H', ⟨Nat.le_refl _⟩, ⟨xK BK170⟩, ⟨xK BK171⟩, ⟨xW HB⟩⟩
      case round =>
       clear H'; (try clear p2); (try clear p6); (try clear p2)
       obtain ⟨x47_2, rfl, HA, HK2, BK170, BK171, HB⟩ := hrel
       cases gk with
       | zero => exact absurd HA.out (by simp [pattern_Check.l0])
       | succ k2 =>
        have H := HA.out; clear HA
        simp only [pattern_Check.l0] at H
        by_cases c28 : x47_2 < (l1_2.length : Int)
        ·rw [if_pos c28] at H
         have c28b0 : decide (x47_2 < (l1_2.length : Int)) = true := decide_eq_true c28
         clear c28
         by_cases c29 : 0 ≤ x47_2
         ·rw [if_pos c29] at H
          have c29b0 : decide (0 ≤ x47_2) = true := decide_eq_true c29
          clear c29
          by_cases c30 : x47_2 < (l1_2.length : Int)
          ·rw [if_pos c30] at H
           have c30b0 : decide (x47_2 < (l1_2.length : Int)) = true := decide_eq_true c30
           clear c30
           by_cases c31 : (rd l1_2 x47_2) < (-3)
           ·rw [if_pos c31] at H
            have c31b0 : decide ((rd l1_2 x47_2) < (-3)) = true := decide_eq_true c31
            clear c31
            obtain rfl := Option.some.inj H
            have p173 : 0 ≤ (x47_2 : Int) := of_decide_eq_true (by first | (with_reducible assumption) | assumption)
            have q173 : x47_2 < (l1_2.length : Int) := of_decide_eq_true (by first | (with_reducible assumption) | assumption)
            obtain ⟨ad173, e173, hx173_0⟩ := Kd.at_int HR1_2.out x47_2 p173 q173
            cases e173
            replace hx173_0 := (HB.out.cell (World.block_lt_of_cell? w _ hx173_0)).trans hx173_0; replace p173 := eq_true p173; replace q173 := eq_true q173
            go_wp2
            go_ret
            exact ⟨xer, xW HB⟩
           ·rw [if_neg c31] at H
            have c31b0 : decide ((rd l1_2 x47_2) < (-3)) = false := decide_eq_false c31
            clear c31
            by_cases c32 : (rd l1_2 x47_2) > (wrap64 (2 * (l0_3.length : Int)))
            ·rw [if_pos c32] at H
             have c32b0 : decide ((wrap64 (2 * (l0_3.length : Int))) < (rd l1_2 x47_2)) = true := decide_eq_true c32
             clear c32
             obtain rfl := Option.some.inj H
             have p173 : 0 ≤ (x47_2 : Int) := of_decide_eq_true (by first | (with_reducible assumption) | assumption)
             have q173 : x47_2 < (l1_2.length : Int) := of_decide_eq_true (by first | (with_reducible assumption) | assumption)
             obtain ⟨ad173, e173, hx173_0⟩ := Kd.at_int HR1_2.out x47_2 p173 q173
             cases e173
             replace hx173_0 := (HB.out.cell (World.block_lt_of_cell? w _ hx173_0)).trans hx173_0; replace p173 := eq_true p173; replace q173 := eq_true q173; have hcz34_0 := blkc11 BK170.out
             go_wp2
             go_ret
             exact ⟨xer, xW HB⟩
            ·rw [if_neg c32] at H
             have c32b0 : decide ((wrap64 (2 * (l0_3.length : Int))) < (rd l1_2 x47_2)) = false := decide_eq_false c32
             clear c32
             have H' := Aside0.mk H
             clear H
             have p173 : 0 ≤ (x47_2 : Int) := of_decide_eq_true (by first | (with_reducible assumption) | assumption)
             have q173 : x47_2 < (l1_2.length : Int) := of_decide_eq_true (by first | (with_reducible assumption) | assumption)
             obtain ⟨ad173, e173, hx173_0⟩ := Kd.at_int HR1_2.out x47_2 p173 q173
             cases e173
             replace hx173_0 := (HB.out.cell (World.block_lt_of_cell? w _ hx173_0)).trans hx173_0; replace p173 := eq_true p173; replace q173 := eq_true q173; have hcz36_0 := blkc11 BK170.out
             go_wp2
             go_roundg k2
             case measure => have := HJ4.out; have := HK2.out; omega
             case rel => exact ⟨(wrap64 (x47_2 + 1)), (xrf), H', ⟨by have := HJ4.out; have := HK2.out; omega⟩, ⟨xK BK170⟩, ⟨xK BK171⟩, ⟨xW HB⟩⟩
          ·rw [if_neg c30] at H
           exact absurd H (by simp)
         ·rw [if_neg c29] at H
          exact absurd H (by simp)
        ·rw [if_neg c28] at H
         have c28b0 : decide (x47_2 < (l1_2.length : Int)) = false := decide_eq_false c28
         clear c28
         by_cases c37 : a1_3 < (-1)
         ·rw [if_pos c37] at H
          have c37b0 : decide (a1_3 < (-1)) = true := decide_eq_true c37
          clear c37
          obtain rfl := Option.some.inj H
          have hcz39_0 := blkc4 BK171.out
          go_wp2
          go_ret
          exact ⟨xer, xW HB⟩
         ·rw [if_neg c37] at H
          have c37b0 : decide (a1_3 < (-1)) = false := decide_eq_false c37
          clear c37
          by_cases c40 : a1_3 > 1
          ·rw [if_pos c40] at H
           have c40b0 : decide (1 < a1_3) = true := decide_eq_true c40
           clear c40
           obtain rfl := Option.some.inj H
           have hcz42_0 := blkc4 BK171.out
           go_wp2
           go_ret
           exact ⟨xer, xW HB⟩
          ·rw [if_neg c40] at H
           have c40b0 : decide (1 < a1_3) = false := decide_eq_false c40
           clear c40
           obtain rfl := Option.some.inj H
           have hcz44_0 := blkc4 BK171.out
           go_wp2
           go_ret
           exact ⟨xer, xW HB⟩
     ·rw [if_neg c25] at H
      have c25b0 : ((l1_2.length : Int) == (wrap64 (a1_0 * a1_1))) = false := beq_eq_false_iff_ne.mpr c25
      have c25b1 : ((l1_2.length : Int) != (wrap64 (a1_0 * a1_1))) = true := bne_iff_ne.mpr c25
      obtain rfl := Option.some.inj H
      have hcz46_0 := blkc4 BK171.out
      go_wp2
      go_ret
      exact ⟨xer, xW HB⟩
 ·rw [if_neg c4] at H
  have c4b0 : (t172 == 0) = false := beq_eq_false_iff_ne.mpr c4
  have c4b1 : (t172 != 0) = true := bne_iff_ne.mpr c4
  obtain rfl := Option.some.inj H
  go_enter Try.func35, Try.ntmps35
  go_wp2_with (first | ((with_reducible refine gate_dst (N := 2) rfl ?_); (try (refine gate_guard (by rfl) ?_; dsimp only)); refine box_event ?hg (N := 2) ?hd (cs := #[.string a0_0, .int .i64 a0_1, .int .i64 a0_2, .slice A0_3 l0_3.length c0_3, .slice A0_4 l0_4.length c0_4, .bool a0_5, .bool a0_6, .slice A0_7 l0_7.length c0_7, .int .i64 a0_8, .int .i64 a0_9, .int .i64 a0_10]) (t := 44) ?hr ?_; (case hd => rfl); (case hg => rfl); (case hr => first | (go_simp; done) | (go_simp; rfl)); intro gb170 hg w47 hbox hb; have BK170 := Aside0.mk (hbox); have GW170 := Aside0.mk (xZ HB hg); have GE170 := Aside0.mk (xZ HB hg); replace HB := Aside0.mk (xS HB hb); clear hb hbox hg) | ((with_reducible refine gate_dst (N := 3) rfl ?_); (try (refine gate_guard (by rfl) ?_; dsimp only)); refine box_event ?hg (N := 3) ?hd (cs := #[.int .i64 a1_0, .int .i64 a1_1, .slice A1_2 l1_2.length c1_2, .int .i64 a1_3]) (t := 49) ?hr ?_; (case hd => rfl); (case hg => rfl); (case hr => first | (go_simp; done) | (go_simp; rfl)); intro gb171 hg w48 hbox hb; have BK171 := Aside0.mk (hbox); have GW171 := Aside0.mk (xZ HB hg); have GE171 := Aside0.mk (xZ HB hg); have NB170_171 := Aside0.mk (xN BK170 hg); have NB171_170 := Aside0.mk (xM BK170 hg); replace BK170 := Aside0.mk (xB BK170 hb); replace HB := Aside0.mk (xS HB hb); clear hb hbox hg; have hnb49 := NB170_171.out; have hnc49 := NB171_170.out; have hcz50_0 := blkc11 BK170.out) | ((with_reducible refine gate_callee (f := 36) rfl ?_); refine goesL_ (some 9) rfl rfl Try.func36 (by kernel_rfl) rfl #[.agg #[.string a0_0, .int .i64 a0_1, .int .i64 a0_2, .slice A0_3 l0_3.length c0_3, .slice A0_4 l0_4.length c0_4, .bool a0_5, .bool a0_6, .slice A0_7 l0_7.length c0_7, .int .i64 a0_8, .int .i64 a0_9, .int .i64 a0_10]] rfl (by (try simp only [List.map_toArray, List.map_cons, List.map_nil]); first | done | rfl | (simp only [List.length_drop, List.length_take]; rfl)) ?_; (with_reducible refine (rules_Check.calls k a0_0 a0_1 a0_2 _ _ l0_3 _ _ l0_4 a0_5 a0_6 _ _ l0_7 a0_8 a0_9 a0_10 t172 _ ?side1 ?side2 ?side3 ?side4 ?side5 ?side6 A3.out).mono ?_); (case side1 => exact xC (Kd.C_below HR0_3.out HB.out)); (case side2 => exact HC0_3.out); (case side3 => exact xC (Kd.C_below HR0_4.out HB.out)); (case side4 => exact HC0_4.out); (case side5 => exact xC (Kd.C_below HR0_7.out HB.out)); (case side6 => exact HC0_7.out); rintro e w51 ⟨rfl, hb⟩; refine ⟨_, rfl, ?_⟩; replace BK170 := Aside0.mk (xB BK170 hb); replace BK171 := Aside0.mk (xB BK171 hb); replace HB := Aside0.mk (xS HB hb); (try clear hb); (try clear hb2); (try clear hk); (try clear hi)))
  go_ret
  exact ⟨xer, xW HB⟩

/-! ### moves_Owner: function 57 -/
def moves_Owner.f (a0 : Int) : Option (Int) := if a0 = 0 then (some (-1)) else (some (Int.tmod (wrap64 (a0 - 1)) 2))
set_option maxHeartbeats 8000000 in
set_option maxRecDepth 100000 in
theorem moves_Owner.calls (a0 : Int) (r : Int) (w : World) (h : moves_Owner.f a0 = some r) :
    Calls Try.prog 57 #[.int .i64 a0] w fun e w' => e = .returned (.int .i64 r) ∧ Drawn0 w w' := by
 have H : (if a0 = 0 then (some (-1)) else (some (Int.tmod (wrap64 (a0 - 1)) 2))) = some r := h
 clear h
 by_cases c2 : a0 = 0
 ·rw [if_pos c2] at H
  have c2b0 : (a0 == 0) = true := beq_iff_eq.mpr c2
  have c2b1 : (a0 != 0) = false := bne_eq_false_iff_eq.mpr c2
  clear c2
  obtain rfl := Option.some.inj H
  go_enter Try.func57, Try.ntmps57
  go_wp2
  go_ret
  exact ⟨xrf, by repeat (first | exact Drawn0.refl _ | apply Drawn0.step)⟩
 ·rw [if_neg c2] at H
  have c2b0 : (a0 == 0) = false := beq_eq_false_iff_ne.mpr c2
  have c2b1 : (a0 != 0) = true := bne_iff_ne.mpr c2
  obtain rfl := Option.some.inj H
  go_enter Try.func57, Try.ntmps57
  go_wp2
  go_ret
  exact ⟨xrf, by repeat (first | exact Drawn0.refl _ | apply Drawn0.step)⟩

/-! ### pattern_fits: function 53 -/
def pattern_fits.f (a0 : Int) (a1 : Int) : Option (Bool) := if a1 = (-1) then (some true) else (if a1 = (-2) then ((moves_Owner.f a0).bind fun t174 => (some (t174 == 0))) else (if a1 = (-3) then ((moves_Owner.f a0).bind fun t175 => (some (t175 == 1))) else (some (a0 == a1))))
set_option maxHeartbeats 8000000 in
set_option maxRecDepth 100000 in
theorem pattern_fits.calls (a0 : Int) (a1 : Int) (r : Bool) (w : World) (h : pattern_fits.f a0 a1 = some r) :
    Calls Try.prog 53 #[.int .i64 a0, .int .i64 a1] w fun e w' => e = .returned (.bool r) ∧ Drawn0 w w' := by
 have H : (if a1 = (-1) then (some true) else (if a1 = (-2) then ((moves_Owner.f a0).bind fun t174 => (some (t174 == 0))) else (if a1 = (-3) then ((moves_Owner.f a0).bind fun t175 => (some (t175 == 1))) else (some (a0 == a1))))) = some r := h
 clear h
 by_cases c3 : a1 = (-1)
 ·rw [if_pos c3] at H
  have c3b0 : (a1 == (-1)) = true := beq_iff_eq.mpr c3
  have c3b1 : (a1 != (-1)) = false := bne_eq_false_iff_eq.mpr c3
  clear c3
  obtain rfl := Option.some.inj H
  go_enter Try.func53, Try.ntmps53
  go_wp2
  go_ret
  exact ⟨xrf, by repeat (first | exact Drawn0.refl _ | apply Drawn0.step)⟩
 ·rw [if_neg c3] at H
  have c3b0 : (a1 == (-1)) = false := beq_eq_false_iff_ne.mpr c3
  have c3b1 : (a1 != (-1)) = true := bne_iff_ne.mpr c3
  by_cases c4 : a1 = (-2)
  ·rw [if_pos c4] at H
   have c4b0 : (a1 == (-2)) = true := beq_iff_eq.mpr c4
   have c4b1 : (a1 != (-2)) = false := bne_eq_false_iff_eq.mpr c4
   clear c4; replace H := Option.bind_eq_some_iff.mp H
   obtain ⟨t174, A50, H⟩ := H
   replace H : (some (t174 == 0)) = some r := H
   have A5 := Aside0.mk A50; clear A50
   obtain rfl := Option.some.inj H
   go_enter Try.func53, Try.ntmps53
   go_wp2_with (first | ((with_reducible refine gate_callee (f := 57) rfl ?_); refine goesL_ (some 11) rfl rfl Try.func57 (by kernel_rfl) rfl #[.int .i64 a0] rfl (by (try simp only [List.map_toArray, List.map_cons, List.map_nil]); first | done | rfl | (simp only [List.length_drop, List.length_take]; rfl)) ?_; (with_reducible refine (moves_Owner.calls a0 t174 _ A5.out).mono ?_); rintro e w' ⟨rfl, ⟨nd, rfl⟩⟩; refine ⟨_, rfl, ?_⟩))
   go_ret
   exact ⟨xrf, by repeat (first | exact Drawn0.refl _ | apply Drawn0.step)⟩
  ·rw [if_neg c4] at H
   have c4b0 : (a1 == (-2)) = false := beq_eq_false_iff_ne.mpr c4
   have c4b1 : (a1 != (-2)) = true := bne_iff_ne.mpr c4
   by_cases c6 : a1 = (-3)
   ·rw [if_pos c6] at H
    have c6b0 : (a1 == (-3)) = true := beq_iff_eq.mpr c6
    have c6b1 : (a1 != (-3)) = false := bne_eq_false_iff_eq.mpr c6
    clear c6; replace H := Option.bind_eq_some_iff.mp H
    obtain ⟨t175, A70, H⟩ := H
    replace H : (some (t175 == 1)) = some r := H
    have A7 := Aside0.mk A70; clear A70
    obtain rfl := Option.some.inj H
    go_enter Try.func53, Try.ntmps53
    go_wp2_with (first | ((with_reducible refine gate_callee (f := 57) rfl ?_); refine goesL_ (some 16) rfl rfl Try.func57 (by kernel_rfl) rfl #[.int .i64 a0] rfl (by (try simp only [List.map_toArray, List.map_cons, List.map_nil]); first | done | rfl | (simp only [List.length_drop, List.length_take]; rfl)) ?_; (with_reducible refine (moves_Owner.calls a0 t175 _ A7.out).mono ?_); rintro e w' ⟨rfl, ⟨nd, rfl⟩⟩; refine ⟨_, rfl, ?_⟩))
    go_ret
    exact ⟨xrf, by repeat (first | exact Drawn0.refl _ | apply Drawn0.step)⟩
   ·rw [if_neg c6] at H
    have c6b0 : (a1 == (-3)) = false := beq_eq_false_iff_ne.mpr c6
    have c6b1 : (a1 != (-3)) = true := bne_iff_ne.mpr c6
    obtain rfl := Option.some.inj H
    go_enter Try.func53, Try.ntmps53
    go_wp2
    go_ret
    exact ⟨xrf, by repeat (first | exact Drawn0.refl _ | apply Drawn0.step)⟩

end Go.Proofs.Ytemfkhafkhkffaa.PPatternCuts
