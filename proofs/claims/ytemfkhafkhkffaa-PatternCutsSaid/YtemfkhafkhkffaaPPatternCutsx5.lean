-- Printed by a program of this claim's writer (wip/ext): an extension of the kit's print.
import Derived.Test.YtemfkhafkhkffaaPPatternCutsx0
import Derived.Test.YtemfkhafkhkffaaPPatternCutsx4
namespace Go.Proofs.Ytemfkhafkhkffaa.PPatternCuts
open Go.RowKit Go.Proofs.YtemfkhafkhkffaaW.PrintWords Go.Proofs.YtemfkhafkhkffaaW.PrintLast Go.Proofs.YtemfkhafkhkffaaW.PrintMore
attribute [local go_sem] max2_int min2_int max_two min_two max_three min_three max_four min_four   -- for this text's walks alone
set_option linter.unusedVariables false
set_option linter.unusedSimpArgs false

/-! ### pattern_at: function 46 -/
mutual
def pattern_at.j0 : Nat → Int → Bool → ByteArray → Int → Int → List (S101) → List Int → Bool → Bool → List (S103) → Int → Int → Int → Int → Int → List Int → Int → List Int → List Int → List Int → Int → Int → Option (Bool)
  | 0, _, _, _, _, _, _, _, _, _, _, _, _, _, _, _, _, _, _, _, _, _, _ => none
  | k + 1, x3, x44, z177a, z177b, z177c, z177d, z177e, z177f, z177g, z177h, z177i, z177j, z177k, z178a, z178b, z178c, z178d, z179a, z179b, z179c, z179d, z179e => if x44 = true then (some false) else (pattern_at.l0 k x3 z178c (z178c.length : Int) 0 z177a z177b z177c z177d z177e z177f z177g z177h z177i z177j z177k z178a z178b z178c z178d z179a z179b z179c z179d z179e)
def pattern_at.l0 : Nat → Int → List Int → Int → Int → ByteArray → Int → Int → List (S101) → List Int → Bool → Bool → List (S103) → Int → Int → Int → Int → Int → List Int → Int → List Int → List Int → List Int → Int → Int → Option (Bool)
  | 0, _, _, _, _, _, _, _, _, _, _, _, _, _, _, _, _, _, _, _, _, _, _, _, _ => none
  | k + 1, x3, x46, x47, x48, z177a, z177b, z177c, z177d, z177e, z177f, z177g, z177h, z177i, z177j, z177k, z178a, z178b, z178c, z178d, z179a, z179b, z179c, z179d, z179e => if x48 < x47 then (if 0 ≤ x48 then (if x48 < (x46.length : Int) then (if z178a = 0 then (none) else (if 0 ≤ (wrap64 ((wrap64 (x3 + (wrap64 ((wrap64 (Int.tdiv x48 z178a)) * z177b)))) + (Int.tmod x48 z178a))) then (if (wrap64 ((wrap64 (x3 + (wrap64 ((wrap64 (Int.tdiv x48 z178a)) * z177b)))) + (Int.tmod x48 z178a))) < (z179a.length : Int) then ((pattern_fits.f (rd z179a (wrap64 ((wrap64 (x3 + (wrap64 ((wrap64 (Int.tdiv x48 z178a)) * z177b)))) + (Int.tmod x48 z178a)))) (rd x46 x48)).bind fun t181 => (if t181 = true then (pattern_at.l0 k x3 x46 x47 (wrap64 (x48 + 1)) z177a z177b z177c z177d z177e z177f z177g z177h z177i z177j z177k z178a z178b z178c z178d z179a z179b z179c z179d z179e) else (some false))) else (none)) else (none))) else (none)) else (none)) else (some true)
end
def pattern_at.f (k : Nat) (a0_0 : ByteArray) (a0_1 : Int) (a0_2 : Int) (l0_3 : List (S101)) (l0_4 : List Int) (a0_5 : Bool) (a0_6 : Bool) (l0_7 : List (S103)) (a0_8 : Int) (a0_9 : Int) (a0_10 : Int) (a1_0 : Int) (a1_1 : Int) (l1_2 : List Int) (a1_3 : Int) (l2_0 : List Int) (l2_1 : List Int) (l2_2 : List Int) (a2_3 : Int) (a2_4 : Int) (a3 : Int) : Option (Bool) := if a1_3 ≥ 0 then (if a1_3 = a2_3 then (if a0_1 = 0 then (none) else (if (wrap64 ((Int.tmod a3 a0_1) + a1_0)) > a0_1 then (pattern_at.j0 k a3 true a0_0 a0_1 a0_2 l0_3 l0_4 a0_5 a0_6 l0_7 a0_8 a0_9 a0_10 a1_0 a1_1 l1_2 a1_3 l2_0 l2_1 l2_2 a2_3 a2_4) else (pattern_at.j0 k a3 (decide ((wrap64 ((wrap64 (Int.tdiv a3 a0_1)) + a1_1)) > a0_2)) a0_0 a0_1 a0_2 l0_3 l0_4 a0_5 a0_6 l0_7 a0_8 a0_9 a0_10 a1_0 a1_1 l1_2 a1_3 l2_0 l2_1 l2_2 a2_3 a2_4))) else (pattern_at.j0 k a3 true a0_0 a0_1 a0_2 l0_3 l0_4 a0_5 a0_6 l0_7 a0_8 a0_9 a0_10 a1_0 a1_1 l1_2 a1_3 l2_0 l2_1 l2_2 a2_3 a2_4)) else (if a0_1 = 0 then (none) else (if (wrap64 ((Int.tmod a3 a0_1) + a1_0)) > a0_1 then (pattern_at.j0 k a3 true a0_0 a0_1 a0_2 l0_3 l0_4 a0_5 a0_6 l0_7 a0_8 a0_9 a0_10 a1_0 a1_1 l1_2 a1_3 l2_0 l2_1 l2_2 a2_3 a2_4) else (pattern_at.j0 k a3 (decide ((wrap64 ((wrap64 (Int.tdiv a3 a0_1)) + a1_1)) > a0_2)) a0_0 a0_1 a0_2 l0_3 l0_4 a0_5 a0_6 l0_7 a0_8 a0_9 a0_10 a1_0 a1_1 l1_2 a1_3 l2_0 l2_1 l2_2 a2_3 a2_4)))
theorem pattern_at.mono_l : ∀ k, (∀ y0 y1 y2 y3 y4 y5 y6 y7 y8 y9 y10 y11 y12 y13 y14 y15 y16 y17 y18 y19 y20 y21, LeO (pattern_at.j0 k y0 y1 y2 y3 y4 y5 y6 y7 y8 y9 y10 y11 y12 y13 y14 y15 y16 y17 y18 y19 y20 y21) (pattern_at.j0 (k + 1) y0 y1 y2 y3 y4 y5 y6 y7 y8 y9 y10 y11 y12 y13 y14 y15 y16 y17 y18 y19 y20 y21)) ∧ (∀ y0 y1 y2 y3 y4 y5 y6 y7 y8 y9 y10 y11 y12 y13 y14 y15 y16 y17 y18 y19 y20 y21 y22 y23, LeO (pattern_at.l0 k y0 y1 y2 y3 y4 y5 y6 y7 y8 y9 y10 y11 y12 y13 y14 y15 y16 y17 y18 y19 y20 y21 y22 y23) (pattern_at.l0 (k + 1) y0 y1 y2 y3 y4 y5 y6 y7 y8 y9 y10 y11 y12 y13 y14 y15 y16 y17 y18 y19 y20 y21 y22 y23))
  | 0 => ⟨fun _ _ _ _ _ _ _ _ _ _ _ _ _ _ _ _ _ _ _ _ _ _ r h => by simp [pattern_at.j0] at h, fun _ _ _ _ _ _ _ _ _ _ _ _ _ _ _ _ _ _ _ _ _ _ _ _ r h => by simp [pattern_at.l0] at h⟩
  | k + 1 => by
    obtain ⟨ih0, ih1⟩ := pattern_at.mono_l k
    refine ⟨?_, ?_⟩
    · intros
      unfold pattern_at.j0
      repeat' first
      | (with_reducible apply ih0)
      | (with_reducible apply ih1)
      | (with_reducible exact LeO.refl _)
      | (with_reducible exact LeO.none _)
      | (with_reducible refine LeO.ite ?_ ?_)
      | (with_reducible refine LeO.bind ?_ (fun _ => ?_))
      | apply ih0
      | apply ih1
      | exact LeO.none _
      | refine LeO.ite ?_ ?_
      | refine LeO.bind ?_ (fun _ => ?_)
    · intros
      unfold pattern_at.l0
      repeat' first
      | (with_reducible apply ih0)
      | (with_reducible apply ih1)
      | (with_reducible exact LeO.refl _)
      | (with_reducible exact LeO.none _)
      | (with_reducible refine LeO.ite ?_ ?_)
      | (with_reducible refine LeO.bind ?_ (fun _ => ?_))
      | apply ih0
      | apply ih1
      | exact LeO.none _
      | refine LeO.ite ?_ ?_
      | refine LeO.bind ?_ (fun _ => ?_)
theorem pattern_at.mono : ∀ a0 a1 a2 a3 a4 a5 a6 a7 a8 a9 a10 a11 a12 a13 a14 a15 a16 a17 a18 a19 a20 k, LeO (pattern_at.f k a0 a1 a2 a3 a4 a5 a6 a7 a8 a9 a10 a11 a12 a13 a14 a15 a16 a17 a18 a19 a20) (pattern_at.f (k + 1) a0 a1 a2 a3 a4 a5 a6 a7 a8 a9 a10 a11 a12 a13 a14 a15 a16 a17 a18 a19 a20) := by
  intro a0 a1 a2 a3 a4 a5 a6 a7 a8 a9 a10 a11 a12 a13 a14 a15 a16 a17 a18 a19 a20 k
  obtain ⟨ih0, ih1⟩ := pattern_at.mono_l k
  unfold pattern_at.f
  repeat' first
      | (with_reducible apply ih0)
      | (with_reducible apply ih1)
      | (with_reducible exact LeO.refl _)
      | (with_reducible exact LeO.none _)
      | (with_reducible refine LeO.ite ?_ ?_)
      | (with_reducible refine LeO.bind ?_ (fun _ => ?_))
      | apply ih0
      | apply ih1
      | exact LeO.none _
      | refine LeO.ite ?_ ?_
      | refine LeO.bind ?_ (fun _ => ?_)
set_option maxHeartbeats 8000000 in
set_option maxRecDepth 100000 in
theorem pattern_at.calls (k : Nat) (a0_0 : ByteArray) (a0_1 : Int) (a0_2 : Int) (A0_3 : Option Addr) (c0_3 : Nat) (l0_3 : List (S101)) (A0_4 : Option Addr) (c0_4 : Nat) (l0_4 : List Int) (a0_5 : Bool) (a0_6 : Bool) (A0_7 : Option Addr) (c0_7 : Nat) (l0_7 : List (S103)) (a0_8 : Int) (a0_9 : Int) (a0_10 : Int) (a1_0 : Int) (a1_1 : Int) (A1_2 : Option Addr) (c1_2 : Nat) (l1_2 : List Int) (a1_3 : Int) (A2_0 : Option Addr) (c2_0 : Nat) (l2_0 : List Int) (A2_1 : Option Addr) (c2_1 : Nat) (l2_1 : List Int) (A2_2 : Option Addr) (c2_2 : Nat) (l2_2 : List Int) (a2_3 : Int) (a2_4 : Int) (a3 : Int) (r : Bool) (w : World) (hr0_3 : Kd.C k101 w A0_3 l0_3.length l0_3) (hc0_3 : l0_3.length ≤ c0_3) (hr0_4 : Kd.C (Kd.int .i64) w A0_4 l0_4.length l0_4) (hc0_4 : l0_4.length ≤ c0_4) (hr0_7 : Kd.C k103 w A0_7 l0_7.length l0_7) (hc0_7 : l0_7.length ≤ c0_7) (hr1_2 : Kd.C (Kd.int .i64) w A1_2 l1_2.length l1_2) (hc1_2 : l1_2.length ≤ c1_2) (hr2_0 : Kd.C (Kd.int .i64) w A2_0 l2_0.length l2_0) (hc2_0 : l2_0.length ≤ c2_0) (hr2_1 : Kd.C (Kd.int .i64) w A2_1 l2_1.length l2_1) (hc2_1 : l2_1.length ≤ c2_1) (hr2_2 : Kd.C (Kd.int .i64) w A2_2 l2_2.length l2_2) (hc2_2 : l2_2.length ≤ c2_2) (h : pattern_at.f k a0_0 a0_1 a0_2 l0_3 l0_4 a0_5 a0_6 l0_7 a0_8 a0_9 a0_10 a1_0 a1_1 l1_2 a1_3 l2_0 l2_1 l2_2 a2_3 a2_4 a3 = some r) :
    Calls Try.prog 46 #[.agg #[.string a0_0, .int .i64 a0_1, .int .i64 a0_2, .slice A0_3 l0_3.length c0_3, .slice A0_4 l0_4.length c0_4, .bool a0_5, .bool a0_6, .slice A0_7 l0_7.length c0_7, .int .i64 a0_8, .int .i64 a0_9, .int .i64 a0_10], .agg #[.int .i64 a1_0, .int .i64 a1_1, .slice A1_2 l1_2.length c1_2, .int .i64 a1_3], .agg #[.slice A2_0 l2_0.length c2_0, .slice A2_1 l2_1.length c2_1, .slice A2_2 l2_2.length c2_2, .int .i64 a2_3, .int .i64 a2_4], .int .i64 a3] w fun e w' => e = .returned (.bool r) ∧ Below w.heap.size w w' := by
 have hu44 := Try.underlying44; have hu49 := Try.underlying49; have hu47 := Try.underlying47; have HR0_3 := Aside0.mk hr0_3; have HC0_3 := Aside0.mk hc0_3; clear hr0_3 hc0_3; have HR0_4 := Aside0.mk hr0_4; have HC0_4 := Aside0.mk hc0_4; clear hr0_4 hc0_4; have HR0_7 := Aside0.mk hr0_7; have HC0_7 := Aside0.mk hc0_7; clear hr0_7 hc0_7; have HR1_2 := Aside0.mk hr1_2; have HC1_2 := Aside0.mk hc1_2; clear hr1_2 hc1_2; have HR2_0 := Aside0.mk hr2_0; have HC2_0 := Aside0.mk hc2_0; clear hr2_0 hc2_0; have HR2_1 := Aside0.mk hr2_1; have HC2_1 := Aside0.mk hc2_1; clear hr2_1 hc2_1; have HR2_2 := Aside0.mk hr2_2; have HC2_2 := Aside0.mk hc2_2; clear hr2_2 hc2_2; have HB := Aside0.mk (Below.refl w.heap.size w); have hss_ := @isSome_setCell
 have H : (if a1_3 ≥ 0 then (if a1_3 = a2_3 then (if a0_1 = 0 then (none) else (if (wrap64 ((Int.tmod a3 a0_1) + a1_0)) > a0_1 then (pattern_at.j0 k a3 true a0_0 a0_1 a0_2 l0_3 l0_4 a0_5 a0_6 l0_7 a0_8 a0_9 a0_10 a1_0 a1_1 l1_2 a1_3 l2_0 l2_1 l2_2 a2_3 a2_4) else (pattern_at.j0 k a3 (decide ((wrap64 ((wrap64 (Int.tdiv a3 a0_1)) + a1_1)) > a0_2)) a0_0 a0_1 a0_2 l0_3 l0_4 a0_5 a0_6 l0_7 a0_8 a0_9 a0_10 a1_0 a1_1 l1_2 a1_3 l2_0 l2_1 l2_2 a2_3 a2_4))) else (pattern_at.j0 k a3 true a0_0 a0_1 a0_2 l0_3 l0_4 a0_5 a0_6 l0_7 a0_8 a0_9 a0_10 a1_0 a1_1 l1_2 a1_3 l2_0 l2_1 l2_2 a2_3 a2_4)) else (if a0_1 = 0 then (none) else (if (wrap64 ((Int.tmod a3 a0_1) + a1_0)) > a0_1 then (pattern_at.j0 k a3 true a0_0 a0_1 a0_2 l0_3 l0_4 a0_5 a0_6 l0_7 a0_8 a0_9 a0_10 a1_0 a1_1 l1_2 a1_3 l2_0 l2_1 l2_2 a2_3 a2_4) else (pattern_at.j0 k a3 (decide ((wrap64 ((wrap64 (Int.tdiv a3 a0_1)) + a1_1)) > a0_2)) a0_0 a0_1 a0_2 l0_3 l0_4 a0_5 a0_6 l0_7 a0_8 a0_9 a0_10 a1_0 a1_1 l1_2 a1_3 l2_0 l2_1 l2_2 a2_3 a2_4)))) = some r := h
 clear h; have HC5 := Aside0.mk H; clear H
 go_enter Try.func46, Try.ntmps46
 go_upto_region 1 with (first | ((with_reducible refine gate_dst (N := 4) rfl ?_); refine box_event ?hg (N := 4) ?hd (cs := #[.string a0_0, .int .i64 a0_1, .int .i64 a0_2, .slice A0_3 l0_3.length c0_3, .slice A0_4 l0_4.length c0_4, .bool a0_5, .bool a0_6, .slice A0_7 l0_7.length c0_7, .int .i64 a0_8, .int .i64 a0_9, .int .i64 a0_10]) (t := 44) ?hr ?_; (case hd => rfl); (case hg => rfl); (case hr => first | (go_simp; done) | (go_simp; rfl)); intro gb176 hg w6 hbox hb; have BK176 := Aside0.mk (hbox); have GW176 := Aside0.mk (xZ HB hg); have GE176 := Aside0.mk (xZ HB hg); replace HB := Aside0.mk (xS HB hb); clear hb hbox hg) | ((with_reducible refine gate_dst (N := 5) rfl ?_); refine box_event ?hg (N := 5) ?hd (cs := #[.int .i64 a1_0, .int .i64 a1_1, .slice A1_2 l1_2.length c1_2, .int .i64 a1_3]) (t := 49) ?hr ?_; (case hd => rfl); (case hg => rfl); (case hr => first | (go_simp; done) | (go_simp; rfl)); intro gb177 hg w7 hbox hb; have BK177 := Aside0.mk (hbox); have GW177 := Aside0.mk (xZ HB hg); have GE177 := Aside0.mk (xZ HB hg); have NB176_177 := Aside0.mk (xN BK176 hg); have NB177_176 := Aside0.mk (xM BK176 hg); replace BK176 := Aside0.mk (xB BK176 hb); replace HB := Aside0.mk (xS HB hb); clear hb hbox hg) | ((with_reducible refine gate_dst (N := 6) rfl ?_); refine box_event ?hg (N := 6) ?hd (cs := #[.slice A2_0 l2_0.length c2_0, .slice A2_1 l2_1.length c2_1, .slice A2_2 l2_2.length c2_2, .int .i64 a2_3, .int .i64 a2_4]) (t := 47) ?hr ?_; (case hd => rfl); (case hg => rfl); (case hr => first | (go_simp; done) | (go_simp; rfl)); intro gb178 hg w8 hbox hb; have BK178 := Aside0.mk (hbox); have GW178 := Aside0.mk (xZ HB hg); have GE178 := Aside0.mk (xZ HB hg); have NB176_178 := Aside0.mk (xN BK176 hg); have NB178_176 := Aside0.mk (xM BK176 hg); have NB177_178 := Aside0.mk (xN BK177 hg); have NB178_177 := Aside0.mk (xM BK177 hg); replace BK176 := Aside0.mk (xB BK176 hb); replace BK177 := Aside0.mk (xB BK177 hb); replace HB := Aside0.mk (xS HB hb); clear hb hbox hg))
 repeat (go_quiet (first | ((with_reducible refine gate_dst (N := 4) rfl ?_); refine box_event ?hg (N := 4) ?hd (cs := #[.string a0_0, .int .i64 a0_1, .int .i64 a0_2, .slice A0_3 l0_3.length c0_3, .slice A0_4 l0_4.length c0_4, .bool a0_5, .bool a0_6, .slice A0_7 l0_7.length c0_7, .int .i64 a0_8, .int .i64 a0_9, .int .i64 a0_10]) (t := 44) ?hr ?_; (case hd => rfl); (case hg => rfl); (case hr => first | (go_simp; done) | (go_simp; rfl)); intro gb176 hg w6 hbox hb; have BK176 := Aside0.mk (hbox); have GW176 := Aside0.mk (xZ HB hg); have GE176 := Aside0.mk (xZ HB hg); replace HB := Aside0.mk (xS HB hb); clear hb hbox hg) | ((with_reducible refine gate_dst (N := 5) rfl ?_); refine box_event ?hg (N := 5) ?hd (cs := #[.int .i64 a1_0, .int .i64 a1_1, .slice A1_2 l1_2.length c1_2, .int .i64 a1_3]) (t := 49) ?hr ?_; (case hd => rfl); (case hg => rfl); (case hr => first | (go_simp; done) | (go_simp; rfl)); intro gb177 hg w7 hbox hb; have BK177 := Aside0.mk (hbox); have GW177 := Aside0.mk (xZ HB hg); have GE177 := Aside0.mk (xZ HB hg); have NB176_177 := Aside0.mk (xN BK176 hg); have NB177_176 := Aside0.mk (xM BK176 hg); replace BK176 := Aside0.mk (xB BK176 hb); replace HB := Aside0.mk (xS HB hb); clear hb hbox hg) | ((with_reducible refine gate_dst (N := 6) rfl ?_); refine box_event ?hg (N := 6) ?hd (cs := #[.slice A2_0 l2_0.length c2_0, .slice A2_1 l2_1.length c2_1, .slice A2_2 l2_2.length c2_2, .int .i64 a2_3, .int .i64 a2_4]) (t := 47) ?hr ?_; (case hd => rfl); (case hg => rfl); (case hr => first | (go_simp; done) | (go_simp; rfl)); intro gb178 hg w8 hbox hb; have BK178 := Aside0.mk (hbox); have GW178 := Aside0.mk (xZ HB hg); have GE178 := Aside0.mk (xZ HB hg); have NB176_178 := Aside0.mk (xN BK176 hg); have NB178_176 := Aside0.mk (xM BK176 hg); have NB177_178 := Aside0.mk (xN BK177 hg); have NB178_177 := Aside0.mk (xM BK177 hg); replace BK176 := Aside0.mk (xB BK176 hb); replace BK177 := Aside0.mk (xB BK177 hb); replace HB := Aside0.mk (xS HB hb); clear hb hbox hg)); go_upto_region 1 with (first | ((with_reducible refine gate_dst (N := 4) rfl ?_); refine box_event ?hg (N := 4) ?hd (cs := #[.string a0_0, .int .i64 a0_1, .int .i64 a0_2, .slice A0_3 l0_3.length c0_3, .slice A0_4 l0_4.length c0_4, .bool a0_5, .bool a0_6, .slice A0_7 l0_7.length c0_7, .int .i64 a0_8, .int .i64 a0_9, .int .i64 a0_10]) (t := 44) ?hr ?_; (case hd => rfl); (case hg => rfl); (case hr => first | (go_simp; done) | (go_simp; rfl)); intro gb176 hg w6 hbox hb; have BK176 := Aside0.mk (hbox); have GW176 := Aside0.mk (xZ HB hg); have GE176 := Aside0.mk (xZ HB hg); replace HB := Aside0.mk (xS HB hb); clear hb hbox hg) | ((with_reducible refine gate_dst (N := 5) rfl ?_); refine box_event ?hg (N := 5) ?hd (cs := #[.int .i64 a1_0, .int .i64 a1_1, .slice A1_2 l1_2.length c1_2, .int .i64 a1_3]) (t := 49) ?hr ?_; (case hd => rfl); (case hg => rfl); (case hr => first | (go_simp; done) | (go_simp; rfl)); intro gb177 hg w7 hbox hb; have BK177 := Aside0.mk (hbox); have GW177 := Aside0.mk (xZ HB hg); have GE177 := Aside0.mk (xZ HB hg); have NB176_177 := Aside0.mk (xN BK176 hg); have NB177_176 := Aside0.mk (xM BK176 hg); replace BK176 := Aside0.mk (xB BK176 hb); replace HB := Aside0.mk (xS HB hb); clear hb hbox hg) | ((with_reducible refine gate_dst (N := 6) rfl ?_); refine box_event ?hg (N := 6) ?hd (cs := #[.slice A2_0 l2_0.length c2_0, .slice A2_1 l2_1.length c2_1, .slice A2_2 l2_2.length c2_2, .int .i64 a2_3, .int .i64 a2_4]) (t := 47) ?hr ?_; (case hd => rfl); (case hg => rfl); (case hr => first | (go_simp; done) | (go_simp; rfl)); intro gb178 hg w8 hbox hb; have BK178 := Aside0.mk (hbox); have GW178 := Aside0.mk (xZ HB hg); have GE178 := Aside0.mk (xZ HB hg); have NB176_178 := Aside0.mk (xN BK176 hg); have NB178_176 := Aside0.mk (xM BK176 hg); have NB177_178 := Aside0.mk (xN BK177 hg); have NB178_177 := Aside0.mk (xM BK177 hg); replace BK176 := Aside0.mk (xB BK176 hb); replace BK177 := Aside0.mk (xB BK177 hb); replace HB := Aside0.mk (xS HB hb); clear hb hbox hg)))
 (try have hq177_176 := NB177_176.out); (try have hq176_177 := NB176_177.out); (try have hq177_178 := NB177_178.out); (try have hq178_177 := NB178_177.out); (try have hq178_176 := NB178_176.out); (try have hq176_178 := NB176_178.out)
 (try simp only [Act.put, List.setIfInBounds_toArray, List.set_cons_zero, List.set_cons_succ])
 go_cut [44] (fun vs44 wc => ∃ (kq : Nat) (x44_4 : Bool), vs44 = .bool x44_4 ∧ Aside0 (pattern_at.j0 kq a3 x44_4 a0_0 a0_1 a0_2 l0_3 l0_4 a0_5 a0_6 l0_7 a0_8 a0_9 a0_10 a1_0 a1_1 l1_2 a1_3 l2_0 l2_1 l2_2 a2_3 a2_4 = some r) ∧ Aside0 (kq ≤ k) ∧ Aside0 (wc.heap[gb176]? = some (.cells #[.string a0_0, .int .i64 a0_1, .int .i64 a0_2, (.slice A0_3 l0_3.length c0_3), (.slice A0_4 l0_4.length c0_4), .bool a0_5, .bool a0_6, (.slice A0_7 l0_7.length c0_7), .int .i64 a0_8, .int .i64 a0_9, .int .i64 a0_10] 44 (0, 0))) ∧ Aside0 (wc.heap[gb177]? = some (.cells #[.int .i64 a1_0, .int .i64 a1_1, (.slice A1_2 l1_2.length c1_2), .int .i64 a1_3] 49 (0, 0))) ∧ Aside0 (wc.heap[gb178]? = some (.cells #[(.slice A2_0 l2_0.length c2_0), (.slice A2_1 l2_1.length c2_1), (.slice A2_2 l2_2.length c2_2), .int .i64 a2_3, .int .i64 a2_4] 47 (0, 0))) ∧ Aside0 (Below w.heap.size w wc))
 case first =>
  have H := HC5.out; clear HC5
  by_cases c9 : a1_3 ≥ 0
  ·rw [if_pos c9] at H
   have c9b0 : decide (0 ≤ a1_3) = true := decide_eq_true c9
   clear c9
   (first | rw [c9b0] | (simp only [i64_w, i32_w]; rw [c9b0]) | skip)
   by_cases c10 : a1_3 = a2_3
   ·rw [if_pos c10] at H
    have c10b0 : (a1_3 == a2_3) = true := beq_iff_eq.mpr c10
    have c10b1 : (a1_3 != a2_3) = false := bne_eq_false_iff_eq.mpr c10
    clear c10
    by_cases c11 : a0_1 = 0
    ·rw [if_pos c11] at H
     exact absurd H (by simp)
    ·rw [if_neg c11] at H
     have c11b0 : (a0_1 == 0) = false := beq_eq_false_iff_ne.mpr c11
     have c11b1 : (a0_1 != 0) = true := bne_iff_ne.mpr c11
     by_cases c12 : (wrap64 ((Int.tmod a3 a0_1) + a1_0)) > a0_1
     ·rw [if_pos c12] at H
      have c12b0 : decide (a0_1 < (wrap64 ((Int.tmod a3 a0_1) + a1_0))) = true := decide_eq_true c12
      clear c12
      have H' := Aside0.mk H
      clear H; have hcz15_0 := blkc4 BK177.out; have hcz17_0 := blkc5 BK178.out; have hcz18_0 := blkc11 BK176.out
      go_wp2
      repeat (go_quiet (fail); try go_wp2)
      go_meet
      case rel => exact ⟨_, (true), (xrf), H', ⟨by first | omega | exact Nat.le_refl _⟩, ⟨xK BK176⟩, ⟨xK BK177⟩, ⟨xK BK178⟩, ⟨xW HB⟩⟩
     ·rw [if_neg c12] at H
      have c12b0 : decide (a0_1 < (wrap64 ((Int.tmod a3 a0_1) + a1_0))) = false := decide_eq_false c12
      clear c12
      have H' := Aside0.mk H
      clear H; have hcz21_0 := blkc4 BK177.out; have hcz23_0 := blkc5 BK178.out; have hcz24_0 := blkc11 BK176.out
      go_wp2
      repeat (go_quiet (fail); try go_wp2)
      go_meet
      case rel => exact ⟨_, (decide ((wrap64 ((wrap64 (Int.tdiv a3 a0_1)) + a1_1)) > a0_2)), (xrf), H', ⟨by first | omega | exact Nat.le_refl _⟩, ⟨xK BK176⟩, ⟨xK BK177⟩, ⟨xK BK178⟩, ⟨xW HB⟩⟩
   ·rw [if_neg c10] at H
    have c10b0 : (a1_3 == a2_3) = false := beq_eq_false_iff_ne.mpr c10
    have c10b1 : (a1_3 != a2_3) = true := bne_iff_ne.mpr c10
    have H' := Aside0.mk H
    clear H; have hcz27_0 := blkc4 BK177.out; have hcz29_0 := blkc5 BK178.out
    go_wp2
    repeat (go_quiet (fail); try go_wp2)
    go_meet
    case rel => exact ⟨_, (true), (xrf), H', ⟨by first | omega | exact Nat.le_refl _⟩, ⟨xK BK176⟩, ⟨xK BK177⟩, ⟨xK BK178⟩, ⟨xW HB⟩⟩
  ·rw [if_neg c9] at H
   have c9b0 : decide (0 ≤ a1_3) = false := decide_eq_false c9
   clear c9
   (first | rw [c9b0] | (simp only [i64_w, i32_w]; rw [c9b0]) | skip)
   by_cases c30 : a0_1 = 0
   ·rw [if_pos c30] at H
    exact absurd H (by simp)
   ·rw [if_neg c30] at H
    have c30b0 : (a0_1 == 0) = false := beq_eq_false_iff_ne.mpr c30
    have c30b1 : (a0_1 != 0) = true := bne_iff_ne.mpr c30
    by_cases c31 : (wrap64 ((Int.tmod a3 a0_1) + a1_0)) > a0_1
    ·rw [if_pos c31] at H
     have c31b0 : decide (a0_1 < (wrap64 ((Int.tmod a3 a0_1) + a1_0))) = true := decide_eq_true c31
     clear c31
     have H' := Aside0.mk H
     clear H; have hcz34_0 := blkc4 BK177.out; have hcz36_0 := blkc11 BK176.out
     go_wp2
     repeat (go_quiet (fail); try go_wp2)
     go_meet
     case rel => exact ⟨_, (true), (xrf), H', ⟨by first | omega | exact Nat.le_refl _⟩, ⟨xK BK176⟩, ⟨xK BK177⟩, ⟨xK BK178⟩, ⟨xW HB⟩⟩
    ·rw [if_neg c31] at H
     have c31b0 : decide (a0_1 < (wrap64 ((Int.tmod a3 a0_1) + a1_0))) = false := decide_eq_false c31
     clear c31
     have H' := Aside0.mk H
     clear H; have hcz39_0 := blkc4 BK177.out; have hcz41_0 := blkc11 BK176.out
     go_wp2
     repeat (go_quiet (fail); try go_wp2)
     go_meet
     case rel => exact ⟨_, (decide ((wrap64 ((wrap64 (Int.tdiv a3 a0_1)) + a1_1)) > a0_2)), (xrf), H', ⟨by first | omega | exact Nat.le_refl _⟩, ⟨xK BK176⟩, ⟨xK BK177⟩, ⟨xK BK178⟩, ⟨xW HB⟩⟩
 case rest =>
  clear HC5; (try clear p2); (try clear p6)
  obtain ⟨kq, x44_4, rfl, HA, HJ4, BK176, BK177, BK178, HB⟩ := hcut
  cases kq with
  | zero => exact absurd HA.out (by simp [pattern_at.j0])
  | succ kj4 =>
   have H := HA.out; clear HA
   simp only [pattern_at.j0] at H
   by_cases c42 : x44_4 = true
   ·subst c42
    rw [if_pos rfl] at H
    obtain rfl := Option.some.inj H
    go_wp2
    repeat (go_quiet (fail); try go_wp2)
    go_ret
    exact ⟨xer, xW HB⟩
   ·replace c42 := Bool.eq_false_iff.mpr c42
    subst c42
    rw [if_neg (show ¬ (false = true) by decide)] at H
    have H' := Aside0.mk H
    clear H; have hcz45_0 := blkc4 BK177.out
    go_wp2
    repeat (go_quiet (fail); try go_wp2)
    go_loopg [48] kj4 (fun kq vs48 w' => ∃ (x48_2 : Int), vs48 = .int .i64 x48_2 ∧ Aside0 (pattern_at.l0 kq a3 l1_2 (l1_2.length : Int) x48_2 a0_0 a0_1 a0_2 l0_3 l0_4 a0_5 a0_6 l0_7 a0_8 a0_9 a0_10 a1_0 a1_1 l1_2 a1_3 l2_0 l2_1 l2_2 a2_3 a2_4 = some r) ∧ Aside0 (kq ≤ kj4) ∧ Aside0 (w'.heap[gb176]? = some (.cells #[.string a0_0, .int .i64 a0_1, .int .i64 a0_2, (.slice A0_3 l0_3.length c0_3), (.slice A0_4 l0_4.length c0_4), .bool a0_5, .bool a0_6, (.slice A0_7 l0_7.length c0_7), .int .i64 a0_8, .int .i64 a0_9, .int .i64 a0_10] 44 (0, 0))) ∧ Aside0 (w'.heap[gb177]? = some (.cells #[.int .i64 a1_0, .int .i64 a1_1, (.slice A1_2 l1_2.length c1_2), .int .i64 a1_3] 49 (0, 0))) ∧ Aside0 (w'.heap[gb178]? = some (.cells #[(.slice A2_0 l2_0.length c2_0), (.slice A2_1 l2_1.length c2_1), (.slice A2_2 l2_2.length c2_2), .int .i64 a2_3, .int .i64 a2_4] 47 (0, 0))) ∧ Aside0 (Below w.heap.size w w'))
    case atStart => exact ⟨(0), (xrf), H', ⟨Nat.le_refl _⟩, ⟨xK BK176⟩, ⟨xK BK177⟩, ⟨xK BK178⟩, ⟨xW HB⟩⟩
    case round =>
     clear H'; (try clear p2); (try clear p6); (try clear p2); (try clear p6)
     obtain ⟨x48_2, rfl, HA, HK2, BK176, BK177, BK178, HB⟩ := hrel
     cases gk with
     | zero => exact absurd HA.out (by simp [pattern_at.l0])
     | succ k2 =>
      have H := HA.out; clear HA
      simp only [pattern_at.l0] at H
      by_cases c46 : x48_2 < (l1_2.length : Int)
      ·rw [if_pos c46] at H
       have c46b0 : decide (x48_2 < (l1_2.length : Int)) = true := decide_eq_true c46
       clear c46
       by_cases c47 : 0 ≤ x48_2
       ·rw [if_pos c47] at H
        have c47b0 : decide (0 ≤ x48_2) = true := decide_eq_true c47
        clear c47
        by_cases c48 : x48_2 < (l1_2.length : Int)
        ·rw [if_pos c48] at H
         have c48b0 : decide (x48_2 < (l1_2.length : Int)) = true := decide_eq_true c48
         clear c48
         by_cases c49 : a1_0 = 0
         ·rw [if_pos c49] at H
          exact absurd H (by simp)
         ·rw [if_neg c49] at H
          have c49b0 : (a1_0 == 0) = false := beq_eq_false_iff_ne.mpr c49
          have c49b1 : (a1_0 != 0) = true := bne_iff_ne.mpr c49
          obtain ⟨ji50, hji50⟩ : ∃ j_ : Int, (wrap64 ((wrap64 (a3 + (wrap64 ((wrap64 (Int.tdiv x48_2 a1_0)) * a0_1)))) + (Int.tmod x48_2 a1_0))) = j_ := ⟨_, rfl⟩
          (first | rw [hji50] at H | simp only [hji50] at H)
          have hji50w : (IntKind.i64.wrap ((wrap64 (a3 + (wrap64 ((wrap64 (Int.tdiv x48_2 a1_0)) * a0_1)))) + (Int.tmod x48_2 a1_0))) = ji50 := (i64_w _).trans hji50
          by_cases c51 : 0 ≤ (ji50)
          ·rw [if_pos c51] at H
           have c51b0 : decide (0 ≤ (ji50)) = true := decide_eq_true c51
           clear c51
           by_cases c52 : (ji50) < (l2_0.length : Int)
           ·rw [if_pos c52] at H
            have c52b0 : decide ((ji50) < (l2_0.length : Int)) = true := decide_eq_true c52
            clear c52; replace H := Option.bind_eq_some_iff.mp H
            obtain ⟨t181, A530, H⟩ := H
            try dsimp only at H
            have A53 := Aside0.mk A530; clear A530
            by_cases c54 : t181 = true
            ·subst c54
             rw [if_pos rfl] at H
             have H' := Aside0.mk H
             clear H
             have p179 : 0 ≤ (x48_2 : Int) := of_decide_eq_true (by first | (with_reducible assumption) | assumption)
             have q179 : x48_2 < (l1_2.length : Int) := of_decide_eq_true (by first | (with_reducible assumption) | assumption)
             obtain ⟨ad179, e179, hx179_0⟩ := Kd.at_int HR1_2.out x48_2 p179 q179
             cases e179
             replace hx179_0 := (HB.out.cell (World.block_lt_of_cell? w _ hx179_0)).trans hx179_0; replace p179 := eq_true p179; replace q179 := eq_true q179; have hcz57_0 := blkc5 BK178.out; have hcz59_0 := blkc4 BK177.out; have hcz60_0 := blkc11 BK176.out
             have p180 : 0 ≤ ((ji50) : Int) := of_decide_eq_true (by first | (with_reducible assumption) | assumption)
             have q180 : (ji50) < (l2_0.length : Int) := of_decide_eq_true (by first | (with_reducible assumption) | assumption)
             obtain ⟨ad180, e180, hx180_0⟩ := Kd.at_int HR2_0.out (ji50) p180 q180
             cases e180
             replace hx180_0 := (HB.out.cell (World.block_lt_of_cell? w _ hx180_0)).trans hx180_0; replace p180 := eq_true p180; replace q180 := eq_true q180
             go_wp2_with (first | (go_at_call 53; (with_reducible refine (pattern_fits.calls (rd l2_0 (ji50)) (rd l1_2 x48_2) true _ A53.out).mono ?_); rintro e w' ⟨rfl, ⟨nd, rfl⟩⟩; (try first | exact ⟨rfl, _, World.drewN_drewN _ _ _⟩ | exact ⟨rfl, _, Eq.trans (World.drewN_drewN _ _ _) (congrArg (World.drewN _) (Nat.add_assoc _ _ _))⟩)))
             repeat (go_quiet (first | (go_at_call 53; (with_reducible refine (pattern_fits.calls (rd l2_0 (ji50)) (rd l1_2 x48_2) true _ A53.out).mono ?_); rintro e w' ⟨rfl, ⟨nd, rfl⟩⟩; (try first | exact ⟨rfl, _, World.drewN_drewN _ _ _⟩ | exact ⟨rfl, _, Eq.trans (World.drewN_drewN _ _ _) (congrArg (World.drewN _) (Nat.add_assoc _ _ _))⟩))); try go_wp2_with (first | (go_at_call 53; (with_reducible refine (pattern_fits.calls (rd l2_0 (ji50)) (rd l1_2 x48_2) true _ A53.out).mono ?_); rintro e w' ⟨rfl, ⟨nd, rfl⟩⟩; (try first | exact ⟨rfl, _, World.drewN_drewN _ _ _⟩ | exact ⟨rfl, _, Eq.trans (World.drewN_drewN _ _ _) (congrArg (World.drewN _) (Nat.add_assoc _ _ _))⟩))))
             (first | go_roundg k2 | (simp only [← hji50]; go_roundg k2))
             case measure => have := HJ4.out; have := HK2.out; omega
             case rel => exact ⟨(wrap64 (x48_2 + 1)), (xrf), H', ⟨by have := HJ4.out; have := HK2.out; omega⟩, ⟨xK BK176⟩, ⟨xK BK177⟩, ⟨xK BK178⟩, ⟨xW HB⟩⟩
            ·replace c54 := Bool.eq_false_iff.mpr c54
             subst c54
             rw [if_neg (show ¬ (false = true) by decide)] at H
             obtain rfl := Option.some.inj H
             have p179 : 0 ≤ (x48_2 : Int) := of_decide_eq_true (by first | (with_reducible assumption) | assumption)
             have q179 : x48_2 < (l1_2.length : Int) := of_decide_eq_true (by first | (with_reducible assumption) | assumption)
             obtain ⟨ad179, e179, hx179_0⟩ := Kd.at_int HR1_2.out x48_2 p179 q179
             cases e179
             replace hx179_0 := (HB.out.cell (World.block_lt_of_cell? w _ hx179_0)).trans hx179_0; replace p179 := eq_true p179; replace q179 := eq_true q179; have hcz63_0 := blkc5 BK178.out; have hcz65_0 := blkc4 BK177.out; have hcz66_0 := blkc11 BK176.out
             have p180 : 0 ≤ ((ji50) : Int) := of_decide_eq_true (by first | (with_reducible assumption) | assumption)
             have q180 : (ji50) < (l2_0.length : Int) := of_decide_eq_true (by first | (with_reducible assumption) | assumption)
             obtain ⟨ad180, e180, hx180_0⟩ := Kd.at_int HR2_0.out (ji50) p180 q180
             cases e180
             replace hx180_0 := (HB.out.cell (World.block_lt_of_cell? w _ hx180_0)).trans hx180_0; replace p180 := eq_true p180; replace q180 := eq_true q180
             go_wp2_with (first | (go_at_call 53; (with_reducible refine (pattern_fits.calls (rd l2_0 (ji50)) (rd l1_2 x48_2) false _ A53.out).mono ?_); rintro e w' ⟨rfl, ⟨nd, rfl⟩⟩; (try first | exact ⟨rfl, _, World.drewN_drewN _ _ _⟩ | exact ⟨rfl, _, Eq.trans (World.drewN_drewN _ _ _) (congrArg (World.drewN _) (Nat.add_assoc _ _ _))⟩)))
             repeat (go_quiet (first | (go_at_call 53; (with_reducible refine (pattern_fits.calls (rd l2_0 (ji50)) (rd l1_2 x48_2) false _ A53.out).mono ?_); rintro e w' ⟨rfl, ⟨nd, rfl⟩⟩; (try first | exact ⟨rfl, _, World.drewN_drewN _ _ _⟩ | exact ⟨rfl, _, Eq.trans (World.drewN_drewN _ _ _) (congrArg (World.drewN _) (Nat.add_assoc _ _ _))⟩))); try go_wp2_with (first | (go_at_call 53; (with_reducible refine (pattern_fits.calls (rd l2_0 (ji50)) (rd l1_2 x48_2) false _ A53.out).mono ?_); rintro e w' ⟨rfl, ⟨nd, rfl⟩⟩; (try first | exact ⟨rfl, _, World.drewN_drewN _ _ _⟩ | exact ⟨rfl, _, Eq.trans (World.drewN_drewN _ _ _) (congrArg (World.drewN _) (Nat.add_assoc _ _ _))⟩))))
             go_ret
             exact ⟨by first | rfl | (simp [errW_none, errW_some] <;> rfl) | (simp only [← hji50]; first | rfl | (simp [errW_none, errW_some] <;> rfl)) | (simp [*, errW_none, errW_some] <;> rfl), xW HB⟩
           ·rw [if_neg c52] at H
            exact absurd H (by simp)
          ·rw [if_neg c51] at H
           exact absurd H (by simp)
        ·rw [if_neg c48] at H
         exact absurd H (by simp)
       ·rw [if_neg c47] at H
        exact absurd H (by simp)
      ·rw [if_neg c46] at H
       have c46b0 : decide (x48_2 < (l1_2.length : Int)) = false := decide_eq_false c46
       clear c46
       obtain rfl := Option.some.inj H
       go_wp2
       repeat (go_quiet (fail); try go_wp2)
       go_ret
       exact ⟨xer, xW HB⟩

/-! ### pattern_At: function 34 -/
def pattern_At.f (k : Nat) (a0_0 : ByteArray) (a0_1 : Int) (a0_2 : Int) (l0_3 : List (S101)) (l0_4 : List Int) (a0_5 : Bool) (a0_6 : Bool) (l0_7 : List (S103)) (a0_8 : Int) (a0_9 : Int) (a0_10 : Int) (a1_0 : Int) (a1_1 : Int) (l1_2 : List Int) (a1_3 : Int) (l2_0 : List Int) (l2_1 : List Int) (l2_2 : List Int) (a2_3 : Int) (a2_4 : Int) (a3 : Int) : Option (Bool × Int) := (pattern_Check.f k a0_0 a0_1 a0_2 l0_3 l0_4 a0_5 a0_6 l0_7 a0_8 a0_9 a0_10 a1_0 a1_1 l1_2 a1_3).bind fun t185 => (if t185 = 0 then ((place_Check.f k a0_0 a0_1 a0_2 l0_3 l0_4 a0_5 a0_6 l0_7 a0_8 a0_9 a0_10 l2_0 l2_1 l2_2 a2_3 a2_4).bind fun t186 => (if t186 = 0 then (if a3 < 0 then (some (false, 1)) else (if a3 ≥ (l2_0.length : Int) then (some (false, 1)) else ((pattern_at.f k a0_0 a0_1 a0_2 l0_3 l0_4 a0_5 a0_6 l0_7 a0_8 a0_9 a0_10 a1_0 a1_1 l1_2 a1_3 l2_0 l2_1 l2_2 a2_3 a2_4 a3).bind fun t187 => (some (t187, 0))))) else (some (false, t186)))) else (some (false, t185)))
theorem pattern_At.mono : ∀ a0 a1 a2 a3 a4 a5 a6 a7 a8 a9 a10 a11 a12 a13 a14 a15 a16 a17 a18 a19 a20 k, LeO (pattern_At.f k a0 a1 a2 a3 a4 a5 a6 a7 a8 a9 a10 a11 a12 a13 a14 a15 a16 a17 a18 a19 a20) (pattern_At.f (k + 1) a0 a1 a2 a3 a4 a5 a6 a7 a8 a9 a10 a11 a12 a13 a14 a15 a16 a17 a18 a19 a20) := by
  intro a0 a1 a2 a3 a4 a5 a6 a7 a8 a9 a10 a11 a12 a13 a14 a15 a16 a17 a18 a19 a20 k
  unfold pattern_At.f
  repeat' first
      | (with_reducible apply pattern_Check.mono)
      | (with_reducible apply pattern_at.mono)
      | (with_reducible apply place_Check.mono)
      | (with_reducible exact LeO.refl _)
      | (with_reducible exact LeO.none _)
      | (with_reducible refine LeO.ite ?_ ?_)
      | (with_reducible refine LeO.bind ?_ (fun _ => ?_))
      | apply pattern_Check.mono
      | apply pattern_at.mono
      | apply place_Check.mono
      | exact LeO.none _
      | refine LeO.ite ?_ ?_
      | refine LeO.bind ?_ (fun _ => ?_)
set_option maxHeartbeats 8000000 in
set_option maxRecDepth 100000 in
theorem pattern_At.calls (k : Nat) (a0_0 : ByteArray) (a0_1 : Int) (a0_2 : Int) (A0_3 : Option Addr) (c0_3 : Nat) (l0_3 : List (S101)) (A0_4 : Option Addr) (c0_4 : Nat) (l0_4 : List Int) (a0_5 : Bool) (a0_6 : Bool) (A0_7 : Option Addr) (c0_7 : Nat) (l0_7 : List (S103)) (a0_8 : Int) (a0_9 : Int) (a0_10 : Int) (a1_0 : Int) (a1_1 : Int) (A1_2 : Option Addr) (c1_2 : Nat) (l1_2 : List Int) (a1_3 : Int) (A2_0 : Option Addr) (c2_0 : Nat) (l2_0 : List Int) (A2_1 : Option Addr) (c2_1 : Nat) (l2_1 : List Int) (A2_2 : Option Addr) (c2_2 : Nat) (l2_2 : List Int) (a2_3 : Int) (a2_4 : Int) (a3 : Int) (r1 : Bool) (r2 : Int) (w : World) (hr0_3 : Kd.C k101 w A0_3 l0_3.length l0_3) (hc0_3 : l0_3.length ≤ c0_3) (hr0_4 : Kd.C (Kd.int .i64) w A0_4 l0_4.length l0_4) (hc0_4 : l0_4.length ≤ c0_4) (hr0_7 : Kd.C k103 w A0_7 l0_7.length l0_7) (hc0_7 : l0_7.length ≤ c0_7) (hr1_2 : Kd.C (Kd.int .i64) w A1_2 l1_2.length l1_2) (hc1_2 : l1_2.length ≤ c1_2) (hr2_0 : Kd.C (Kd.int .i64) w A2_0 l2_0.length l2_0) (hc2_0 : l2_0.length ≤ c2_0) (hr2_1 : Kd.C (Kd.int .i64) w A2_1 l2_1.length l2_1) (hc2_1 : l2_1.length ≤ c2_1) (hr2_2 : Kd.C (Kd.int .i64) w A2_2 l2_2.length l2_2) (hc2_2 : l2_2.length ≤ c2_2) (h : pattern_At.f k a0_0 a0_1 a0_2 l0_3 l0_4 a0_5 a0_6 l0_7 a0_8 a0_9 a0_10 a1_0 a1_1 l1_2 a1_3 l2_0 l2_1 l2_2 a2_3 a2_4 a3 = some (r1, r2)) :
    Calls Try.prog 34 #[.agg #[.string a0_0, .int .i64 a0_1, .int .i64 a0_2, .slice A0_3 l0_3.length c0_3, .slice A0_4 l0_4.length c0_4, .bool a0_5, .bool a0_6, .slice A0_7 l0_7.length c0_7, .int .i64 a0_8, .int .i64 a0_9, .int .i64 a0_10], .agg #[.int .i64 a1_0, .int .i64 a1_1, .slice A1_2 l1_2.length c1_2, .int .i64 a1_3], .agg #[.slice A2_0 l2_0.length c2_0, .slice A2_1 l2_1.length c2_1, .slice A2_2 l2_2.length c2_2, .int .i64 a2_3, .int .i64 a2_4], .int .i64 a3] w fun e w' => e = .returned (.tuple #[.bool r1, .int .i64 r2]) ∧ Below w.heap.size w w' := by
 have hu44 := Try.underlying44; have hu49 := Try.underlying49; have hu47 := Try.underlying47; have HR0_3 := Aside0.mk hr0_3; have HC0_3 := Aside0.mk hc0_3; clear hr0_3 hc0_3; have HR0_4 := Aside0.mk hr0_4; have HC0_4 := Aside0.mk hc0_4; clear hr0_4 hc0_4; have HR0_7 := Aside0.mk hr0_7; have HC0_7 := Aside0.mk hc0_7; clear hr0_7 hc0_7; have HR1_2 := Aside0.mk hr1_2; have HC1_2 := Aside0.mk hc1_2; clear hr1_2 hc1_2; have HR2_0 := Aside0.mk hr2_0; have HC2_0 := Aside0.mk hc2_0; clear hr2_0 hc2_0; have HR2_1 := Aside0.mk hr2_1; have HC2_1 := Aside0.mk hc2_1; clear hr2_1 hc2_1; have HR2_2 := Aside0.mk hr2_2; have HC2_2 := Aside0.mk hc2_2; clear hr2_2 hc2_2; have HB := Aside0.mk (Below.refl w.heap.size w); have hss_ := @isSome_setCell
 have H : ((pattern_Check.f k a0_0 a0_1 a0_2 l0_3 l0_4 a0_5 a0_6 l0_7 a0_8 a0_9 a0_10 a1_0 a1_1 l1_2 a1_3).bind fun t185 => (if t185 = 0 then ((place_Check.f k a0_0 a0_1 a0_2 l0_3 l0_4 a0_5 a0_6 l0_7 a0_8 a0_9 a0_10 l2_0 l2_1 l2_2 a2_3 a2_4).bind fun t186 => (if t186 = 0 then (if a3 < 0 then (some (false, 1)) else (if a3 ≥ (l2_0.length : Int) then (some (false, 1)) else ((pattern_at.f k a0_0 a0_1 a0_2 l0_3 l0_4 a0_5 a0_6 l0_7 a0_8 a0_9 a0_10 a1_0 a1_1 l1_2 a1_3 l2_0 l2_1 l2_2 a2_3 a2_4 a3).bind fun t187 => (some (t187, 0))))) else (some (false, t186)))) else (some (false, t185)))) = some (r1, r2) := h
 clear h; replace H := Option.bind_eq_some_iff.mp H
 obtain ⟨t185, A50, H⟩ := H
 try dsimp only at H
 have A5 := Aside0.mk A50; clear A50
 by_cases c6 : t185 = 0
 ·rw [if_pos c6] at H
  have c6b0 : (t185 == 0) = true := beq_iff_eq.mpr c6
  have c6b1 : (t185 != 0) = false := bne_eq_false_iff_eq.mpr c6
  clear c6; replace H := Option.bind_eq_some_iff.mp H
  obtain ⟨t186, A70, H⟩ := H
  try dsimp only at H
  have A7 := Aside0.mk A70; clear A70
  by_cases c8 : t186 = 0
  ·rw [if_pos c8] at H
   have c8b0 : (t186 == 0) = true := beq_iff_eq.mpr c8
   have c8b1 : (t186 != 0) = false := bne_eq_false_iff_eq.mpr c8
   clear c8
   by_cases c9 : a3 < 0
   ·rw [if_pos c9] at H
    have c9b0 : decide (a3 < 0) = true := decide_eq_true c9
    clear c9
    simp only [Option.some.injEq, Prod.mk.injEq] at H
    obtain ⟨rfl, rfl⟩ := H
    go_enter Try.func34, Try.ntmps34
    go_wp2_with (first | ((with_reducible refine gate_dst (N := 4) rfl ?_); (try (refine gate_guard (by rfl) ?_; dsimp only)); refine box_event ?hg (N := 4) ?hd (cs := #[.string a0_0, .int .i64 a0_1, .int .i64 a0_2, .slice A0_3 l0_3.length c0_3, .slice A0_4 l0_4.length c0_4, .bool a0_5, .bool a0_6, .slice A0_7 l0_7.length c0_7, .int .i64 a0_8, .int .i64 a0_9, .int .i64 a0_10]) (t := 44) ?hr ?_; (case hd => rfl); (case hg => rfl); (case hr => first | (go_simp; done) | (go_simp; rfl)); intro gb182 hg w10 hbox hb; have BK182 := Aside0.mk (hbox); have GW182 := Aside0.mk (xZ HB hg); have GE182 := Aside0.mk (xZ HB hg); replace HB := Aside0.mk (xS HB hb); clear hb hbox hg) | ((with_reducible refine gate_dst (N := 5) rfl ?_); (try (refine gate_guard (by rfl) ?_; dsimp only)); refine box_event ?hg (N := 5) ?hd (cs := #[.int .i64 a1_0, .int .i64 a1_1, .slice A1_2 l1_2.length c1_2, .int .i64 a1_3]) (t := 49) ?hr ?_; (case hd => rfl); (case hg => rfl); (case hr => first | (go_simp; done) | (go_simp; rfl)); intro gb183 hg w11 hbox hb; have BK183 := Aside0.mk (hbox); have GW183 := Aside0.mk (xZ HB hg); have GE183 := Aside0.mk (xZ HB hg); have NB182_183 := Aside0.mk (xN BK182 hg); have NB183_182 := Aside0.mk (xM BK182 hg); replace BK182 := Aside0.mk (xB BK182 hb); replace HB := Aside0.mk (xS HB hb); clear hb hbox hg) | ((with_reducible refine gate_dst (N := 6) rfl ?_); (try (refine gate_guard (by rfl) ?_; dsimp only)); refine box_event ?hg (N := 6) ?hd (cs := #[.slice A2_0 l2_0.length c2_0, .slice A2_1 l2_1.length c2_1, .slice A2_2 l2_2.length c2_2, .int .i64 a2_3, .int .i64 a2_4]) (t := 47) ?hr ?_; (case hd => rfl); (case hg => rfl); (case hr => first | (go_simp; done) | (go_simp; rfl)); intro gb184 hg w12 hbox hb; have BK184 := Aside0.mk (hbox); have GW184 := Aside0.mk (xZ HB hg); have GE184 := Aside0.mk (xZ HB hg); have NB182_184 := Aside0.mk (xN BK182 hg); have NB184_182 := Aside0.mk (xM BK182 hg); have NB183_184 := Aside0.mk (xN BK183 hg); have NB184_183 := Aside0.mk (xM BK183 hg); replace BK182 := Aside0.mk (xB BK182 hb); replace BK183 := Aside0.mk (xB BK183 hb); replace HB := Aside0.mk (xS HB hb); clear hb hbox hg; have hnb13 := NB182_183.out; have hnc13 := NB183_182.out; have hnb14 := NB182_184.out; have hnc14 := NB184_182.out; have hcz15_0 := blkc11 BK182.out; have hnb16 := NB183_184.out; have hnc16 := NB184_183.out; have hcz17_0 := blkc4 BK183.out) | ((with_reducible refine gate_callee (f := 35) rfl ?_); refine goesL_ (some 14) rfl rfl Try.func35 (by kernel_rfl) rfl #[.agg #[.string a0_0, .int .i64 a0_1, .int .i64 a0_2, .slice A0_3 l0_3.length c0_3, .slice A0_4 l0_4.length c0_4, .bool a0_5, .bool a0_6, .slice A0_7 l0_7.length c0_7, .int .i64 a0_8, .int .i64 a0_9, .int .i64 a0_10], .agg #[.int .i64 a1_0, .int .i64 a1_1, .slice A1_2 l1_2.length c1_2, .int .i64 a1_3]] rfl (by (try simp only [List.map_toArray, List.map_cons, List.map_nil]); first | done | rfl | (simp only [List.length_drop, List.length_take]; rfl)) ?_; (with_reducible refine (pattern_Check.calls k a0_0 a0_1 a0_2 _ _ l0_3 _ _ l0_4 a0_5 a0_6 _ _ l0_7 a0_8 a0_9 a0_10 a1_0 a1_1 _ _ l1_2 a1_3 t185 _ ?side1 ?side2 ?side3 ?side4 ?side5 ?side6 ?side7 ?side8 A5.out).mono ?_); (case side1 => exact xC (Kd.C_below HR0_3.out HB.out)); (case side2 => exact HC0_3.out); (case side3 => exact xC (Kd.C_below HR0_4.out HB.out)); (case side4 => exact HC0_4.out); (case side5 => exact xC (Kd.C_below HR0_7.out HB.out)); (case side6 => exact HC0_7.out); (case side7 => exact xC (Kd.C_below HR1_2.out HB.out)); (case side8 => exact HC1_2.out); rintro e w18 ⟨rfl, hb⟩; refine ⟨_, rfl, ?_⟩; replace BK182 := Aside0.mk (xB BK182 hb); replace BK183 := Aside0.mk (xB BK183 hb); replace BK184 := Aside0.mk (xB BK184 hb); replace HB := Aside0.mk (xS HB hb); (try clear hb); (try clear hb2); (try clear hk); (try clear hi); have hcz19_0 := blkc11 BK182.out; have hcz20_0 := blkc5 BK184.out) | ((with_reducible refine gate_callee (f := 17) rfl ?_); refine goesL_ (some 20) rfl rfl Try.func17 (by kernel_rfl) rfl #[.agg #[.string a0_0, .int .i64 a0_1, .int .i64 a0_2, .slice A0_3 l0_3.length c0_3, .slice A0_4 l0_4.length c0_4, .bool a0_5, .bool a0_6, .slice A0_7 l0_7.length c0_7, .int .i64 a0_8, .int .i64 a0_9, .int .i64 a0_10], .agg #[.slice A2_0 l2_0.length c2_0, .slice A2_1 l2_1.length c2_1, .slice A2_2 l2_2.length c2_2, .int .i64 a2_3, .int .i64 a2_4]] rfl (by (try simp only [List.map_toArray, List.map_cons, List.map_nil]); first | done | rfl | (simp only [List.length_drop, List.length_take]; rfl)) ?_; (with_reducible refine (place_Check.calls k a0_0 a0_1 a0_2 _ _ l0_3 _ _ l0_4 a0_5 a0_6 _ _ l0_7 a0_8 a0_9 a0_10 _ _ l2_0 _ _ l2_1 _ _ l2_2 a2_3 a2_4 t186 _ ?side1 ?side2 ?side3 ?side4 ?side5 ?side6 ?side7 ?side8 ?side9 ?side10 ?side11 ?side12 A7.out).mono ?_); (case side1 => exact xC (Kd.C_below HR0_3.out HB.out)); (case side2 => exact HC0_3.out); (case side3 => exact xC (Kd.C_below HR0_4.out HB.out)); (case side4 => exact HC0_4.out); (case side5 => exact xC (Kd.C_below HR0_7.out HB.out)); (case side6 => exact HC0_7.out); (case side7 => exact xC (Kd.C_below HR2_0.out HB.out)); (case side8 => exact HC2_0.out); (case side9 => exact xC (Kd.C_below HR2_1.out HB.out)); (case side10 => exact HC2_1.out); (case side11 => exact xC (Kd.C_below HR2_2.out HB.out)); (case side12 => exact HC2_2.out); rintro e w21 ⟨rfl, hb⟩; refine ⟨_, rfl, ?_⟩; replace BK182 := Aside0.mk (xB BK182 hb); replace BK183 := Aside0.mk (xB BK183 hb); replace BK184 := Aside0.mk (xB BK184 hb); replace HB := Aside0.mk (xS HB hb); (try clear hb); (try clear hb2); (try clear hk); (try clear hi)))
    go_ret2
    exact ⟨xer, xW HB⟩
   ·rw [if_neg c9] at H
    have c9b0 : decide (a3 < 0) = false := decide_eq_false c9
    clear c9
    by_cases c22 : a3 ≥ (l2_0.length : Int)
    ·rw [if_pos c22] at H
     have c22b0 : decide ((l2_0.length : Int) ≤ a3) = true := decide_eq_true c22
     clear c22
     simp only [Option.some.injEq, Prod.mk.injEq] at H
     obtain ⟨rfl, rfl⟩ := H
     go_enter Try.func34, Try.ntmps34
     go_wp2_with (first | ((with_reducible refine gate_dst (N := 4) rfl ?_); (try (refine gate_guard (by rfl) ?_; dsimp only)); refine box_event ?hg (N := 4) ?hd (cs := #[.string a0_0, .int .i64 a0_1, .int .i64 a0_2, .slice A0_3 l0_3.length c0_3, .slice A0_4 l0_4.length c0_4, .bool a0_5, .bool a0_6, .slice A0_7 l0_7.length c0_7, .int .i64 a0_8, .int .i64 a0_9, .int .i64 a0_10]) (t := 44) ?hr ?_; (case hd => rfl); (case hg => rfl); (case hr => first | (go_simp; done) | (go_simp; rfl)); intro gb182 hg w23 hbox hb; have BK182 := Aside0.mk (hbox); have GW182 := Aside0.mk (xZ HB hg); have GE182 := Aside0.mk (xZ HB hg); replace HB := Aside0.mk (xS HB hb); clear hb hbox hg) | ((with_reducible refine gate_dst (N := 5) rfl ?_); (try (refine gate_guard (by rfl) ?_; dsimp only)); refine box_event ?hg (N := 5) ?hd (cs := #[.int .i64 a1_0, .int .i64 a1_1, .slice A1_2 l1_2.length c1_2, .int .i64 a1_3]) (t := 49) ?hr ?_; (case hd => rfl); (case hg => rfl); (case hr => first | (go_simp; done) | (go_simp; rfl)); intro gb183 hg w24 hbox hb; have BK183 := Aside0.mk (hbox); have GW183 := Aside0.mk (xZ HB hg); have GE183 := Aside0.mk (xZ HB hg); have NB182_183 := Aside0.mk (xN BK182 hg); have NB183_182 := Aside0.mk (xM BK182 hg); replace BK182 := Aside0.mk (xB BK182 hb); replace HB := Aside0.mk (xS HB hb); clear hb hbox hg) | ((with_reducible refine gate_dst (N := 6) rfl ?_); (try (refine gate_guard (by rfl) ?_; dsimp only)); refine box_event ?hg (N := 6) ?hd (cs := #[.slice A2_0 l2_0.length c2_0, .slice A2_1 l2_1.length c2_1, .slice A2_2 l2_2.length c2_2, .int .i64 a2_3, .int .i64 a2_4]) (t := 47) ?hr ?_; (case hd => rfl); (case hg => rfl); (case hr => first | (go_simp; done) | (go_simp; rfl)); intro gb184 hg w25 hbox hb; have BK184 := Aside0.mk (hbox); have GW184 := Aside0.mk (xZ HB hg); have GE184 := Aside0.mk (xZ HB hg); have NB182_184 := Aside0.mk (xN BK182 hg); have NB184_182 := Aside0.mk (xM BK182 hg); have NB183_184 := Aside0.mk (xN BK183 hg); have NB184_183 := Aside0.mk (xM BK183 hg); replace BK182 := Aside0.mk (xB BK182 hb); replace BK183 := Aside0.mk (xB BK183 hb); replace HB := Aside0.mk (xS HB hb); clear hb hbox hg; have hnb26 := NB182_183.out; have hnc26 := NB183_182.out; have hnb27 := NB182_184.out; have hnc27 := NB184_182.out; have hcz28_0 := blkc11 BK182.out; have hnb29 := NB183_184.out; have hnc29 := NB184_183.out; have hcz30_0 := blkc4 BK183.out) | ((with_reducible refine gate_callee (f := 35) rfl ?_); refine goesL_ (some 14) rfl rfl Try.func35 (by kernel_rfl) rfl #[.agg #[.string a0_0, .int .i64 a0_1, .int .i64 a0_2, .slice A0_3 l0_3.length c0_3, .slice A0_4 l0_4.length c0_4, .bool a0_5, .bool a0_6, .slice A0_7 l0_7.length c0_7, .int .i64 a0_8, .int .i64 a0_9, .int .i64 a0_10], .agg #[.int .i64 a1_0, .int .i64 a1_1, .slice A1_2 l1_2.length c1_2, .int .i64 a1_3]] rfl (by (try simp only [List.map_toArray, List.map_cons, List.map_nil]); first | done | rfl | (simp only [List.length_drop, List.length_take]; rfl)) ?_; (with_reducible refine (pattern_Check.calls k a0_0 a0_1 a0_2 _ _ l0_3 _ _ l0_4 a0_5 a0_6 _ _ l0_7 a0_8 a0_9 a0_10 a1_0 a1_1 _ _ l1_2 a1_3 t185 _ ?side1 ?side2 ?side3 ?side4 ?side5 ?side6 ?side7 ?side8 A5.out).mono ?_); (case side1 => exact xC (Kd.C_below HR0_3.out HB.out)); (case side2 => exact HC0_3.out); (case side3 => exact xC (Kd.C_below HR0_4.out HB.out)); (case side4 => exact HC0_4.out); (case side5 => exact xC (Kd.C_below HR0_7.out HB.out)); (case side6 => exact HC0_7.out); (case side7 => exact xC (Kd.C_below HR1_2.out HB.out)); (case side8 => exact HC1_2.out); rintro e w31 ⟨rfl, hb⟩; refine ⟨_, rfl, ?_⟩; replace BK182 := Aside0.mk (xB BK182 hb); replace BK183 := Aside0.mk (xB BK183 hb); replace BK184 := Aside0.mk (xB BK184 hb); replace HB := Aside0.mk (xS HB hb); (try clear hb); (try clear hb2); (try clear hk); (try clear hi); have hcz32_0 := blkc11 BK182.out; have hcz33_0 := blkc5 BK184.out) | ((with_reducible refine gate_callee (f := 17) rfl ?_); refine goesL_ (some 20) rfl rfl Try.func17 (by kernel_rfl) rfl #[.agg #[.string a0_0, .int .i64 a0_1, .int .i64 a0_2, .slice A0_3 l0_3.length c0_3, .slice A0_4 l0_4.length c0_4, .bool a0_5, .bool a0_6, .slice A0_7 l0_7.length c0_7, .int .i64 a0_8, .int .i64 a0_9, .int .i64 a0_10], .agg #[.slice A2_0 l2_0.length c2_0, .slice A2_1 l2_1.length c2_1, .slice A2_2 l2_2.length c2_2, .int .i64 a2_3, .int .i64 a2_4]] rfl (by (try simp only [List.map_toArray, List.map_cons, List.map_nil]); first | done | rfl | (simp only [List.length_drop, List.length_take]; rfl)) ?_; (with_reducible refine (place_Check.calls k a0_0 a0_1 a0_2 _ _ l0_3 _ _ l0_4 a0_5 a0_6 _ _ l0_7 a0_8 a0_9 a0_10 _ _ l2_0 _ _ l2_1 _ _ l2_2 a2_3 a2_4 t186 _ ?side1 ?side2 ?side3 ?side4 ?side5 ?side6 ?side7 ?side8 ?side9 ?side10 ?side11 ?side12 A7.out).mono ?_); (case side1 => exact xC (Kd.C_below HR0_3.out HB.out)); (case side2 => exact HC0_3.out); (case side3 => exact xC (Kd.C_below HR0_4.out HB.out)); (case side4 => exact HC0_4.out); (case side5 => exact xC (Kd.C_below HR0_7.out HB.out)); (case side6 => exact HC0_7.out); (case side7 => exact xC (Kd.C_below HR2_0.out HB.out)); (case side8 => exact HC2_0.out); (case side9 => exact xC (Kd.C_below HR2_1.out HB.out)); (case side10 => exact HC2_1.out); (case side11 => exact xC (Kd.C_below HR2_2.out HB.out)); (case side12 => exact HC2_2.out); rintro e w34 ⟨rfl, hb⟩; refine ⟨_, rfl, ?_⟩; replace BK182 := Aside0.mk (xB BK182 hb); replace BK183 := Aside0.mk (xB BK183 hb); replace BK184 := Aside0.mk (xB BK184 hb); replace HB := Aside0.mk (xS HB hb); (try clear hb); (try clear hb2); (try clear hk); (try clear hi); have hcz35_0 := blkc5 BK184.out))
     go_ret2
     exact ⟨xer, xW HB⟩
    ·rw [if_neg c22] at H
     have c22b0 : decide ((l2_0.length : Int) ≤ a3) = false := decide_eq_false c22
     clear c22; replace H := Option.bind_eq_some_iff.mp H
     obtain ⟨t187, A360, H⟩ := H
     replace H : (some (t187, 0)) = some (r1, r2) := H
     have A36 := Aside0.mk A360; clear A360
     simp only [Option.some.injEq, Prod.mk.injEq] at H
     obtain ⟨rfl, rfl⟩ := H
     go_enter Try.func34, Try.ntmps34
     go_wp2_with (first | ((with_reducible refine gate_dst (N := 4) rfl ?_); (try (refine gate_guard (by rfl) ?_; dsimp only)); refine box_event ?hg (N := 4) ?hd (cs := #[.string a0_0, .int .i64 a0_1, .int .i64 a0_2, .slice A0_3 l0_3.length c0_3, .slice A0_4 l0_4.length c0_4, .bool a0_5, .bool a0_6, .slice A0_7 l0_7.length c0_7, .int .i64 a0_8, .int .i64 a0_9, .int .i64 a0_10]) (t := 44) ?hr ?_; (case hd => rfl); (case hg => rfl); (case hr => first | (go_simp; done) | (go_simp; rfl)); intro gb182 hg w37 hbox hb; have BK182 := Aside0.mk (hbox); have GW182 := Aside0.mk (xZ HB hg); have GE182 := Aside0.mk (xZ HB hg); replace HB := Aside0.mk (xS HB hb); clear hb hbox hg) | ((with_reducible refine gate_dst (N := 5) rfl ?_); (try (refine gate_guard (by rfl) ?_; dsimp only)); refine box_event ?hg (N := 5) ?hd (cs := #[.int .i64 a1_0, .int .i64 a1_1, .slice A1_2 l1_2.length c1_2, .int .i64 a1_3]) (t := 49) ?hr ?_; (case hd => rfl); (case hg => rfl); (case hr => first | (go_simp; done) | (go_simp; rfl)); intro gb183 hg w38 hbox hb; have BK183 := Aside0.mk (hbox); have GW183 := Aside0.mk (xZ HB hg); have GE183 := Aside0.mk (xZ HB hg); have NB182_183 := Aside0.mk (xN BK182 hg); have NB183_182 := Aside0.mk (xM BK182 hg); replace BK182 := Aside0.mk (xB BK182 hb); replace HB := Aside0.mk (xS HB hb); clear hb hbox hg) | ((with_reducible refine gate_dst (N := 6) rfl ?_); (try (refine gate_guard (by rfl) ?_; dsimp only)); refine box_event ?hg (N := 6) ?hd (cs := #[.slice A2_0 l2_0.length c2_0, .slice A2_1 l2_1.length c2_1, .slice A2_2 l2_2.length c2_2, .int .i64 a2_3, .int .i64 a2_4]) (t := 47) ?hr ?_; (case hd => rfl); (case hg => rfl); (case hr => first | (go_simp; done) | (go_simp; rfl)); intro gb184 hg w39 hbox hb; have BK184 := Aside0.mk (hbox); have GW184 := Aside0.mk (xZ HB hg); have GE184 := Aside0.mk (xZ HB hg); have NB182_184 := Aside0.mk (xN BK182 hg); have NB184_182 := Aside0.mk (xM BK182 hg); have NB183_184 := Aside0.mk (xN BK183 hg); have NB184_183 := Aside0.mk (xM BK183 hg); replace BK182 := Aside0.mk (xB BK182 hb); replace BK183 := Aside0.mk (xB BK183 hb); replace HB := Aside0.mk (xS HB hb); clear hb hbox hg; have hnb40 := NB182_183.out; have hnc40 := NB183_182.out; have hnb41 := NB182_184.out; have hnc41 := NB184_182.out; have hcz42_0 := blkc11 BK182.out; have hnb43 := NB183_184.out; have hnc43 := NB184_183.out; have hcz44_0 := blkc4 BK183.out) | ((with_reducible refine gate_callee (f := 35) rfl ?_); refine goesL_ (some 14) rfl rfl Try.func35 (by kernel_rfl) rfl #[.agg #[.string a0_0, .int .i64 a0_1, .int .i64 a0_2, .slice A0_3 l0_3.length c0_3, .slice A0_4 l0_4.length c0_4, .bool a0_5, .bool a0_6, .slice A0_7 l0_7.length c0_7, .int .i64 a0_8, .int .i64 a0_9, .int .i64 a0_10], .agg #[.int .i64 a1_0, .int .i64 a1_1, .slice A1_2 l1_2.length c1_2, .int .i64 a1_3]] rfl (by (try simp only [List.map_toArray, List.map_cons, List.map_nil]); first | done | rfl | (simp only [List.length_drop, List.length_take]; rfl)) ?_; (with_reducible refine (pattern_Check.calls k a0_0 a0_1 a0_2 _ _ l0_3 _ _ l0_4 a0_5 a0_6 _ _ l0_7 a0_8 a0_9 a0_10 a1_0 a1_1 _ _ l1_2 a1_3 t185 _ ?side1 ?side2 ?side3 ?side4 ?side5 ?side6 ?side7 ?side8 A5.out).mono ?_); (case side1 => exact xC (Kd.C_below HR0_3.out HB.out)); (case side2 => exact HC0_3.out); (case side3 => exact xC (Kd.C_below HR0_4.out HB.out)); (case side4 => exact HC0_4.out); (case side5 => exact xC (Kd.C_below HR0_7.out HB.out)); (case side6 => exact HC0_7.out); (case side7 => exact xC (Kd.C_below HR1_2.out HB.out)); (case side8 => exact HC1_2.out); rintro e w45 ⟨rfl, hb⟩; refine ⟨_, rfl, ?_⟩; replace BK182 := Aside0.mk (xB BK182 hb); replace BK183 := Aside0.mk (xB BK183 hb); replace BK184 := Aside0.mk (xB BK184 hb); replace HB := Aside0.mk (xS HB hb); (try clear hb); (try clear hb2); (try clear hk); (try clear hi); have hcz46_0 := blkc11 BK182.out; have hcz47_0 := blkc5 BK184.out) | ((with_reducible refine gate_callee (f := 17) rfl ?_); refine goesL_ (some 20) rfl rfl Try.func17 (by kernel_rfl) rfl #[.agg #[.string a0_0, .int .i64 a0_1, .int .i64 a0_2, .slice A0_3 l0_3.length c0_3, .slice A0_4 l0_4.length c0_4, .bool a0_5, .bool a0_6, .slice A0_7 l0_7.length c0_7, .int .i64 a0_8, .int .i64 a0_9, .int .i64 a0_10], .agg #[.slice A2_0 l2_0.length c2_0, .slice A2_1 l2_1.length c2_1, .slice A2_2 l2_2.length c2_2, .int .i64 a2_3, .int .i64 a2_4]] rfl (by (try simp only [List.map_toArray, List.map_cons, List.map_nil]); first | done | rfl | (simp only [List.length_drop, List.length_take]; rfl)) ?_; (with_reducible refine (place_Check.calls k a0_0 a0_1 a0_2 _ _ l0_3 _ _ l0_4 a0_5 a0_6 _ _ l0_7 a0_8 a0_9 a0_10 _ _ l2_0 _ _ l2_1 _ _ l2_2 a2_3 a2_4 t186 _ ?side1 ?side2 ?side3 ?side4 ?side5 ?side6 ?side7 ?side8 ?side9 ?side10 ?side11 ?side12 A7.out).mono ?_); (case side1 => exact xC (Kd.C_below HR0_3.out HB.out)); (case side2 => exact HC0_3.out); (case side3 => exact xC (Kd.C_below HR0_4.out HB.out)); (case side4 => exact HC0_4.out); (case side5 => exact xC (Kd.C_below HR0_7.out HB.out)); (case side6 => exact HC0_7.out); (case side7 => exact xC (Kd.C_below HR2_0.out HB.out)); (case side8 => exact HC2_0.out); (case side9 => exact xC (Kd.C_below HR2_1.out HB.out)); (case side10 => exact HC2_1.out); (case side11 => exact xC (Kd.C_below HR2_2.out HB.out)); (case side12 => exact HC2_2.out); rintro e w48 ⟨rfl, hb⟩; refine ⟨_, rfl, ?_⟩; replace BK182 := Aside0.mk (xB BK182 hb); replace BK183 := Aside0.mk (xB BK183 hb); replace BK184 := Aside0.mk (xB BK184 hb); replace HB := Aside0.mk (xS HB hb); (try clear hb); (try clear hb2); (try clear hk); (try clear hi); have hcz49_0 := blkc5 BK184.out; have hcz50_0 := blkc11 BK182.out; have hcz51_0 := blkc4 BK183.out) | ((with_reducible refine gate_callee (f := 46) rfl ?_); refine goesL_ (some 37) rfl rfl Try.func46 (by kernel_rfl) rfl #[.agg #[.string a0_0, .int .i64 a0_1, .int .i64 a0_2, .slice A0_3 l0_3.length c0_3, .slice A0_4 l0_4.length c0_4, .bool a0_5, .bool a0_6, .slice A0_7 l0_7.length c0_7, .int .i64 a0_8, .int .i64 a0_9, .int .i64 a0_10], .agg #[.int .i64 a1_0, .int .i64 a1_1, .slice A1_2 l1_2.length c1_2, .int .i64 a1_3], .agg #[.slice A2_0 l2_0.length c2_0, .slice A2_1 l2_1.length c2_1, .slice A2_2 l2_2.length c2_2, .int .i64 a2_3, .int .i64 a2_4], .int .i64 a3] rfl (by (try simp only [List.map_toArray, List.map_cons, List.map_nil]); first | done | rfl | (simp only [List.length_drop, List.length_take]; rfl)) ?_; (with_reducible refine (pattern_at.calls k a0_0 a0_1 a0_2 _ _ l0_3 _ _ l0_4 a0_5 a0_6 _ _ l0_7 a0_8 a0_9 a0_10 a1_0 a1_1 _ _ l1_2 a1_3 _ _ l2_0 _ _ l2_1 _ _ l2_2 a2_3 a2_4 a3 t187 _ ?side1 ?side2 ?side3 ?side4 ?side5 ?side6 ?side7 ?side8 ?side9 ?side10 ?side11 ?side12 ?side13 ?side14 A36.out).mono ?_); (case side1 => exact xC (Kd.C_below HR0_3.out HB.out)); (case side2 => exact HC0_3.out); (case side3 => exact xC (Kd.C_below HR0_4.out HB.out)); (case side4 => exact HC0_4.out); (case side5 => exact xC (Kd.C_below HR0_7.out HB.out)); (case side6 => exact HC0_7.out); (case side7 => exact xC (Kd.C_below HR1_2.out HB.out)); (case side8 => exact HC1_2.out); (case side9 => exact xC (Kd.C_below HR2_0.out HB.out)); (case side10 => exact HC2_0.out); (case side11 => exact xC (Kd.C_below HR2_1.out HB.out)); (case side12 => exact HC2_1.out); (case side13 => exact xC (Kd.C_below HR2_2.out HB.out)); (case side14 => exact HC2_2.out); rintro e w52 ⟨rfl, hb⟩; refine ⟨_, rfl, ?_⟩; replace BK182 := Aside0.mk (xB BK182 hb); replace BK183 := Aside0.mk (xB BK183 hb); replace BK184 := Aside0.mk (xB BK184 hb); replace HB := Aside0.mk (xS HB hb); (try clear hb); (try clear hb2); (try clear hk); (try clear hi)))
     go_ret2
     exact ⟨xer, xW HB⟩
  ·rw [if_neg c8] at H
   have c8b0 : (t186 == 0) = false := beq_eq_false_iff_ne.mpr c8
   have c8b1 : (t186 != 0) = true := bne_iff_ne.mpr c8
   simp only [Option.some.injEq, Prod.mk.injEq] at H
   obtain ⟨rfl, rfl⟩ := H
   go_enter Try.func34, Try.ntmps34
   go_wp2_with (first | ((with_reducible refine gate_dst (N := 4) rfl ?_); (try (refine gate_guard (by rfl) ?_; dsimp only)); refine box_event ?hg (N := 4) ?hd (cs := #[.string a0_0, .int .i64 a0_1, .int .i64 a0_2, .slice A0_3 l0_3.length c0_3, .slice A0_4 l0_4.length c0_4, .bool a0_5, .bool a0_6, .slice A0_7 l0_7.length c0_7, .int .i64 a0_8, .int .i64 a0_9, .int .i64 a0_10]) (t := 44) ?hr ?_; (case hd => rfl); (case hg => rfl); (case hr => first | (go_simp; done) | (go_simp; rfl)); intro gb182 hg w53 hbox hb; have BK182 := Aside0.mk (hbox); have GW182 := Aside0.mk (xZ HB hg); have GE182 := Aside0.mk (xZ HB hg); replace HB := Aside0.mk (xS HB hb); clear hb hbox hg) | ((with_reducible refine gate_dst (N := 5) rfl ?_); (try (refine gate_guard (by rfl) ?_; dsimp only)); refine box_event ?hg (N := 5) ?hd (cs := #[.int .i64 a1_0, .int .i64 a1_1, .slice A1_2 l1_2.length c1_2, .int .i64 a1_3]) (t := 49) ?hr ?_; (case hd => rfl); (case hg => rfl); (case hr => first | (go_simp; done) | (go_simp; rfl)); intro gb183 hg w54 hbox hb; have BK183 := Aside0.mk (hbox); have GW183 := Aside0.mk (xZ HB hg); have GE183 := Aside0.mk (xZ HB hg); have NB182_183 := Aside0.mk (xN BK182 hg); have NB183_182 := Aside0.mk (xM BK182 hg); replace BK182 := Aside0.mk (xB BK182 hb); replace HB := Aside0.mk (xS HB hb); clear hb hbox hg) | ((with_reducible refine gate_dst (N := 6) rfl ?_); (try (refine gate_guard (by rfl) ?_; dsimp only)); refine box_event ?hg (N := 6) ?hd (cs := #[.slice A2_0 l2_0.length c2_0, .slice A2_1 l2_1.length c2_1, .slice A2_2 l2_2.length c2_2, .int .i64 a2_3, .int .i64 a2_4]) (t := 47) ?hr ?_; (case hd => rfl); (case hg => rfl); (case hr => first | (go_simp; done) | (go_simp; rfl)); intro gb184 hg w55 hbox hb; have BK184 := Aside0.mk (hbox); have GW184 := Aside0.mk (xZ HB hg); have GE184 := Aside0.mk (xZ HB hg); have NB182_184 := Aside0.mk (xN BK182 hg); have NB184_182 := Aside0.mk (xM BK182 hg); have NB183_184 := Aside0.mk (xN BK183 hg); have NB184_183 := Aside0.mk (xM BK183 hg); replace BK182 := Aside0.mk (xB BK182 hb); replace BK183 := Aside0.mk (xB BK183 hb); replace HB := Aside0.mk (xS HB hb); clear hb hbox hg; have hnb56 := NB182_183.out; have hnc56 := NB183_182.out; have hnb57 := NB182_184.out; have hnc57 := NB184_182.out; have hcz58_0 := blkc11 BK182.out; have hnb59 := NB183_184.out; have hnc59 := NB184_183.out; have hcz60_0 := blkc4 BK183.out) | ((with_reducible refine gate_callee (f := 35) rfl ?_); refine goesL_ (some 14) rfl rfl Try.func35 (by kernel_rfl) rfl #[.agg #[.string a0_0, .int .i64 a0_1, .int .i64 a0_2, .slice A0_3 l0_3.length c0_3, .slice A0_4 l0_4.length c0_4, .bool a0_5, .bool a0_6, .slice A0_7 l0_7.length c0_7, .int .i64 a0_8, .int .i64 a0_9, .int .i64 a0_10], .agg #[.int .i64 a1_0, .int .i64 a1_1, .slice A1_2 l1_2.length c1_2, .int .i64 a1_3]] rfl (by (try simp only [List.map_toArray, List.map_cons, List.map_nil]); first | done | rfl | (simp only [List.length_drop, List.length_take]; rfl)) ?_; (with_reducible refine (pattern_Check.calls k a0_0 a0_1 a0_2 _ _ l0_3 _ _ l0_4 a0_5 a0_6 _ _ l0_7 a0_8 a0_9 a0_10 a1_0 a1_1 _ _ l1_2 a1_3 t185 _ ?side1 ?side2 ?side3 ?side4 ?side5 ?side6 ?side7 ?side8 A5.out).mono ?_); (case side1 => exact xC (Kd.C_below HR0_3.out HB.out)); (case side2 => exact HC0_3.out); (case side3 => exact xC (Kd.C_below HR0_4.out HB.out)); (case side4 => exact HC0_4.out); (case side5 => exact xC (Kd.C_below HR0_7.out HB.out)); (case side6 => exact HC0_7.out); (case side7 => exact xC (Kd.C_below HR1_2.out HB.out)); (case side8 => exact HC1_2.out); rintro e w61 ⟨rfl, hb⟩; refine ⟨_, rfl, ?_⟩; replace BK182 := Aside0.mk (xB BK182 hb); replace BK183 := Aside0.mk (xB BK183 hb); replace BK184 := Aside0.mk (xB BK184 hb); replace HB := Aside0.mk (xS HB hb); (try clear hb); (try clear hb2); (try clear hk); (try clear hi); have hcz62_0 := blkc11 BK182.out; have hcz63_0 := blkc5 BK184.out) | ((with_reducible refine gate_callee (f := 17) rfl ?_); refine goesL_ (some 20) rfl rfl Try.func17 (by kernel_rfl) rfl #[.agg #[.string a0_0, .int .i64 a0_1, .int .i64 a0_2, .slice A0_3 l0_3.length c0_3, .slice A0_4 l0_4.length c0_4, .bool a0_5, .bool a0_6, .slice A0_7 l0_7.length c0_7, .int .i64 a0_8, .int .i64 a0_9, .int .i64 a0_10], .agg #[.slice A2_0 l2_0.length c2_0, .slice A2_1 l2_1.length c2_1, .slice A2_2 l2_2.length c2_2, .int .i64 a2_3, .int .i64 a2_4]] rfl (by (try simp only [List.map_toArray, List.map_cons, List.map_nil]); first | done | rfl | (simp only [List.length_drop, List.length_take]; rfl)) ?_; (with_reducible refine (place_Check.calls k a0_0 a0_1 a0_2 _ _ l0_3 _ _ l0_4 a0_5 a0_6 _ _ l0_7 a0_8 a0_9 a0_10 _ _ l2_0 _ _ l2_1 _ _ l2_2 a2_3 a2_4 t186 _ ?side1 ?side2 ?side3 ?side4 ?side5 ?side6 ?side7 ?side8 ?side9 ?side10 ?side11 ?side12 A7.out).mono ?_); (case side1 => exact xC (Kd.C_below HR0_3.out HB.out)); (case side2 => exact HC0_3.out); (case side3 => exact xC (Kd.C_below HR0_4.out HB.out)); (case side4 => exact HC0_4.out); (case side5 => exact xC (Kd.C_below HR0_7.out HB.out)); (case side6 => exact HC0_7.out); (case side7 => exact xC (Kd.C_below HR2_0.out HB.out)); (case side8 => exact HC2_0.out); (case side9 => exact xC (Kd.C_below HR2_1.out HB.out)); (case side10 => exact HC2_1.out); (case side11 => exact xC (Kd.C_below HR2_2.out HB.out)); (case side12 => exact HC2_2.out); rintro e w64 ⟨rfl, hb⟩; refine ⟨_, rfl, ?_⟩; replace BK182 := Aside0.mk (xB BK182 hb); replace BK183 := Aside0.mk (xB BK183 hb); replace BK184 := Aside0.mk (xB BK184 hb); replace HB := Aside0.mk (xS HB hb); (try clear hb); (try clear hb2); (try clear hk); (try clear hi)))
   go_ret2
   exact ⟨xer, xW HB⟩
 ·rw [if_neg c6] at H
  have c6b0 : (t185 == 0) = false := beq_eq_false_iff_ne.mpr c6
  have c6b1 : (t185 != 0) = true := bne_iff_ne.mpr c6
  simp only [Option.some.injEq, Prod.mk.injEq] at H
  obtain ⟨rfl, rfl⟩ := H
  go_enter Try.func34, Try.ntmps34
  go_wp2_with (first | ((with_reducible refine gate_dst (N := 4) rfl ?_); (try (refine gate_guard (by rfl) ?_; dsimp only)); refine box_event ?hg (N := 4) ?hd (cs := #[.string a0_0, .int .i64 a0_1, .int .i64 a0_2, .slice A0_3 l0_3.length c0_3, .slice A0_4 l0_4.length c0_4, .bool a0_5, .bool a0_6, .slice A0_7 l0_7.length c0_7, .int .i64 a0_8, .int .i64 a0_9, .int .i64 a0_10]) (t := 44) ?hr ?_; (case hd => rfl); (case hg => rfl); (case hr => first | (go_simp; done) | (go_simp; rfl)); intro gb182 hg w65 hbox hb; have BK182 := Aside0.mk (hbox); have GW182 := Aside0.mk (xZ HB hg); have GE182 := Aside0.mk (xZ HB hg); replace HB := Aside0.mk (xS HB hb); clear hb hbox hg) | ((with_reducible refine gate_dst (N := 5) rfl ?_); (try (refine gate_guard (by rfl) ?_; dsimp only)); refine box_event ?hg (N := 5) ?hd (cs := #[.int .i64 a1_0, .int .i64 a1_1, .slice A1_2 l1_2.length c1_2, .int .i64 a1_3]) (t := 49) ?hr ?_; (case hd => rfl); (case hg => rfl); (case hr => first | (go_simp; done) | (go_simp; rfl)); intro gb183 hg w66 hbox hb; have BK183 := Aside0.mk (hbox); have GW183 := Aside0.mk (xZ HB hg); have GE183 := Aside0.mk (xZ HB hg); have NB182_183 := Aside0.mk (xN BK182 hg); have NB183_182 := Aside0.mk (xM BK182 hg); replace BK182 := Aside0.mk (xB BK182 hb); replace HB := Aside0.mk (xS HB hb); clear hb hbox hg) | ((with_reducible refine gate_dst (N := 6) rfl ?_); (try (refine gate_guard (by rfl) ?_; dsimp only)); refine box_event ?hg (N := 6) ?hd (cs := #[.slice A2_0 l2_0.length c2_0, .slice A2_1 l2_1.length c2_1, .slice A2_2 l2_2.length c2_2, .int .i64 a2_3, .int .i64 a2_4]) (t := 47) ?hr ?_; (case hd => rfl); (case hg => rfl); (case hr => first | (go_simp; done) | (go_simp; rfl)); intro gb184 hg w67 hbox hb; have BK184 := Aside0.mk (hbox); have GW184 := Aside0.mk (xZ HB hg); have GE184 := Aside0.mk (xZ HB hg); have NB182_184 := Aside0.mk (xN BK182 hg); have NB184_182 := Aside0.mk (xM BK182 hg); have NB183_184 := Aside0.mk (xN BK183 hg); have NB184_183 := Aside0.mk (xM BK183 hg); replace BK182 := Aside0.mk (xB BK182 hb); replace BK183 := Aside0.mk (xB BK183 hb); replace HB := Aside0.mk (xS HB hb); clear hb hbox hg; have hnb68 := NB182_183.out; have hnc68 := NB183_182.out; have hnb69 := NB182_184.out; have hnc69 := NB184_182.out; have hcz70_0 := blkc11 BK182.out; have hnb71 := NB183_184.out; have hnc71 := NB184_183.out; have hcz72_0 := blkc4 BK183.out) | ((with_reducible refine gate_callee (f := 35) rfl ?_); refine goesL_ (some 14) rfl rfl Try.func35 (by kernel_rfl) rfl #[.agg #[.string a0_0, .int .i64 a0_1, .int .i64 a0_2, .slice A0_3 l0_3.length c0_3, .slice A0_4 l0_4.length c0_4, .bool a0_5, .bool a0_6, .slice A0_7 l0_7.length c0_7, .int .i64 a0_8, .int .i64 a0_9, .int .i64 a0_10], .agg #[.int .i64 a1_0, .int .i64 a1_1, .slice A1_2 l1_2.length c1_2, .int .i64 a1_3]] rfl (by (try simp only [List.map_toArray, List.map_cons, List.map_nil]); first | done | rfl | (simp only [List.length_drop, List.length_take]; rfl)) ?_; (with_reducible refine (pattern_Check.calls k a0_0 a0_1 a0_2 _ _ l0_3 _ _ l0_4 a0_5 a0_6 _ _ l0_7 a0_8 a0_9 a0_10 a1_0 a1_1 _ _ l1_2 a1_3 t185 _ ?side1 ?side2 ?side3 ?side4 ?side5 ?side6 ?side7 ?side8 A5.out).mono ?_); (case side1 => exact xC (Kd.C_below HR0_3.out HB.out)); (case side2 => exact HC0_3.out); (case side3 => exact xC (Kd.C_below HR0_4.out HB.out)); (case side4 => exact HC0_4.out); (case side5 => exact xC (Kd.C_below HR0_7.out HB.out)); (case side6 => exact HC0_7.out); (case side7 => exact xC (Kd.C_below HR1_2.out HB.out)); (case side8 => exact HC1_2.out); rintro e w73 ⟨rfl, hb⟩; refine ⟨_, rfl, ?_⟩; replace BK182 := Aside0.mk (xB BK182 hb); replace BK183 := Aside0.mk (xB BK183 hb); replace BK184 := Aside0.mk (xB BK184 hb); replace HB := Aside0.mk (xS HB hb); (try clear hb); (try clear hb2); (try clear hk); (try clear hi)))
  go_ret2
  exact ⟨xer, xW HB⟩

end Go.Proofs.Ytemfkhafkhkffaa.PPatternCuts
