-- Printed by a program of this claim's writer (wip/ext): an extension of the kit's print.
import Derived.Test.YtloadbbndnmdlaaDoorBuilder
import Derived.Test.YtloadbbndnmdlaaDoorPPlaceChecksx0
import Derived.Test.YtloadbbndnmdlaaDoorPPlaceChecksx3
namespace Go.Proofs.YtloadbbndnmdlaaDoor.PPlaceChecks
open Go.RowKit Go.Proofs.YtloadbbndnmdlaaDoorW.PrintWords Go.Proofs.YtloadbbndnmdlaaDoorW.PrintLast Go.Proofs.YtloadbbndnmdlaaDoorW.PrintMore
set_option maxHeartbeats 8000000
set_option maxRecDepth 100000
attribute [local go_sem] max2_int min2_int max_two min_two max_three min_three max_four min_four   -- for this text's walks alone
set_option linter.unusedVariables false
set_option linter.unusedSimpArgs false

/-! ### place_Check: function 7 -/
mutual
def place_Check.j0 : Nat → Bool → ByteArray → Int → Int → List (S44) → List Int → Bool → Bool → List (S46) → Int → Int → Int → List Int → List Int → List Int → Int → Int → Option (Int)
  | 0, _, _, _, _, _, _, _, _, _, _, _, _, _, _, _, _, _ => none
  | k + 1, x45, z166a, z166b, z166c, z166d, z166e, z166f, z166g, z166h, z166i, z166j, z166k, z167a, z167b, z167c, z167d, z167e => if x45 = true then (some 3) else (place_Check.l0 k z167a (z167a.length : Int) 0 z166a z166b z166c z166d z166e z166f z166g z166h z166i z166j z166k z167a z167b z167c z167d z167e)
def place_Check.l0 : Nat → List Int → Int → Int → ByteArray → Int → Int → List (S44) → List Int → Bool → Bool → List (S46) → Int → Int → Int → List Int → List Int → List Int → Int → Int → Option (Int)
  | 0, _, _, _, _, _, _, _, _, _, _, _, _, _, _, _, _, _, _, _ => none
  | k + 1, x47, x48, x49, z166a, z166b, z166c, z166d, z166e, z166f, z166g, z166h, z166i, z166j, z166k, z167a, z167b, z167c, z167d, z167e => if x49 < x48 then (if 0 ≤ x49 then (if x49 < (x47.length : Int) then (if (rd x47 x49) < 0 then (some 4) else (if (rd x47 x49) > (wrap64 (2 * (z166d.length : Int))) then (some 4) else (place_Check.l0 k x47 x48 (wrap64 (x49 + 1)) z166a z166b z166c z166d z166e z166f z166g z166h z166i z166j z166k z167a z167b z167c z167d z167e))) else (none)) else (none)) else (place_Check.l1 k 0 z167b z167c z167a z167b z167c z167d z167e)
def place_Check.l1 : Nat → Int → List Int → List Int → List Int → List Int → List Int → Int → Int → Option (Int)
  | 0, _, _, _, _, _, _, _, _ => none
  | k + 1, x66, x101, x102, z167a, z167b, z167c, z167d, z167e => if x66 < 2 then (if 0 ≤ x66 then (if x66 = 0 then (place_Check.j3 k x101 x66 x101 x102 z167a z167b z167c z167d z167e) else (place_Check.j3 k x102 x66 x101 x102 z167a z167b z167c z167d z167e)) else (none)) else (if z167d = 0 then (if z167e < 0 then (some 4) else (if z167e > 200 then (some 4) else (some 0))) else (if z167d = 1 then (if z167e < 0 then (some 4) else (if z167e > 200 then (some 4) else (some 0))) else (some 4)))
def place_Check.j3 : Nat → List Int → Int → List Int → List Int → List Int → List Int → List Int → Int → Int → Option (Int)
  | 0, _, _, _, _, _, _, _, _, _ => none
  | k + 1, x9, x66, x101, x102, z167a, z167b, z167c, z167d, z167e => place_Check.l2 k x66 x9 (x9.length : Int) 0 x101 x102 z167a z167b z167c z167d z167e
def place_Check.l2 : Nat → Int → List Int → Int → Int → List Int → List Int → List Int → List Int → List Int → Int → Int → Option (Int)
  | 0, _, _, _, _, _, _, _, _, _, _, _ => none
  | k + 1, x66, x69, x70, x71, x101, x102, z167a, z167b, z167c, z167d, z167e => if x71 < x70 then (if 0 ≤ x71 then (if x71 < (x69.length : Int) then (if (rd x69 x71) < 0 then (some 4) else (if (rd x69 x71) > 1000 then (some 4) else (place_Check.l2 k x66 x69 x70 (wrap64 (x71 + 1)) x101 x102 z167a z167b z167c z167d z167e))) else (none)) else (none)) else (place_Check.l1 k (wrap64 (x66 + 1)) x101 x102 z167a z167b z167c z167d z167e)
end
def place_Check.f (k : Nat) (a0_0 : ByteArray) (a0_1 : Int) (a0_2 : Int) (l0_3 : List (S44)) (l0_4 : List Int) (a0_5 : Bool) (a0_6 : Bool) (l0_7 : List (S46)) (a0_8 : Int) (a0_9 : Int) (a0_10 : Int) (l1_0 : List Int) (l1_1 : List Int) (l1_2 : List Int) (a1_3 : Int) (a1_4 : Int) : Option (Int) := (rules_Check.f k a0_0 a0_1 a0_2 l0_3 l0_4 a0_5 a0_6 l0_7 a0_8 a0_9 a0_10).bind fun t167 => (if t167 = 0 then (if (l1_0.length : Int) = (wrap64 (a0_1 * a0_2)) then (if (l1_1.length : Int) = (l0_3.length : Int) then (place_Check.j0 k ((l1_2.length : Int) != (l0_3.length : Int)) a0_0 a0_1 a0_2 l0_3 l0_4 a0_5 a0_6 l0_7 a0_8 a0_9 a0_10 l1_0 l1_1 l1_2 a1_3 a1_4) else (place_Check.j0 k true a0_0 a0_1 a0_2 l0_3 l0_4 a0_5 a0_6 l0_7 a0_8 a0_9 a0_10 l1_0 l1_1 l1_2 a1_3 a1_4)) else (place_Check.j0 k true a0_0 a0_1 a0_2 l0_3 l0_4 a0_5 a0_6 l0_7 a0_8 a0_9 a0_10 l1_0 l1_1 l1_2 a1_3 a1_4)) else (some t167))
theorem place_Check.mono_l : ∀ k, L10 (L5 (LM (LM (LeO)))) (place_Check.j0 k) (place_Check.j0 (k + 1)) ∧ L10 (L5 (LM (LM (LM (LM (LeO)))))) (place_Check.l0 k) (place_Check.l0 (k + 1)) ∧ L5 (LM (LM (LM (LeO)))) (place_Check.l1 k) (place_Check.l1 (k + 1)) ∧ L5 (LM (LM (LM (LM (LeO))))) (place_Check.j3 k) (place_Check.j3 (k + 1)) ∧ L10 (LM (LeO)) (place_Check.l2 k) (place_Check.l2 (k + 1))
  | 0 => by refine ⟨?_, ?_, ?_, ?_, ?_⟩ <;> (repeat (first | exact LeO.none _ | intro _))
  | k + 1 => by
    obtain ⟨ih0, ih1, ih2, ih3, ih4⟩ := place_Check.mono_l k; refine ⟨?_, ?_, ?_, ?_, ?_⟩ <;> ((repeat (first | (with_reducible refine LeO.st ?_) | intro _)); constructor; (first | unfold place_Check.j0 | unfold place_Check.l0 | unfold place_Check.l1 | unfold place_Check.j3 | unfold place_Check.l2); repeat' first | (with_reducible first | apply ih0 | apply ih1 | apply ih2 | apply ih3 | apply ih4 | apply rules_Check.mono | exact LeO.refl _ | exact LeO.none _ | refine LeO.ite ?_ ?_ | refine LeO.bind ?_ (fun _ => ?_)) | apply ih0 | apply ih1 | apply ih2 | apply ih3 | apply ih4 | apply rules_Check.mono | exact LeO.none _ | refine LeO.ite ?_ ?_ | refine LeO.bind ?_ (fun _ => ?_))
theorem place_Check.mono : ∀ a0 a1 a2 a3 a4 a5 a6 a7 a8 a9 a10 a11 a12 a13 a14 a15 k, LeO (place_Check.f k a0 a1 a2 a3 a4 a5 a6 a7 a8 a9 a10 a11 a12 a13 a14 a15) (place_Check.f (k + 1) a0 a1 a2 a3 a4 a5 a6 a7 a8 a9 a10 a11 a12 a13 a14 a15) := by
  intros; rename_i k; obtain ⟨ih0, ih1, ih2, ih3, ih4⟩ := place_Check.mono_l k
  unfold place_Check.f
  repeat' first | (with_reducible first | apply ih0 | apply ih1 | apply ih2 | apply ih3 | apply ih4 | apply rules_Check.mono | exact LeO.refl _ | exact LeO.none _ | refine LeO.ite ?_ ?_ | refine LeO.bind ?_ (fun _ => ?_)) | apply ih0 | apply ih1 | apply ih2 | apply ih3 | apply ih4 | apply rules_Check.mono | exact LeO.none _ | refine LeO.ite ?_ ?_ | refine LeO.bind ?_ (fun _ => ?_)
theorem place_Check.calls (k : Nat) (a0_0 : ByteArray) (a0_1 : Int) (a0_2 : Int) (A0_3 : Option Addr) (c0_3 : Nat) (l0_3 : List (S44)) (A0_4 : Option Addr) (c0_4 : Nat) (l0_4 : List Int) (a0_5 : Bool) (a0_6 : Bool) (A0_7 : Option Addr) (c0_7 : Nat) (l0_7 : List (S46)) (a0_8 : Int) (a0_9 : Int) (a0_10 : Int) (A1_0 : Option Addr) (c1_0 : Nat) (l1_0 : List Int) (A1_1 : Option Addr) (c1_1 : Nat) (l1_1 : List Int) (A1_2 : Option Addr) (c1_2 : Nat) (l1_2 : List Int) (a1_3 : Int) (a1_4 : Int) (r : Int) (w : World) (hr0_3 : Kd.C k44 w A0_3 l0_3.length l0_3) (hc0_3 : l0_3.length ≤ c0_3) (hr0_4 : Kd.C (Kd.int .i64) w A0_4 l0_4.length l0_4) (hc0_4 : l0_4.length ≤ c0_4) (hr0_7 : Kd.C k46 w A0_7 l0_7.length l0_7) (hc0_7 : l0_7.length ≤ c0_7) (hr1_0 : Kd.C (Kd.int .i64) w A1_0 l1_0.length l1_0) (hc1_0 : l1_0.length ≤ c1_0) (hr1_1 : Kd.C (Kd.int .i64) w A1_1 l1_1.length l1_1) (hc1_1 : l1_1.length ≤ c1_1) (hr1_2 : Kd.C (Kd.int .i64) w A1_2 l1_2.length l1_2) (hc1_2 : l1_2.length ≤ c1_2) (h : place_Check.f k a0_0 a0_1 a0_2 l0_3 l0_4 a0_5 a0_6 l0_7 a0_8 a0_9 a0_10 l1_0 l1_1 l1_2 a1_3 a1_4 = some r) :
    Calls Tryd.prog 7 #[.agg #[.string a0_0, .int .i64 a0_1, .int .i64 a0_2, .slice A0_3 l0_3.length c0_3, .slice A0_4 l0_4.length c0_4, .bool a0_5, .bool a0_6, .slice A0_7 l0_7.length c0_7, .int .i64 a0_8, .int .i64 a0_9, .int .i64 a0_10], .agg #[.slice A1_0 l1_0.length c1_0, .slice A1_1 l1_1.length c1_1, .slice A1_2 l1_2.length c1_2, .int .i64 a1_3, .int .i64 a1_4]] w fun e w' => e = .returned (.int .i64 r) ∧ Below w.heap.size w w' := by
 have hu26 := Tryd.underlying26; have hu29 := Tryd.underlying29; have hu27 := Tryd.underlying27; have HR0_3 := xm hr0_3; have HC0_3 := xm hc0_3; clear hr0_3 hc0_3; have HR0_4 := xm hr0_4; have HC0_4 := xm hc0_4; clear hr0_4 hc0_4; have HR0_7 := xm hr0_7; have HC0_7 := xm hc0_7; clear hr0_7 hc0_7; have HR1_0 := xm hr1_0; have HC1_0 := xm hc1_0; clear hr1_0 hc1_0; have HR1_1 := xm hr1_1; have HC1_1 := xm hc1_1; clear hr1_1 hc1_1; have HR1_2 := xm hr1_2; have HC1_2 := xm hc1_2; clear hr1_2 hc1_2; have HB := xm (Below.refl w.heap.size w); have hss_ := @isSome_setCell; have H : ((rules_Check.f k a0_0 a0_1 a0_2 l0_3 l0_4 a0_5 a0_6 l0_7 a0_8 a0_9 a0_10).bind fun t167 => (if t167 = 0 then (if (l1_0.length : Int) = (wrap64 (a0_1 * a0_2)) then (if (l1_1.length : Int) = (l0_3.length : Int) then (place_Check.j0 k ((l1_2.length : Int) != (l0_3.length : Int)) a0_0 a0_1 a0_2 l0_3 l0_4 a0_5 a0_6 l0_7 a0_8 a0_9 a0_10 l1_0 l1_1 l1_2 a1_3 a1_4) else (place_Check.j0 k true a0_0 a0_1 a0_2 l0_3 l0_4 a0_5 a0_6 l0_7 a0_8 a0_9 a0_10 l1_0 l1_1 l1_2 a1_3 a1_4)) else (place_Check.j0 k true a0_0 a0_1 a0_2 l0_3 l0_4 a0_5 a0_6 l0_7 a0_8 a0_9 a0_10 l1_0 l1_1 l1_2 a1_3 a1_4)) else (some t167))) = some r := h; clear h; obtain ⟨t167, A3, H⟩ := xH H; (try dsimp only at H); have DA3 := xm fun (W_ : World) (hb_ : Below w.heap.size w W_) => rules_Check.calls k a0_0 a0_1 a0_2 _ _ l0_3 _ _ l0_4 a0_5 a0_6 _ _ l0_7 a0_8 a0_9 a0_10 t167 W_ (Kd.C_below HR0_3.out hb_) HC0_3.out (Kd.C_below HR0_4.out hb_) HC0_4.out (Kd.C_below HR0_7.out hb_) HC0_7.out A3.out
 by_cases c4 : t167 = 0
 ·rw [if_pos c4] at H; have c4b0 := beq_iff_eq.mpr c4; have c4b1 := bne_eq_false_iff_eq.mpr c4; clear c4; have HC5 := xm H; clear H; go_enter Tryd.func7, Tryd.ntmps7
  go_upto_region 4 with (first | ((with_reducible refine gate_dst (N := 2) rfl ?_); (try (refine gate_guard (by rfl) ?_; dsimp only)); refine xG (cs := #[.string a0_0, .int .i64 a0_1, .int .i64 a0_2, .slice A0_3 l0_3.length c0_3, .slice A0_4 l0_4.length c0_4, .bool a0_5, .bool a0_6, .slice A0_7 l0_7.length c0_7, .int .i64 a0_8, .int .i64 a0_9, .int .i64 a0_10]) (t := 26) ?_; intro gb165 hg w6 hbox hb; have BK165 := xm (hbox); have GW165 := xZ HB hg; have GE165 := xZ HB hg; replace HB := xS HB hb; clear hb hbox hg) | ((with_reducible refine gate_dst (N := 3) rfl ?_); (try (refine gate_guard (by rfl) ?_; dsimp only)); refine xG (cs := #[.slice A1_0 l1_0.length c1_0, .slice A1_1 l1_1.length c1_1, .slice A1_2 l1_2.length c1_2, .int .i64 a1_3, .int .i64 a1_4]) (t := 29) ?_; intro gb166 hg w7 hbox hb; have BK166 := xm (hbox); have GW166 := xZ HB hg; have GE166 := xZ HB hg; have NB165_166 := xN BK165 hg; have NB166_165 := xM BK165 hg; replace BK165 := xB BK165 hb; replace HB := xS HB hb; clear hb hbox hg; have hnb8 := NB165_166.out; have hnc8 := NB166_165.out; have hcz9_0 := blkc11 BK165.out) | ((with_reducible refine gate_callee (f := 13) rfl ?_); refine xL (some 13) Tryd.func13 #[.agg #[.string a0_0, .int .i64 a0_1, .int .i64 a0_2, .slice A0_3 l0_3.length c0_3, .slice A0_4 l0_4.length c0_4, .bool a0_5, .bool a0_6, .slice A0_7 l0_7.length c0_7, .int .i64 a0_8, .int .i64 a0_9, .int .i64 a0_10]] rfl ?_; (with_reducible refine (DA3.out _ ?sB).mono ?_); (case sB => exact xW HB); rintro e w10 ⟨rfl, hb⟩; refine ⟨_, rfl, ?_⟩; replace BK165 := xB BK165 hb; replace BK166 := xB BK166 hb; replace HB := xS HB hb; (try clear hb); (try clear hb2); (try clear hk); (try clear hi)))
  (try have hq166_165 := NB166_165.out); (try have hq165_166 := NB165_166.out); (try simp only [Act.put, List.setIfInBounds_toArray, List.set_cons_zero, List.set_cons_succ])
  go_cut [45] (fun vs45 wc => ∃ (kq : Nat) (x45_4 : Bool), vs45 = .bool x45_4 ∧ Aside0 (place_Check.j0 kq x45_4 a0_0 a0_1 a0_2 l0_3 l0_4 a0_5 a0_6 l0_7 a0_8 a0_9 a0_10 l1_0 l1_1 l1_2 a1_3 a1_4 = some r) ∧ Aside0 (kq ≤ k) ∧ Aside0 (wc.heap[gb165]? = some (.cells #[.string a0_0, .int .i64 a0_1, .int .i64 a0_2, (.slice A0_3 l0_3.length c0_3), (.slice A0_4 l0_4.length c0_4), .bool a0_5, .bool a0_6, (.slice A0_7 l0_7.length c0_7), .int .i64 a0_8, .int .i64 a0_9, .int .i64 a0_10] 26 (0, 0))) ∧ Aside0 (wc.heap[gb166]? = some (.cells #[(.slice A1_0 l1_0.length c1_0), (.slice A1_1 l1_1.length c1_1), (.slice A1_2 l1_2.length c1_2), .int .i64 a1_3, .int .i64 a1_4] 29 (0, 0))) ∧ Aside0 (Below w.heap.size w wc))
  case first =>
   have H := HC5.out; clear HC5
   by_cases c11 : (l1_0.length : Int) = (wrap64 (a0_1 * a0_2))
   ·rw [if_pos c11] at H; have c11b0 := beq_iff_eq.mpr c11; have c11b1 := bne_eq_false_iff_eq.mpr c11; clear c11
    (first | rw [c11b0] | (simp only [i64_w, i32_w]; rw [c11b0]) | skip)
    by_cases c12 : (l1_1.length : Int) = (l0_3.length : Int)
    ·rw [if_pos c12] at H; have c12b0 := beq_iff_eq.mpr c12; have c12b1 := bne_eq_false_iff_eq.mpr c12; have c12b2 : (l1_1.length == l0_3.length) = true := by first | simpa using c12 | (simp at c12 ⊢; omega)
     clear c12; have H' := xm H; clear H; have hcz14_0 := blkc5 BK166.out; have hcz15_0 := blkc11 BK165.out
     go_wp2
     go_meet
     case rel => exact ⟨_, (((l1_2.length : Int) != (l0_3.length : Int))), (xrf), H', ⟨by first | omega | exact Nat.le_refl _⟩, ⟨xK BK165⟩, ⟨xK BK166⟩, ⟨xW HB⟩⟩
    ·rw [if_neg c12] at H; have c12b0 := beq_eq_false_iff_ne.mpr c12; have c12b1 := bne_iff_ne.mpr c12; have c12b2 : (l1_1.length == l0_3.length) = false := by first | simpa using c12 | (simp at c12 ⊢; omega)
     have H' := xm H; clear H; have hcz17_0 := blkc5 BK166.out; have hcz18_0 := blkc11 BK165.out
     go_wp2
     go_meet
     case rel => exact ⟨_, (true), (xrf), H', ⟨by first | omega | exact Nat.le_refl _⟩, ⟨xK BK165⟩, ⟨xK BK166⟩, ⟨xW HB⟩⟩
   ·rw [if_neg c11] at H; have c11b0 := beq_eq_false_iff_ne.mpr c11; have c11b1 := bne_iff_ne.mpr c11
    (first | rw [c11b0] | (simp only [i64_w, i32_w]; rw [c11b0]) | skip)
    have H' := xm H; clear H; have hcz20_0 := blkc5 BK166.out; have hcz21_0 := blkc11 BK165.out
    go_wp2
    go_meet
    case rel => exact ⟨_, (true), (xrf), H', ⟨by first | omega | exact Nat.le_refl _⟩, ⟨xK BK165⟩, ⟨xK BK166⟩, ⟨xW HB⟩⟩
  case rest =>
   clear HC5; (try clear p2); (try clear p6); obtain ⟨kq, x45_4, rfl, HA, HJ4, BK165, BK166, HB⟩ := hcut
   cases kq with
   | zero => exact absurd HA.out (by simp [place_Check.j0])
   | succ kj4 =>
    have H := HA.out; clear HA; simp only [place_Check.j0] at H
    by_cases c22 : x45_4 = true
    ·subst c22; rw [if_pos rfl] at H; obtain rfl := Option.some.inj H
     go_wp2
     go_ret; exact ⟨xer, xW HB⟩
    ·obtain rfl := Bool.eq_false_iff.mpr c22; rw [if_neg xF] at H; have H' := xm H; clear H; have hcz24_0 := blkc5 BK166.out
     go_wp2
     go_loopg [49] kj4 (fun kq vs49 w' => ∃ (x49_2 : Int), vs49 = .int .i64 x49_2 ∧ Aside0 (place_Check.l0 kq l1_0 (l1_0.length : Int) x49_2 a0_0 a0_1 a0_2 l0_3 l0_4 a0_5 a0_6 l0_7 a0_8 a0_9 a0_10 l1_0 l1_1 l1_2 a1_3 a1_4 = some r) ∧ Aside0 (kq ≤ kj4) ∧ Aside0 (w'.heap[gb165]? = some (.cells #[.string a0_0, .int .i64 a0_1, .int .i64 a0_2, (.slice A0_3 l0_3.length c0_3), (.slice A0_4 l0_4.length c0_4), .bool a0_5, .bool a0_6, (.slice A0_7 l0_7.length c0_7), .int .i64 a0_8, .int .i64 a0_9, .int .i64 a0_10] 26 (0, 0))) ∧ Aside0 (w'.heap[gb166]? = some (.cells #[(.slice A1_0 l1_0.length c1_0), (.slice A1_1 l1_1.length c1_1), (.slice A1_2 l1_2.length c1_2), .int .i64 a1_3, .int .i64 a1_4] 29 (0, 0))) ∧ Aside0 (Below w.heap.size w w'))
     case atStart => exact ⟨(0), (xrf), H', ⟨Nat.le_refl _⟩, ⟨xK BK165⟩, ⟨xK BK166⟩, ⟨xW HB⟩⟩
     case round =>
      clear H'; (try clear p2); (try clear p6); obtain ⟨x49_2, rfl, HA, HK2, BK165, BK166, HB⟩ := hrel
      cases gk with
      | zero => exact absurd HA.out (by simp [place_Check.l0])
      | succ k2 =>
       have H := HA.out; clear HA; simp only [place_Check.l0] at H
       by_cases c25 : x49_2 < (l1_0.length : Int)
       ·rw [if_pos c25] at H; have c25b0 := decide_eq_true c25; clear c25; obtain ⟨c26b0, H⟩ := xJ H; obtain ⟨c27b0, H⟩ := xJ H
        by_cases c28 : (rd l1_0 x49_2) < 0
        ·rw [if_pos c28] at H; have c28b0 := decide_eq_true c28; clear c28; obtain rfl := Option.some.inj H; have p168 : 0 ≤ (x49_2 : Int) := xO; have q168 : x49_2 < (l1_0.length : Int) := xO; obtain ⟨ad168, e168, hx168_0⟩ := Kd.at_int HR1_0.out x49_2 p168 q168
         cases e168
         (first | replace hx168_0 := xR HB hx168_0 | skip); replace p168 := eq_true p168; replace q168 := eq_true q168
         go_wp2
         go_ret; exact ⟨xer, xW HB⟩
        ·rw [if_neg c28] at H; have c28b0 := decide_eq_false c28; clear c28
         by_cases c29 : (rd l1_0 x49_2) > (wrap64 (2 * (l0_3.length : Int)))
         ·rw [if_pos c29] at H; have c29b0 := decide_eq_true c29; clear c29; obtain rfl := Option.some.inj H; have p168 : 0 ≤ (x49_2 : Int) := xO; have q168 : x49_2 < (l1_0.length : Int) := xO; obtain ⟨ad168, e168, hx168_0⟩ := Kd.at_int HR1_0.out x49_2 p168 q168
          cases e168
          (first | replace hx168_0 := xR HB hx168_0 | skip); replace p168 := eq_true p168; replace q168 := eq_true q168; have hcz31_0 := blkc11 BK165.out
          go_wp2
          go_ret; exact ⟨xer, xW HB⟩
         ·rw [if_neg c29] at H; have c29b0 := decide_eq_false c29; clear c29; have H' := xm H; clear H; have p168 : 0 ≤ (x49_2 : Int) := xO; have q168 : x49_2 < (l1_0.length : Int) := xO; obtain ⟨ad168, e168, hx168_0⟩ := Kd.at_int HR1_0.out x49_2 p168 q168
          cases e168
          (first | replace hx168_0 := xR HB hx168_0 | skip); replace p168 := eq_true p168; replace q168 := eq_true q168; have hcz33_0 := blkc11 BK165.out
          go_wp2
          go_roundg k2
          case measure => have := HJ4.out; have := HK2.out; omega
          case rel => exact ⟨(wrap64 (x49_2 + 1)), (xrf), H', ⟨by have := HJ4.out; have := HK2.out; omega⟩, ⟨xK BK165⟩, ⟨xK BK166⟩, ⟨xW HB⟩⟩
       ·rw [if_neg c25] at H; have c25b0 := decide_eq_false c25; clear c25; have H' := xm H; clear H; have hcz35_0 := blkc5 BK166.out
        go_wp2
        go_loopg [66] k2 (fun kq vs66 w' => ∃ (x66_3 : Int), vs66 = .int .i64 x66_3 ∧ Aside0 (place_Check.l1 kq x66_3 l1_1 l1_2 l1_0 l1_1 l1_2 a1_3 a1_4 = some r) ∧ Aside0 (kq ≤ k2) ∧ Aside0 (w'.heap[gb165]? = some (.cells #[.string a0_0, .int .i64 a0_1, .int .i64 a0_2, (.slice A0_3 l0_3.length c0_3), (.slice A0_4 l0_4.length c0_4), .bool a0_5, .bool a0_6, (.slice A0_7 l0_7.length c0_7), .int .i64 a0_8, .int .i64 a0_9, .int .i64 a0_10] 26 (0, 0))) ∧ Aside0 (w'.heap[gb166]? = some (.cells #[(.slice A1_0 l1_0.length c1_0), (.slice A1_1 l1_1.length c1_1), (.slice A1_2 l1_2.length c1_2), .int .i64 a1_3, .int .i64 a1_4] 29 (0, 0))) ∧ Aside0 (Below w.heap.size w w'))
        case atStart => exact ⟨(0), (xrf), H', ⟨Nat.le_refl _⟩, ⟨xK BK165⟩, ⟨xK BK166⟩, ⟨xW HB⟩⟩
        case round =>
         clear H'; (try clear p1); (try clear q1); (try clear hx1); (try clear p2); (try clear p6); (try clear p16); (try clear q16); (try clear hx16); (try clear hx168_0); (try clear p168); (try clear q168); obtain ⟨x66_3, rfl, HA, HK3, BK165, BK166, HB⟩ := hrel
         cases gk with
         | zero => exact absurd HA.out (by simp [place_Check.l1])
         | succ k3 =>
          have H := HA.out; clear HA; simp only [place_Check.l1] at H
          by_cases c36 : x66_3 < 2
          ·rw [if_pos c36] at H; have c36b0 := decide_eq_true c36; clear c36; have HC37 := xm H; clear H
           go_upto_region 14 with (fail)
           go_cut [9] (fun vs9 wc => ∃ (kq : Nat) (x9_36 : List Int) (Ar9 : Option Addr) (cr9 : Nat), vs9 = .slice Ar9 x9_36.length cr9 ∧ Aside0 (Kd.C (Kd.int .i64) w Ar9 x9_36.length x9_36) ∧ Aside0 (x9_36.length ≤ cr9) ∧ Aside0 (place_Check.j3 kq x9_36 x66_3 l1_1 l1_2 l1_0 l1_1 l1_2 a1_3 a1_4 = some r) ∧ Aside0 (kq ≤ k3) ∧ Aside0 (wc.heap[gb165]? = some (.cells #[.string a0_0, .int .i64 a0_1, .int .i64 a0_2, (.slice A0_3 l0_3.length c0_3), (.slice A0_4 l0_4.length c0_4), .bool a0_5, .bool a0_6, (.slice A0_7 l0_7.length c0_7), .int .i64 a0_8, .int .i64 a0_9, .int .i64 a0_10] 26 (0, 0))) ∧ Aside0 (wc.heap[gb166]? = some (.cells #[(.slice A1_0 l1_0.length c1_0), (.slice A1_1 l1_1.length c1_1), (.slice A1_2 l1_2.length c1_2), .int .i64 a1_3, .int .i64 a1_4] 29 (0, 0))) ∧ Aside0 (Below w.heap.size w wc))
           case first =>
            have H := HC37.out; clear HC37; obtain ⟨c38b0, H⟩ := xJ H
            (first | rw [c38b0] | (simp only [i64_w, i32_w]; rw [c38b0]) | skip)
            by_cases c39 : x66_3 = 0
            ·rw [if_pos c39] at H; have c39b0 := beq_iff_eq.mpr c39; have c39b1 := bne_eq_false_iff_eq.mpr c39; clear c39; obtain ⟨c40b, c40g, c40c, c40d⟩ := xar (x66_3 : Int) 0 0 2; have c40i : ∀ (v0_ v1_ : Value) (w_ : World), (Instr.index 27 (.agg #[v0_, v1_]) (.int .i64 x66_3)).run Tryd.prog w_ = .ok v0_ w_ := by intro v0_ v1_ w_; have h0_ := c40b c40g; simp [Instr.index, asIntOf, part, isAgg, sizeOf, Tryd.underlying27, c40c, c40d, h0_] <;> simp [show Tryd.t23.size = 1 from rfl]
             have H' := xm H; clear H
             go_wp2
             go_meet
             case rel => exact ⟨_, (l1_1), (A1_1), (c1_1), rfl, ⟨HR1_1.out⟩, ⟨HC1_1.out⟩, H', ⟨by have := HJ4.out; have := HK2.out; have := HK3.out; first | omega | exact Nat.le_refl _⟩, ⟨xK BK165⟩, ⟨xK BK166⟩, ⟨xW HB⟩⟩
            ·rw [if_neg c39] at H; have c39b0 := beq_eq_false_iff_ne.mpr c39; have c39b1 := bne_iff_ne.mpr c39; obtain ⟨c41b, c41g, c41c, c41d⟩ := xar (x66_3 : Int) 1 1 2; have c41i : ∀ (v0_ v1_ : Value) (w_ : World), (Instr.index 27 (.agg #[v0_, v1_]) (.int .i64 x66_3)).run Tryd.prog w_ = .ok v1_ w_ := by intro v0_ v1_ w_; have h0_ := c41b c41g; simp [Instr.index, asIntOf, part, isAgg, sizeOf, Tryd.underlying27, c41c, c41d, h0_] <;> simp [show Tryd.t23.size = 1 from rfl]
             have H' := xm H; clear H
             go_wp2
             go_meet
             case rel => exact ⟨_, (l1_2), (A1_2), (c1_2), rfl, ⟨HR1_2.out⟩, ⟨HC1_2.out⟩, H', ⟨by have := HJ4.out; have := HK2.out; have := HK3.out; first | omega | exact Nat.le_refl _⟩, ⟨xK BK165⟩, ⟨xK BK166⟩, ⟨xW HB⟩⟩
           case rest =>
            clear HC37; (try clear p1); (try clear q1); (try clear hx1); (try clear p2); (try clear p6); (try clear p16); (try clear q16); (try clear hx16); (try clear hx168_0); (try clear p168); (try clear q168); obtain ⟨kq, x9_36, Ar9, cr9, rfl, HR_9, HC_9, HA, HJ36, BK165, BK166, HB⟩ := hcut
            cases kq with
            | zero => exact absurd HA.out (by simp [place_Check.j3])
            | succ kj36 =>
             have H := HA.out; clear HA; simp only [place_Check.j3] at H; have H' := xm H; clear H
             go_wp2
             go_loopg [71] kj36 (fun kq vs71 w' => ∃ (x71_5 : Int), vs71 = .int .i64 x71_5 ∧ Aside0 (place_Check.l2 kq x66_3 x9_36 (x9_36.length : Int) x71_5 l1_1 l1_2 l1_0 l1_1 l1_2 a1_3 a1_4 = some r) ∧ Aside0 (kq ≤ kj36) ∧ Aside0 (w'.heap[gb165]? = some (.cells #[.string a0_0, .int .i64 a0_1, .int .i64 a0_2, (.slice A0_3 l0_3.length c0_3), (.slice A0_4 l0_4.length c0_4), .bool a0_5, .bool a0_6, (.slice A0_7 l0_7.length c0_7), .int .i64 a0_8, .int .i64 a0_9, .int .i64 a0_10] 26 (0, 0))) ∧ Aside0 (w'.heap[gb166]? = some (.cells #[(.slice A1_0 l1_0.length c1_0), (.slice A1_1 l1_1.length c1_1), (.slice A1_2 l1_2.length c1_2), .int .i64 a1_3, .int .i64 a1_4] 29 (0, 0))) ∧ Aside0 (Below w.heap.size w w'))
             case atStart => exact ⟨(0), (xrf), H', ⟨Nat.le_refl _⟩, ⟨xK BK165⟩, ⟨xK BK166⟩, ⟨xW HB⟩⟩
             case round =>
              clear H'; (try clear p1); (try clear q1); (try clear hx1); (try clear p2); (try clear p6); (try clear p16); (try clear q16); (try clear hx16); (try clear hx168_0); (try clear p168); (try clear q168); obtain ⟨x71_5, rfl, HA, HK5, BK165, BK166, HB⟩ := hrel
              cases gk with
              | zero => exact absurd HA.out (by simp [place_Check.l2])
              | succ k5 =>
               have H := HA.out; clear HA; simp only [place_Check.l2] at H
               by_cases c42 : x71_5 < (x9_36.length : Int)
               ·rw [if_pos c42] at H; have c42b0 := decide_eq_true c42; clear c42; obtain ⟨c43b0, H⟩ := xJ H; obtain ⟨c44b0, H⟩ := xJ H
                by_cases c45 : (rd x9_36 x71_5) < 0
                ·rw [if_pos c45] at H; have c45b0 := decide_eq_true c45; clear c45; obtain rfl := Option.some.inj H; have p169 : 0 ≤ (x71_5 : Int) := xO; have q169 : x71_5 < (x9_36.length : Int) := xO; obtain ⟨ad169, e169, hx169_0⟩ := Kd.at_int HR_9.out x71_5 p169 q169
                 cases e169
                 (first | replace hx169_0 := xR HB hx169_0 | skip); replace p169 := eq_true p169; replace q169 := eq_true q169
                 go_wp2
                 go_ret; exact ⟨xer, xW HB⟩
                ·rw [if_neg c45] at H; have c45b0 := decide_eq_false c45; clear c45
                 by_cases c46 : (rd x9_36 x71_5) > 1000
                 ·rw [if_pos c46] at H; have c46b0 := decide_eq_true c46; clear c46; obtain rfl := Option.some.inj H; have p169 : 0 ≤ (x71_5 : Int) := xO; have q169 : x71_5 < (x9_36.length : Int) := xO; obtain ⟨ad169, e169, hx169_0⟩ := Kd.at_int HR_9.out x71_5 p169 q169
                  cases e169
                  (first | replace hx169_0 := xR HB hx169_0 | skip); replace p169 := eq_true p169; replace q169 := eq_true q169
                  go_wp2
                  go_ret; exact ⟨xer, xW HB⟩
                 ·rw [if_neg c46] at H; have c46b0 := decide_eq_false c46; clear c46; have H' := xm H; clear H; have p169 : 0 ≤ (x71_5 : Int) := xO; have q169 : x71_5 < (x9_36.length : Int) := xO; obtain ⟨ad169, e169, hx169_0⟩ := Kd.at_int HR_9.out x71_5 p169 q169
                  cases e169
                  (first | replace hx169_0 := xR HB hx169_0 | skip); replace p169 := eq_true p169; replace q169 := eq_true q169
                  go_wp2
                  go_roundg k5
                  case measure => have := HJ4.out; have := HK2.out; have := HK3.out; have := HJ36.out; have := HK5.out; omega
                  case rel => exact ⟨(wrap64 (x71_5 + 1)), (xrf), H', ⟨by have := HJ4.out; have := HK2.out; have := HK3.out; have := HJ36.out; have := HK5.out; omega⟩, ⟨xK BK165⟩, ⟨xK BK166⟩, ⟨xW HB⟩⟩
               ·rw [if_neg c42] at H; have c42b0 := decide_eq_false c42; clear c42; have H' := xm H; clear H
                go_wp2
                go_roundg k5
                case measure => have := HJ4.out; have := HK2.out; have := HK3.out; have := HJ36.out; have := HK5.out; omega
                case rel => exact ⟨(wrap64 (x66_3 + 1)), (xrf), H', ⟨by have := HJ4.out; have := HK2.out; have := HK3.out; have := HJ36.out; have := HK5.out; omega⟩, ⟨xK BK165⟩, ⟨xK BK166⟩, ⟨xW HB⟩⟩
          ·rw [if_neg c36] at H; have c36b0 := decide_eq_false c36; clear c36
           by_cases c47 : a1_3 = 0
           ·rw [if_pos c47] at H; have c47b0 := beq_iff_eq.mpr c47; have c47b1 := bne_eq_false_iff_eq.mpr c47; clear c47
            by_cases c48 : a1_4 < 0
            ·rw [if_pos c48] at H; have c48b0 := decide_eq_true c48; clear c48; obtain rfl := Option.some.inj H; have hcz50_0 := blkc5 BK166.out
             go_wp2
             go_ret; exact ⟨xer, xW HB⟩
            ·rw [if_neg c48] at H; have c48b0 := decide_eq_false c48; clear c48
             by_cases c51 : a1_4 > 200
             ·rw [if_pos c51] at H; have c51b0 := decide_eq_true c51; clear c51; obtain rfl := Option.some.inj H; have hcz53_0 := blkc5 BK166.out
              go_wp2
              go_ret; exact ⟨xer, xW HB⟩
             ·rw [if_neg c51] at H; have c51b0 := decide_eq_false c51; clear c51; obtain rfl := Option.some.inj H; have hcz55_0 := blkc5 BK166.out
              go_wp2
              go_ret; exact ⟨xer, xW HB⟩
           ·rw [if_neg c47] at H; have c47b0 := beq_eq_false_iff_ne.mpr c47; have c47b1 := bne_iff_ne.mpr c47
            by_cases c56 : a1_3 = 1
            ·rw [if_pos c56] at H; have c56b0 := beq_iff_eq.mpr c56; have c56b1 := bne_eq_false_iff_eq.mpr c56; clear c56
             by_cases c57 : a1_4 < 0
             ·rw [if_pos c57] at H; have c57b0 := decide_eq_true c57; clear c57; obtain rfl := Option.some.inj H; have hcz59_0 := blkc5 BK166.out
              go_wp2
              go_ret; exact ⟨xer, xW HB⟩
             ·rw [if_neg c57] at H; have c57b0 := decide_eq_false c57; clear c57
              by_cases c60 : a1_4 > 200
              ·rw [if_pos c60] at H; have c60b0 := decide_eq_true c60; clear c60; obtain rfl := Option.some.inj H; have hcz62_0 := blkc5 BK166.out
               go_wp2
               go_ret; exact ⟨xer, xW HB⟩
              ·rw [if_neg c60] at H; have c60b0 := decide_eq_false c60; clear c60; obtain rfl := Option.some.inj H; have hcz64_0 := blkc5 BK166.out
               go_wp2
               go_ret; exact ⟨xer, xW HB⟩
            ·rw [if_neg c56] at H; have c56b0 := beq_eq_false_iff_ne.mpr c56; have c56b1 := bne_iff_ne.mpr c56; obtain rfl := Option.some.inj H; have hcz66_0 := blkc5 BK166.out
             go_wp2
             go_ret; exact ⟨xer, xW HB⟩
 ·rw [if_neg c4] at H; have c4b0 := beq_eq_false_iff_ne.mpr c4; have c4b1 := bne_iff_ne.mpr c4; obtain rfl := Option.some.inj H; go_enter Tryd.func7, Tryd.ntmps7; go_wp2_with (first | ((with_reducible refine gate_dst (N := 2) rfl ?_); (try (refine gate_guard (by rfl) ?_; dsimp only)); refine xG (cs := #[.string a0_0, .int .i64 a0_1, .int .i64 a0_2, .slice A0_3 l0_3.length c0_3, .slice A0_4 l0_4.length c0_4, .bool a0_5, .bool a0_6, .slice A0_7 l0_7.length c0_7, .int .i64 a0_8, .int .i64 a0_9, .int .i64 a0_10]) (t := 26) ?_; intro gb165 hg w67 hbox hb; have BK165 := xm (hbox); have GW165 := xZ HB hg; have GE165 := xZ HB hg; replace HB := xS HB hb; clear hb hbox hg) | ((with_reducible refine gate_dst (N := 3) rfl ?_); (try (refine gate_guard (by rfl) ?_; dsimp only)); refine xG (cs := #[.slice A1_0 l1_0.length c1_0, .slice A1_1 l1_1.length c1_1, .slice A1_2 l1_2.length c1_2, .int .i64 a1_3, .int .i64 a1_4]) (t := 29) ?_; intro gb166 hg w68 hbox hb; have BK166 := xm (hbox); have GW166 := xZ HB hg; have GE166 := xZ HB hg; have NB165_166 := xN BK165 hg; have NB166_165 := xM BK165 hg; replace BK165 := xB BK165 hb; replace HB := xS HB hb; clear hb hbox hg; have hnb69 := NB165_166.out; have hnc69 := NB166_165.out; have hcz70_0 := blkc11 BK165.out) | ((with_reducible refine gate_callee (f := 13) rfl ?_); refine xL (some 13) Tryd.func13 #[.agg #[.string a0_0, .int .i64 a0_1, .int .i64 a0_2, .slice A0_3 l0_3.length c0_3, .slice A0_4 l0_4.length c0_4, .bool a0_5, .bool a0_6, .slice A0_7 l0_7.length c0_7, .int .i64 a0_8, .int .i64 a0_9, .int .i64 a0_10]] rfl ?_; (with_reducible refine (DA3.out _ ?sB).mono ?_); (case sB => exact xW HB); rintro e w71 ⟨rfl, hb⟩; refine ⟨_, rfl, ?_⟩; replace BK165 := xB BK165 hb; replace BK166 := xB BK166 hb; replace HB := xS HB hb; (try clear hb); (try clear hb2); (try clear hk); (try clear hi))); go_ret; exact ⟨xer, xW HB⟩

/-! ### place_letter: function 33 -/
def place_letter.f (a0_0 : ByteArray) (a0_1 : Int) (a0_2 : Int) (l0_3 : List (S44)) (l0_4 : List Int) (a0_5 : Bool) (a0_6 : Bool) (l0_7 : List (S46)) (a0_8 : Int) (a0_9 : Int) (a0_10 : Int) (a1 : Int) : Option (Int) := if 0 ≤ (wrap64 (Int.tdiv (wrap64 (a1 - 1)) 2)) then (if (wrap64 (Int.tdiv (wrap64 (a1 - 1)) 2)) < (l0_3.length : Int) then (if (Int.tmod a1 2) = 0 then (some ((((rd_T44 l0_3 (wrap64 (Int.tdiv (wrap64 (a1 - 1)) 2))).f0) + 32) % 256)) else (some ((rd_T44 l0_3 (wrap64 (Int.tdiv (wrap64 (a1 - 1)) 2))).f0))) else (none)) else (none)
theorem place_letter.calls (a0_0 : ByteArray) (a0_1 : Int) (a0_2 : Int) (A0_3 : Option Addr) (c0_3 : Nat) (l0_3 : List (S44)) (A0_4 : Option Addr) (c0_4 : Nat) (l0_4 : List Int) (a0_5 : Bool) (a0_6 : Bool) (A0_7 : Option Addr) (c0_7 : Nat) (l0_7 : List (S46)) (a0_8 : Int) (a0_9 : Int) (a0_10 : Int) (a1 : Int) (r : Int) (w : World) (hr0_3 : Kd.C k44 w A0_3 l0_3.length l0_3) (hc0_3 : l0_3.length ≤ c0_3) (hr0_4 : Kd.C (Kd.int .i64) w A0_4 l0_4.length l0_4) (hc0_4 : l0_4.length ≤ c0_4) (hr0_7 : Kd.C k46 w A0_7 l0_7.length l0_7) (hc0_7 : l0_7.length ≤ c0_7) (h : place_letter.f a0_0 a0_1 a0_2 l0_3 l0_4 a0_5 a0_6 l0_7 a0_8 a0_9 a0_10 a1 = some r) :
    Calls Tryd.prog 33 #[.agg #[.string a0_0, .int .i64 a0_1, .int .i64 a0_2, .slice A0_3 l0_3.length c0_3, .slice A0_4 l0_4.length c0_4, .bool a0_5, .bool a0_6, .slice A0_7 l0_7.length c0_7, .int .i64 a0_8, .int .i64 a0_9, .int .i64 a0_10], .int .i64 a1] w fun e w' => e = .returned (.int .u8 r) ∧ Below w.heap.size w w' := by
 have hu26 := Tryd.underlying26; have HR0_3 := xm hr0_3; have HC0_3 := xm hc0_3; clear hr0_3 hc0_3; have HR0_4 := xm hr0_4; have HC0_4 := xm hc0_4; clear hr0_4 hc0_4; have HR0_7 := xm hr0_7; have HC0_7 := xm hc0_7; clear hr0_7 hc0_7; have HB := xm (Below.refl w.heap.size w); have hss_ := @isSome_setCell; have H : (if 0 ≤ (wrap64 (Int.tdiv (wrap64 (a1 - 1)) 2)) then (if (wrap64 (Int.tdiv (wrap64 (a1 - 1)) 2)) < (l0_3.length : Int) then (if (Int.tmod a1 2) = 0 then (some ((((rd_T44 l0_3 (wrap64 (Int.tdiv (wrap64 (a1 - 1)) 2))).f0) + 32) % 256)) else (some ((rd_T44 l0_3 (wrap64 (Int.tdiv (wrap64 (a1 - 1)) 2))).f0))) else (none)) else (none)) = some r := h; clear h; obtain ⟨ji3, hji3⟩ : ∃ j_ : Int, (wrap64 (Int.tdiv (wrap64 (a1 - 1)) 2)) = j_ := ⟨_, rfl⟩
 (first | rw [hji3] at H | simp only [hji3] at H)
 have hji3w : (IntKind.i64.wrap (Int.tdiv (wrap64 (a1 - 1)) 2)) = ji3 := (i64_w _).trans hji3; obtain ⟨c4b0, H⟩ := xJ H; obtain ⟨c5b0, H⟩ := xJ H
 by_cases c6 : (Int.tmod a1 2) = 0
 ·rw [if_pos c6] at H; have c6b0 := beq_iff_eq.mpr c6; have c6b1 := bne_eq_false_iff_eq.mpr c6; clear c6; obtain rfl := Option.some.inj H; go_enter Tryd.func33, Tryd.ntmps33; go_wp2_with (first | ((with_reducible refine gate_dst (N := 2) rfl ?_); refine xG (cs := #[.string a0_0, .int .i64 a0_1, .int .i64 a0_2, .slice A0_3 l0_3.length c0_3, .slice A0_4 l0_4.length c0_4, .bool a0_5, .bool a0_6, .slice A0_7 l0_7.length c0_7, .int .i64 a0_8, .int .i64 a0_9, .int .i64 a0_10]) (t := 26) ?_; intro gb170 hg w7 hbox hb; have BK170 := xm (hbox); have GW170 := xZ HB hg; have GE170 := xZ HB hg; replace HB := xS HB hb; clear hb hbox hg; have hcz8_0 := blkc11 BK170.out; have p171 : 0 ≤ ((ji3) : Int) := xO; have q171 : (ji3) < (l0_3.length : Int) := xO; obtain ⟨ad171, A171_3, c171_3, e171, hx171_0, hx171_1, hx171_2, hx171_3, hl171_3, hi171_3⟩ := at_T44 HR0_3.out (ji3) p171 q171; cases e171; (first | replace hx171_0 := xR HB hx171_0 | skip); (first | replace hx171_1 := xR HB hx171_1 | skip); (first | replace hx171_2 := xR HB hx171_2 | skip); (first | replace hx171_3 := xR HB hx171_3 | skip); have HR171_3 := xm hi171_3; have HC171_3 := xm hl171_3; clear hi171_3 hl171_3; replace p171 := eq_true p171; replace q171 := eq_true q171)); go_ret; exact ⟨by first | rfl | (simp [errW_none, errW_some] <;> rfl) | (simp only [← hji3]; first | rfl | (simp [errW_none, errW_some] <;> rfl)) | (simp [*, errW_none, errW_some] <;> rfl), xW HB⟩
 ·rw [if_neg c6] at H; have c6b0 := beq_eq_false_iff_ne.mpr c6; have c6b1 := bne_iff_ne.mpr c6; obtain rfl := Option.some.inj H; go_enter Tryd.func33, Tryd.ntmps33; go_wp2_with (first | ((with_reducible refine gate_dst (N := 2) rfl ?_); refine xG (cs := #[.string a0_0, .int .i64 a0_1, .int .i64 a0_2, .slice A0_3 l0_3.length c0_3, .slice A0_4 l0_4.length c0_4, .bool a0_5, .bool a0_6, .slice A0_7 l0_7.length c0_7, .int .i64 a0_8, .int .i64 a0_9, .int .i64 a0_10]) (t := 26) ?_; intro gb170 hg w9 hbox hb; have BK170 := xm (hbox); have GW170 := xZ HB hg; have GE170 := xZ HB hg; replace HB := xS HB hb; clear hb hbox hg; have hcz10_0 := blkc11 BK170.out; have p171 : 0 ≤ ((ji3) : Int) := xO; have q171 : (ji3) < (l0_3.length : Int) := xO; obtain ⟨ad171, A171_3, c171_3, e171, hx171_0, hx171_1, hx171_2, hx171_3, hl171_3, hi171_3⟩ := at_T44 HR0_3.out (ji3) p171 q171; cases e171; (first | replace hx171_0 := xR HB hx171_0 | skip); (first | replace hx171_1 := xR HB hx171_1 | skip); (first | replace hx171_2 := xR HB hx171_2 | skip); (first | replace hx171_3 := xR HB hx171_3 | skip); have HR171_3 := xm hi171_3; have HC171_3 := xm hl171_3; clear hi171_3 hl171_3; replace p171 := eq_true p171; replace q171 := eq_true q171)); go_ret; exact ⟨by first | rfl | (simp [errW_none, errW_some] <;> rfl) | (simp only [← hji3]; first | rfl | (simp [errW_none, errW_some] <;> rfl)) | (simp [*, errW_none, errW_some] <;> rfl), xW HB⟩

/-! ### place_rows: function 16 -/
mutual
def place_rows.l0 : Nat → ByteArray → Int → ByteArray → Int → Int → List (S44) → List Int → Bool → Bool → List (S46) → Int → Int → Int → List Int → List Int → List Int → Int → Int → Option (ByteArray)
  | 0, _, _, _, _, _, _, _, _, _, _, _, _, _, _, _, _, _, _ => none
  | k + 1, x5, x6, z173a, z173b, z173c, z173d, z173e, z173f, z173g, z173h, z173i, z173j, z173k, z174a, z174b, z174c, z174d, z174e => if x6 ≥ 0 then (place_rows.l1 k x5 x6 0 z173b 0 z173a z173b z173c z173d z173e z173f z173g z173h z173i z173j z173k z174a z174b z174c z174d z174e) else (some x5)
def place_rows.l1 : Nat → ByteArray → Int → Int → Int → Int → ByteArray → Int → Int → List (S44) → List Int → Bool → Bool → List (S46) → Int → Int → Int → List Int → List Int → List Int → Int → Int → Option (ByteArray)
  | 0, _, _, _, _, _, _, _, _, _, _, _, _, _, _, _, _, _, _, _, _, _ => none
  | k + 1, x5, x6, x7, x18, x19, z173a, z173b, z173c, z173d, z173e, z173f, z173g, z173h, z173i, z173j, z173k, z174a, z174b, z174c, z174d, z174e => if x19 < x18 then (if 0 ≤ (wrap64 ((wrap64 (x6 * z173b)) + x19)) then (if (wrap64 ((wrap64 (x6 * z173b)) + x19)) < (z174a.length : Int) then (if (rd z174a (wrap64 ((wrap64 (x6 * z173b)) + x19))) = 0 then (place_rows.l1 k x5 x6 (wrap64 (x7 + 1)) x18 (wrap64 (x19 + 1)) z173a z173b z173c z173d z173e z173f z173g z173h z173i z173j z173k z174a z174b z174c z174d z174e) else (if x7 > 0 then ((strconv_Itoa.f x7).bind fun t175 => (if x5.size + t175.size ≤ 140737488355328 then ((place_letter.f z173a z173b z173c z173d z173e z173f z173g z173h z173i z173j z173k (rd z174a (wrap64 ((wrap64 (x6 * z173b)) + x19)))).bind fun t176 => (if (x5 ++ t175).size + 1 ≤ 140737488355328 ∧ 0 ≤ t176 ∧ t176 ≤ 255 then (place_rows.l1 k ((x5 ++ t175) ++ (⟨#[t176.toNat.toUInt8]⟩ : ByteArray)) x6 0 x18 (wrap64 (x19 + 1)) z173a z173b z173c z173d z173e z173f z173g z173h z173i z173j z173k z174a z174b z174c z174d z174e) else (none))) else (none))) else ((place_letter.f z173a z173b z173c z173d z173e z173f z173g z173h z173i z173j z173k (rd z174a (wrap64 ((wrap64 (x6 * z173b)) + x19)))).bind fun t177 => (if x5.size + 1 ≤ 140737488355328 ∧ 0 ≤ t177 ∧ t177 ≤ 255 then (place_rows.l1 k (x5 ++ (⟨#[t177.toNat.toUInt8]⟩ : ByteArray)) x6 0 x18 (wrap64 (x19 + 1)) z173a z173b z173c z173d z173e z173f z173g z173h z173i z173j z173k z174a z174b z174c z174d z174e) else (none))))) else (none)) else (none)) else (if x7 > 0 then ((strconv_Itoa.f x7).bind fun t178 => (if x5.size + t178.size ≤ 140737488355328 then (if x6 > 0 then (if (x5 ++ t178).size + 1 ≤ 140737488355328 then (place_rows.l0 k ((x5 ++ t178) ++ (⟨#[47]⟩ : ByteArray)) (wrap64 (x6 - 1)) z173a z173b z173c z173d z173e z173f z173g z173h z173i z173j z173k z174a z174b z174c z174d z174e) else (none)) else (place_rows.l0 k (x5 ++ t178) (wrap64 (x6 - 1)) z173a z173b z173c z173d z173e z173f z173g z173h z173i z173j z173k z174a z174b z174c z174d z174e)) else (none))) else (if x6 > 0 then (if x5.size + 1 ≤ 140737488355328 then (place_rows.l0 k (x5 ++ (⟨#[47]⟩ : ByteArray)) (wrap64 (x6 - 1)) z173a z173b z173c z173d z173e z173f z173g z173h z173i z173j z173k z174a z174b z174c z174d z174e) else (none)) else (place_rows.l0 k x5 (wrap64 (x6 - 1)) z173a z173b z173c z173d z173e z173f z173g z173h z173i z173j z173k z174a z174b z174c z174d z174e)))
end
def place_rows.f (k : Nat) (a0_0 : ByteArray) (a0_1 : Int) (a0_2 : Int) (l0_3 : List (S44)) (l0_4 : List Int) (a0_5 : Bool) (a0_6 : Bool) (l0_7 : List (S46)) (a0_8 : Int) (a0_9 : Int) (a0_10 : Int) (l1_0 : List Int) (l1_1 : List Int) (l1_2 : List Int) (a1_3 : Int) (a1_4 : Int) : Option (ByteArray) := place_rows.l0 k (⟨#[]⟩ : ByteArray) (wrap64 (a0_2 - 1)) a0_0 a0_1 a0_2 l0_3 l0_4 a0_5 a0_6 l0_7 a0_8 a0_9 a0_10 l1_0 l1_1 l1_2 a1_3 a1_4
theorem place_rows.mono_l : ∀ k, L10 (L5 (LM (LM (LM (LeO))))) (place_rows.l0 k) (place_rows.l0 (k + 1)) ∧ L10 (L10 (LM (LeO))) (place_rows.l1 k) (place_rows.l1 (k + 1))
  | 0 => by refine ⟨?_, ?_⟩ <;> (repeat (first | exact LeO.none _ | intro _))
  | k + 1 => by
    obtain ⟨ih0, ih1⟩ := place_rows.mono_l k; refine ⟨?_, ?_⟩ <;> ((repeat (first | (with_reducible refine LeO.st ?_) | intro _)); constructor; (first | unfold place_rows.l0 | unfold place_rows.l1); repeat' first | (with_reducible first | apply ih0 | apply ih1 | exact LeO.refl _ | exact LeO.none _ | refine LeO.ite ?_ ?_ | refine LeO.bind ?_ (fun _ => ?_)) | apply ih0 | apply ih1 | exact LeO.none _ | refine LeO.ite ?_ ?_ | refine LeO.bind ?_ (fun _ => ?_))
theorem place_rows.mono : ∀ a0 a1 a2 a3 a4 a5 a6 a7 a8 a9 a10 a11 a12 a13 a14 a15 k, LeO (place_rows.f k a0 a1 a2 a3 a4 a5 a6 a7 a8 a9 a10 a11 a12 a13 a14 a15) (place_rows.f (k + 1) a0 a1 a2 a3 a4 a5 a6 a7 a8 a9 a10 a11 a12 a13 a14 a15) := by
  intros; rename_i k; obtain ⟨ih0, ih1⟩ := place_rows.mono_l k
  unfold place_rows.f
  repeat' first | (with_reducible first | apply ih0 | apply ih1 | exact LeO.refl _ | exact LeO.none _ | refine LeO.ite ?_ ?_ | refine LeO.bind ?_ (fun _ => ?_)) | apply ih0 | apply ih1 | exact LeO.none _ | refine LeO.ite ?_ ?_ | refine LeO.bind ?_ (fun _ => ?_)
theorem place_rows.calls (k : Nat) (a0_0 : ByteArray) (a0_1 : Int) (a0_2 : Int) (A0_3 : Option Addr) (c0_3 : Nat) (l0_3 : List (S44)) (A0_4 : Option Addr) (c0_4 : Nat) (l0_4 : List Int) (a0_5 : Bool) (a0_6 : Bool) (A0_7 : Option Addr) (c0_7 : Nat) (l0_7 : List (S46)) (a0_8 : Int) (a0_9 : Int) (a0_10 : Int) (A1_0 : Option Addr) (c1_0 : Nat) (l1_0 : List Int) (A1_1 : Option Addr) (c1_1 : Nat) (l1_1 : List Int) (A1_2 : Option Addr) (c1_2 : Nat) (l1_2 : List Int) (a1_3 : Int) (a1_4 : Int) (r : ByteArray) (w : World) (hr0_3 : Kd.C k44 w A0_3 l0_3.length l0_3) (hc0_3 : l0_3.length ≤ c0_3) (hr0_4 : Kd.C (Kd.int .i64) w A0_4 l0_4.length l0_4) (hc0_4 : l0_4.length ≤ c0_4) (hr0_7 : Kd.C k46 w A0_7 l0_7.length l0_7) (hc0_7 : l0_7.length ≤ c0_7) (hr1_0 : Kd.C (Kd.int .i64) w A1_0 l1_0.length l1_0) (hc1_0 : l1_0.length ≤ c1_0) (hr1_1 : Kd.C (Kd.int .i64) w A1_1 l1_1.length l1_1) (hc1_1 : l1_1.length ≤ c1_1) (hr1_2 : Kd.C (Kd.int .i64) w A1_2 l1_2.length l1_2) (hc1_2 : l1_2.length ≤ c1_2) (h : place_rows.f k a0_0 a0_1 a0_2 l0_3 l0_4 a0_5 a0_6 l0_7 a0_8 a0_9 a0_10 l1_0 l1_1 l1_2 a1_3 a1_4 = some r) (hlaid : LaidS w) :
    Calls Tryd.prog 16 #[.agg #[.string a0_0, .int .i64 a0_1, .int .i64 a0_2, .slice A0_3 l0_3.length c0_3, .slice A0_4 l0_4.length c0_4, .bool a0_5, .bool a0_6, .slice A0_7 l0_7.length c0_7, .int .i64 a0_8, .int .i64 a0_9, .int .i64 a0_10], .agg #[.slice A1_0 l1_0.length c1_0, .slice A1_1 l1_1.length c1_1, .slice A1_2 l1_2.length c1_2, .int .i64 a1_3, .int .i64 a1_4]] w fun e w' => e = .returned (.string r) ∧ Below w.heap.size w w' := by
 have hu26 := Tryd.underlying26; have hu29 := Tryd.underlying29; have HR0_3 := xm hr0_3; have HC0_3 := xm hc0_3; clear hr0_3 hc0_3; have HR0_4 := xm hr0_4; have HC0_4 := xm hc0_4; clear hr0_4 hc0_4; have HR0_7 := xm hr0_7; have HC0_7 := xm hc0_7; clear hr0_7 hc0_7; have HR1_0 := xm hr1_0; have HC1_0 := xm hc1_0; clear hr1_0 hc1_0; have HR1_1 := xm hr1_1; have HC1_1 := xm hc1_1; clear hr1_1 hc1_1; have HR1_2 := xm hr1_2; have HC1_2 := xm hc1_2; clear hr1_2 hc1_2; have HB := xm (Below.refl w.heap.size w); have hss_ := @isSome_setCell; have H : (place_rows.l0 k (⟨#[]⟩ : ByteArray) (wrap64 (a0_2 - 1)) a0_0 a0_1 a0_2 l0_3 l0_4 a0_5 a0_6 l0_7 a0_8 a0_9 a0_10 l1_0 l1_1 l1_2 a1_3 a1_4) = some r := h; clear h; have H' := xm H; clear H; go_enter Tryd.func16, Tryd.ntmps16; go_wp2_with (first | ((with_reducible refine gate_dst (N := 2) rfl ?_); refine xG (cs := #[.string a0_0, .int .i64 a0_1, .int .i64 a0_2, .slice A0_3 l0_3.length c0_3, .slice A0_4 l0_4.length c0_4, .bool a0_5, .bool a0_6, .slice A0_7 l0_7.length c0_7, .int .i64 a0_8, .int .i64 a0_9, .int .i64 a0_10]) (t := 26) ?_; intro gb172 hg w3 hbox hb; have BK172 := xm (hbox); have GW172 := xZ HB hg; have GE172 := xZ HB hg; replace HB := xS HB hb; clear hb hbox hg) | ((with_reducible refine gate_dst (N := 3) rfl ?_); refine xG (cs := #[.slice A1_0 l1_0.length c1_0, .slice A1_1 l1_1.length c1_1, .slice A1_2 l1_2.length c1_2, .int .i64 a1_3, .int .i64 a1_4]) (t := 29) ?_; intro gb173 hg w4 hbox hb; have BK173 := xm (hbox); have GW173 := xZ HB hg; have GE173 := xZ HB hg; have NB172_173 := xN BK172 hg; have NB173_172 := xM BK172 hg; replace BK172 := xB BK172 hb; replace HB := xS HB hb; clear hb hbox hg; have hnb5 := NB172_173.out; have hnc5 := NB173_172.out; have hcz6_0 := blkc11 BK172.out) | ((with_reducible refine gate_dst (N := 5) rfl ?_); refine xG (cs := #[.pointer none, .slice none 0 0]) (t := 62) ?_; intro gbB hg wB hbox hb; have HBD := xm (Bd.new hbox); have GEB := xZ HB hg; have LT172 := xm (xLt BK172 hg); have LT173 := xm (xLt BK173 hg); replace BK172 := xB BK172 hb; replace BK173 := xB BK173 hb; replace HB := xS HB hb; clear hb hbox hg; have hczB_0 := blkc11 BK172.out)); (try have hq172_173 := NB172_173.out); (try have hq173_172 := NB173_172.out)
 go_loopg [6] k (fun kq vs6 w' => ∃ (x5_1 : ByteArray) (x6_1 : Int), vs6 = .int .i64 x6_1 ∧ Aside0 (place_rows.l0 kq x5_1 x6_1 a0_0 a0_1 a0_2 l0_3 l0_4 a0_5 a0_6 l0_7 a0_8 a0_9 a0_10 l1_0 l1_1 l1_2 a1_3 a1_4 = some r) ∧ Aside0 (kq ≤ k) ∧ Aside0 (w'.heap[gb172]? = some (.cells #[.string a0_0, .int .i64 a0_1, .int .i64 a0_2, (.slice A0_3 l0_3.length c0_3), (.slice A0_4 l0_4.length c0_4), .bool a0_5, .bool a0_6, (.slice A0_7 l0_7.length c0_7), .int .i64 a0_8, .int .i64 a0_9, .int .i64 a0_10] 26 (0, 0))) ∧ Aside0 (w'.heap[gb173]? = some (.cells #[(.slice A1_0 l1_0.length c1_0), (.slice A1_1 l1_1.length c1_1), (.slice A1_2 l1_2.length c1_2), .int .i64 a1_3, .int .i64 a1_4] 29 (0, 0))) ∧ Aside0 (Bd gbB x5_1 w') ∧ Aside0 (Below w.heap.size w w'))
 case atStart => exact ⟨((⟨#[]⟩ : ByteArray)), (wrap64 (a0_2 - 1)), (xrf), H', ⟨Nat.le_refl _⟩, ⟨xK BK172⟩, ⟨xK BK173⟩, ⟨xBd HBD⟩, ⟨xW HB⟩⟩
 case round =>
  clear H'; (try clear p2); (try clear p6); obtain ⟨x5_1, x6_1, rfl, HA, HK1, BK172, BK173, HBD, HB⟩ := hrel
  cases gk with
  | zero => exact absurd HA.out (by simp [place_rows.l0])
  | succ k1 =>
   have H := HA.out; clear HA; simp only [place_rows.l0] at H
   by_cases c7 : x6_1 ≥ 0
   ·rw [if_pos c7] at H; have c7b0 := decide_eq_true c7; clear c7; have H' := xm H; clear H; have hcz9_0 := blkc11 BK172.out
    go_wp2
    go_loopg [7, 19] k1 (fun kq vs7 vs19 w' => ∃ (x5_2 : ByteArray) (x7_2 : Int) (x19_2 : Int), vs7 = .int .i64 x7_2 ∧ vs19 = .int .i64 x19_2 ∧ Aside0 (place_rows.l1 kq x5_2 x6_1 x7_2 a0_1 x19_2 a0_0 a0_1 a0_2 l0_3 l0_4 a0_5 a0_6 l0_7 a0_8 a0_9 a0_10 l1_0 l1_1 l1_2 a1_3 a1_4 = some r) ∧ Aside0 (kq ≤ k1) ∧ Aside0 (w'.heap[gb172]? = some (.cells #[.string a0_0, .int .i64 a0_1, .int .i64 a0_2, (.slice A0_3 l0_3.length c0_3), (.slice A0_4 l0_4.length c0_4), .bool a0_5, .bool a0_6, (.slice A0_7 l0_7.length c0_7), .int .i64 a0_8, .int .i64 a0_9, .int .i64 a0_10] 26 (0, 0))) ∧ Aside0 (w'.heap[gb173]? = some (.cells #[(.slice A1_0 l1_0.length c1_0), (.slice A1_1 l1_1.length c1_1), (.slice A1_2 l1_2.length c1_2), .int .i64 a1_3, .int .i64 a1_4] 29 (0, 0))) ∧ Aside0 (Bd gbB x5_2 w') ∧ Aside0 (Below w.heap.size w w'))
    case atStart => exact ⟨(x5_1), (0), (0), (xrf), (xrf), H', ⟨Nat.le_refl _⟩, ⟨xK BK172⟩, ⟨xK BK173⟩, ⟨xBd HBD⟩, ⟨xW HB⟩⟩
    case round =>
     clear H'; (try clear p2); (try clear p6); obtain ⟨x5_2, x7_2, x19_2, rfl, rfl, HA, HK2, BK172, BK173, HBD, HB⟩ := hrel
     cases gk with
     | zero => exact absurd HA.out (by simp [place_rows.l1])
     | succ k2 =>
      have H := HA.out; clear HA; simp only [place_rows.l1] at H
      by_cases c10 : x19_2 < a0_1
      ·rw [if_pos c10] at H; have c10b0 := decide_eq_true c10; clear c10; obtain ⟨ji11, hji11⟩ : ∃ j_ : Int, (wrap64 ((wrap64 (x6_1 * a0_1)) + x19_2)) = j_ := ⟨_, rfl⟩
       (first | rw [hji11] at H | simp only [hji11] at H)
       have hji11w : (IntKind.i64.wrap ((wrap64 (x6_1 * a0_1)) + x19_2)) = ji11 := (i64_w _).trans hji11; obtain ⟨c12b0, H⟩ := xJ H; obtain ⟨c13b0, H⟩ := xJ H
       by_cases c14 : (rd l1_0 (ji11)) = 0
       ·rw [if_pos c14] at H; have c14b0 := beq_iff_eq.mpr c14; have c14b1 := bne_eq_false_iff_eq.mpr c14; clear c14; have H' := xm H; clear H; have hcz16_0 := blkc5 BK173.out; have hcz17_0 := blkc11 BK172.out; have p174 : 0 ≤ ((ji11) : Int) := xO; have q174 : (ji11) < (l1_0.length : Int) := xO; obtain ⟨ad174, e174, hx174_0⟩ := Kd.at_int HR1_0.out (ji11) p174 q174
        cases e174
        (first | replace hx174_0 := xR HB hx174_0 | skip); replace p174 := eq_true p174; replace q174 := eq_true q174
        go_wp2
        (first | go_roundg k2 | (simp only [← hji11]; go_roundg k2))
        case measure => have := HK1.out; have := HK2.out; omega
        case rel => exact ⟨(x5_2), (wrap64 (x7_2 + 1)), (wrap64 (x19_2 + 1)), (xrf), (xrf), H', ⟨by have := HK1.out; have := HK2.out; omega⟩, ⟨xK BK172⟩, ⟨xK BK173⟩, ⟨xBd HBD⟩, ⟨xW HB⟩⟩
       ·rw [if_neg c14] at H; have c14b0 := beq_eq_false_iff_ne.mpr c14; have c14b1 := bne_iff_ne.mpr c14
        by_cases c18 : x7_2 > 0
        ·rw [if_pos c18] at H; have c18b0 := decide_eq_true c18; clear c18; obtain ⟨t175, A19, H⟩ := xH H; (try dsimp only at H); obtain ⟨c20, H⟩ := xI H; have c20b0 := eq_true c20; have c20b1 := decide_eq_true c20; try have c20b2 : (140737488355328 < x5_2.size + t175.size) = False := eq_false (Nat.not_lt.2 c20)
         obtain ⟨t176, A21, H⟩ := xH H; (try dsimp only at H); obtain ⟨c22, H⟩ := xI H; have c22b0 := eq_true c22; have c22b1 := decide_eq_true c22; try have c22b2 : (140737488355328 < (x5_2 ++ t175).size + (⟨#[t176.toNat.toUInt8]⟩ : ByteArray).size) = False := eq_false (Nat.not_lt.2 c22)
         have H' := xm H; clear H; have hcz24_0 := blkc5 BK173.out; have hcz25_0 := blkc11 BK172.out; have p174 : 0 ≤ ((ji11) : Int) := xO; have q174 : (ji11) < (l1_0.length : Int) := xO; obtain ⟨ad174, e174, hx174_0⟩ := Kd.at_int HR1_0.out (ji11) p174 q174
         cases e174
         (first | replace hx174_0 := xR HB hx174_0 | skip); replace p174 := eq_true p174; replace q174 := eq_true q174
         go_wp2_with (first | ((with_reducible refine gate_callee (f := 18) rfl ?_); refine xL (some 39) Tryd.func18 #[.int .i64 x7_2] rfl ?_; (with_reducible refine (strconv_Itoa.calls x7_2 t175 _ A19.out ?sideL).mono ?_); (case sideL => exact xLs hlaid); rintro e w26 ⟨rfl, hb⟩; refine ⟨_, rfl, ?_⟩; replace BK172 := xB BK172 hb; replace BK173 := xB BK173 hb; replace HBD := xm (xBb HBD hb); replace HB := xS HB hb; (try clear hb); (try clear hb2); (try clear hk); (try clear hi); have hcz27_0 := blkc11 BK172.out) | ((with_reducible refine gate_callee (f := 33) rfl ?_); refine goesL_ (some 43) rfl rfl Tryd.func33 (by kernel_rfl) rfl #[.agg #[.string a0_0, .int .i64 a0_1, .int .i64 a0_2, .slice A0_3 l0_3.length c0_3, .slice A0_4 l0_4.length c0_4, .bool a0_5, .bool a0_6, .slice A0_7 l0_7.length c0_7, .int .i64 a0_8, .int .i64 a0_9, .int .i64 a0_10], .int .i64 (rd l1_0 (ji11))] rfl (by (try simp only [List.map_toArray, List.map_cons, List.map_nil]); first | done | (simp only [hji11]; rfl) | rfl | (simp only [List.length_drop, List.length_take]; rfl)) ?_; (with_reducible refine (place_letter.calls a0_0 a0_1 a0_2 _ _ l0_3 _ _ l0_4 a0_5 a0_6 _ _ l0_7 a0_8 a0_9 a0_10 (rd l1_0 (ji11)) t176 _ ?side1 ?side2 ?side3 ?side4 ?side5 ?side6 A21.out).mono ?_); (case side1 => exact xC (Kd.C_below HR0_3.out HB.out)); (case side2 => exact HC0_3.out); (case side3 => exact xC (Kd.C_below HR0_4.out HB.out)); (case side4 => exact HC0_4.out); (case side5 => exact xC (Kd.C_below HR0_7.out HB.out)); (case side6 => exact HC0_7.out); rintro e w28 ⟨rfl, hb⟩; refine ⟨_, rfl, ?_⟩; replace BK172 := xB BK172 hb; replace BK173 := xB BK173 hb; replace HBD := xm (xBb HBD hb); replace HB := xS HB hb; (try clear hb); (try clear hb2); (try clear hk); (try clear hi)) | ((with_reducible refine gate_callee (f := 30) rfl ?_); refine goesL_ (some 40) rfl rfl Tryd.func30 (by kernel_rfl) rfl #[.pointer (some ⟨gbB, 0, none⟩), .string t175] rfl (by (try simp only [List.map_toArray, List.map_cons, List.map_nil]); first | done | rfl) ?_; (refine (Bd.write (g := gbB) (x := x5_2) (s := t175) (xBd HBD) c20).mono ?_); rintro e wB ⟨rfl, hbd, hb⟩; refine ⟨_, rfl, ?_⟩; replace BK172 := xm (xLow BK172 LT172 hb); replace BK173 := xm (xLow BK173 LT173 hb); replace HB := xm (xHlow HB GEB hb); replace HBD := xm hbd; clear hb hbd; have hczB_0 := blkc11 BK172.out) | ((with_reducible refine gate_callee (f := 32) rfl ?_); refine goesL_ (some 44) rfl rfl Tryd.func32 (by kernel_rfl) rfl #[.pointer (some ⟨gbB, 0, none⟩), .int .u8 t176] rfl (by (try simp only [List.map_toArray, List.map_cons, List.map_nil]); first | done | rfl) ?_; (refine (Bd.writeByte (g := gbB) (x := (x5_2 ++ t175)) (c := t176) (xBd HBD) c22).mono ?_); rintro e wB ⟨rfl, hbd, hb⟩; refine ⟨_, rfl, ?_⟩; replace BK172 := xm (xLow BK172 LT172 hb); replace BK173 := xm (xLow BK173 LT173 hb); replace HB := xm (xHlow HB GEB hb); replace HBD := xm hbd; clear hb hbd; have hczB_0 := blkc11 BK172.out))
         (first | go_roundg k2 | (simp only [← hji11]; go_roundg k2))
         case measure => have := HK1.out; have := HK2.out; omega
         case rel => exact ⟨((x5_2 ++ t175) ++ (⟨#[t176.toNat.toUInt8]⟩ : ByteArray)), (0), (wrap64 (x19_2 + 1)), (xrf), (xrf), H', ⟨by have := HK1.out; have := HK2.out; omega⟩, ⟨xK BK172⟩, ⟨xK BK173⟩, ⟨xBd HBD⟩, ⟨xW HB⟩⟩
        ·rw [if_neg c18] at H; have c18b0 := decide_eq_false c18; clear c18; obtain ⟨t177, A29, H⟩ := xH H; (try dsimp only at H); obtain ⟨c30, H⟩ := xI H; have c30b0 := eq_true c30; have c30b1 := decide_eq_true c30; try have c30b2 : (140737488355328 < x5_2.size + (⟨#[t177.toNat.toUInt8]⟩ : ByteArray).size) = False := eq_false (Nat.not_lt.2 c30)
         have H' := xm H; clear H; have hcz32_0 := blkc5 BK173.out; have hcz33_0 := blkc11 BK172.out; have p174 : 0 ≤ ((ji11) : Int) := xO; have q174 : (ji11) < (l1_0.length : Int) := xO; obtain ⟨ad174, e174, hx174_0⟩ := Kd.at_int HR1_0.out (ji11) p174 q174
         cases e174
         (first | replace hx174_0 := xR HB hx174_0 | skip); replace p174 := eq_true p174; replace q174 := eq_true q174
         go_wp2_with (first | ((with_reducible refine gate_callee (f := 33) rfl ?_); refine goesL_ (some 43) rfl rfl Tryd.func33 (by kernel_rfl) rfl #[.agg #[.string a0_0, .int .i64 a0_1, .int .i64 a0_2, .slice A0_3 l0_3.length c0_3, .slice A0_4 l0_4.length c0_4, .bool a0_5, .bool a0_6, .slice A0_7 l0_7.length c0_7, .int .i64 a0_8, .int .i64 a0_9, .int .i64 a0_10], .int .i64 (rd l1_0 (ji11))] rfl (by (try simp only [List.map_toArray, List.map_cons, List.map_nil]); first | done | (simp only [hji11]; rfl) | rfl | (simp only [List.length_drop, List.length_take]; rfl)) ?_; (with_reducible refine (place_letter.calls a0_0 a0_1 a0_2 _ _ l0_3 _ _ l0_4 a0_5 a0_6 _ _ l0_7 a0_8 a0_9 a0_10 (rd l1_0 (ji11)) t177 _ ?side1 ?side2 ?side3 ?side4 ?side5 ?side6 A29.out).mono ?_); (case side1 => exact xC (Kd.C_below HR0_3.out HB.out)); (case side2 => exact HC0_3.out); (case side3 => exact xC (Kd.C_below HR0_4.out HB.out)); (case side4 => exact HC0_4.out); (case side5 => exact xC (Kd.C_below HR0_7.out HB.out)); (case side6 => exact HC0_7.out); rintro e w34 ⟨rfl, hb⟩; refine ⟨_, rfl, ?_⟩; replace BK172 := xB BK172 hb; replace BK173 := xB BK173 hb; replace HBD := xm (xBb HBD hb); replace HB := xS HB hb; (try clear hb); (try clear hb2); (try clear hk); (try clear hi)) | ((with_reducible refine gate_callee (f := 32) rfl ?_); refine goesL_ (some 44) rfl rfl Tryd.func32 (by kernel_rfl) rfl #[.pointer (some ⟨gbB, 0, none⟩), .int .u8 t177] rfl (by (try simp only [List.map_toArray, List.map_cons, List.map_nil]); first | done | rfl) ?_; (refine (Bd.writeByte (g := gbB) (x := x5_2) (c := t177) (xBd HBD) c30).mono ?_); rintro e wB ⟨rfl, hbd, hb⟩; refine ⟨_, rfl, ?_⟩; replace BK172 := xm (xLow BK172 LT172 hb); replace BK173 := xm (xLow BK173 LT173 hb); replace HB := xm (xHlow HB GEB hb); replace HBD := xm hbd; clear hb hbd; have hczB_0 := blkc11 BK172.out))
         (first | go_roundg k2 | (simp only [← hji11]; go_roundg k2))
         case measure => have := HK1.out; have := HK2.out; omega
         case rel => exact ⟨(x5_2 ++ (⟨#[t177.toNat.toUInt8]⟩ : ByteArray)), (0), (wrap64 (x19_2 + 1)), (xrf), (xrf), H', ⟨by have := HK1.out; have := HK2.out; omega⟩, ⟨xK BK172⟩, ⟨xK BK173⟩, ⟨xBd HBD⟩, ⟨xW HB⟩⟩
      ·rw [if_neg c10] at H; have c10b0 := decide_eq_false c10; clear c10
       by_cases c35 : x7_2 > 0
       ·rw [if_pos c35] at H; have c35b0 := decide_eq_true c35; clear c35; obtain ⟨t178, A36, H⟩ := xH H; (try dsimp only at H); obtain ⟨c37, H⟩ := xI H; have c37b0 := eq_true c37; have c37b1 := decide_eq_true c37; try have c37b2 : (140737488355328 < x5_2.size + t178.size) = False := eq_false (Nat.not_lt.2 c37)
        by_cases c38 : x6_1 > 0
        ·rw [if_pos c38] at H; have c38b0 := decide_eq_true c38; clear c38; obtain ⟨c39, H⟩ := xI H; have c39b0 := eq_true c39; have c39b1 := decide_eq_true c39; try have c39b2 : (140737488355328 < (x5_2 ++ t178).size + 1) = False := eq_false (Nat.not_lt.2 c39)
         have H' := xm H; clear H; go_wp2_with (first | ((with_reducible refine gate_callee (f := 18) rfl ?_); refine xL (some 49) Tryd.func18 #[.int .i64 x7_2] rfl ?_; (with_reducible refine (strconv_Itoa.calls x7_2 t178 _ A36.out ?sideL).mono ?_); (case sideL => exact xLs hlaid); rintro e w40 ⟨rfl, hb⟩; refine ⟨_, rfl, ?_⟩; replace BK172 := xB BK172 hb; replace BK173 := xB BK173 hb; replace HBD := xm (xBb HBD hb); replace HB := xS HB hb; (try clear hb); (try clear hb2); (try clear hk); (try clear hi)) | ((with_reducible refine gate_callee (f := 30) rfl ?_); refine goesL_ (some 50) rfl rfl Tryd.func30 (by kernel_rfl) rfl #[.pointer (some ⟨gbB, 0, none⟩), .string t178] rfl (by (try simp only [List.map_toArray, List.map_cons, List.map_nil]); first | done | rfl) ?_; (refine (Bd.write (g := gbB) (x := x5_2) (s := t178) (xBd HBD) c37).mono ?_); rintro e wB ⟨rfl, hbd, hb⟩; refine ⟨_, rfl, ?_⟩; replace BK172 := xm (xLow BK172 LT172 hb); replace BK173 := xm (xLow BK173 LT173 hb); replace HB := xm (xHlow HB GEB hb); replace HBD := xm hbd; clear hb hbd; have hczB_0 := blkc11 BK172.out) | ((with_reducible refine gate_callee (f := 32) rfl ?_); refine goesL_ (some 53) rfl rfl Tryd.func32 (by kernel_rfl) rfl #[.pointer (some ⟨gbB, 0, none⟩), .int .u8 47] rfl (by (try simp only [List.map_toArray, List.map_cons, List.map_nil]); first | done | rfl) ?_; (refine (Bd.slash (g := gbB) (x := (x5_2 ++ t178)) (xBd HBD) c39).mono ?_); rintro e wB ⟨rfl, hbd, hb⟩; refine ⟨_, rfl, ?_⟩; replace BK172 := xm (xLow BK172 LT172 hb); replace BK173 := xm (xLow BK173 LT173 hb); replace HB := xm (xHlow HB GEB hb); replace HBD := xm hbd; clear hb hbd; have hczB_0 := blkc11 BK172.out)); go_roundg k2
         case measure => have := HK1.out; have := HK2.out; omega
         case rel => exact ⟨((x5_2 ++ t178) ++ (⟨#[47]⟩ : ByteArray)), (wrap64 (x6_1 - 1)), (xrf), H', ⟨by have := HK1.out; have := HK2.out; omega⟩, ⟨xK BK172⟩, ⟨xK BK173⟩, ⟨xBd HBD⟩, ⟨xW HB⟩⟩
        ·rw [if_neg c38] at H; have c38b0 := decide_eq_false c38; clear c38; have H' := xm H; clear H; go_wp2_with (first | ((with_reducible refine gate_callee (f := 18) rfl ?_); refine xL (some 49) Tryd.func18 #[.int .i64 x7_2] rfl ?_; (with_reducible refine (strconv_Itoa.calls x7_2 t178 _ A36.out ?sideL).mono ?_); (case sideL => exact xLs hlaid); rintro e w41 ⟨rfl, hb⟩; refine ⟨_, rfl, ?_⟩; replace BK172 := xB BK172 hb; replace BK173 := xB BK173 hb; replace HBD := xm (xBb HBD hb); replace HB := xS HB hb; (try clear hb); (try clear hb2); (try clear hk); (try clear hi)) | ((with_reducible refine gate_callee (f := 30) rfl ?_); refine goesL_ (some 50) rfl rfl Tryd.func30 (by kernel_rfl) rfl #[.pointer (some ⟨gbB, 0, none⟩), .string t178] rfl (by (try simp only [List.map_toArray, List.map_cons, List.map_nil]); first | done | rfl) ?_; (refine (Bd.write (g := gbB) (x := x5_2) (s := t178) (xBd HBD) c37).mono ?_); rintro e wB ⟨rfl, hbd, hb⟩; refine ⟨_, rfl, ?_⟩; replace BK172 := xm (xLow BK172 LT172 hb); replace BK173 := xm (xLow BK173 LT173 hb); replace HB := xm (xHlow HB GEB hb); replace HBD := xm hbd; clear hb hbd; have hczB_0 := blkc11 BK172.out)); go_roundg k2
         case measure => have := HK1.out; have := HK2.out; omega
         case rel => exact ⟨(x5_2 ++ t178), (wrap64 (x6_1 - 1)), (xrf), H', ⟨by have := HK1.out; have := HK2.out; omega⟩, ⟨xK BK172⟩, ⟨xK BK173⟩, ⟨xBd HBD⟩, ⟨xW HB⟩⟩
       ·rw [if_neg c35] at H; have c35b0 := decide_eq_false c35; clear c35
        by_cases c42 : x6_1 > 0
        ·rw [if_pos c42] at H; have c42b0 := decide_eq_true c42; clear c42; obtain ⟨c43, H⟩ := xI H; have c43b0 := eq_true c43; have c43b1 := decide_eq_true c43; try have c43b2 : (140737488355328 < x5_2.size + 1) = False := eq_false (Nat.not_lt.2 c43)
         have H' := xm H; clear H; go_wp2_with (first | ((with_reducible refine gate_callee (f := 32) rfl ?_); refine goesL_ (some 53) rfl rfl Tryd.func32 (by kernel_rfl) rfl #[.pointer (some ⟨gbB, 0, none⟩), .int .u8 47] rfl (by (try simp only [List.map_toArray, List.map_cons, List.map_nil]); first | done | rfl) ?_; (refine (Bd.slash (g := gbB) (x := x5_2) (xBd HBD) c43).mono ?_); rintro e wB ⟨rfl, hbd, hb⟩; refine ⟨_, rfl, ?_⟩; replace BK172 := xm (xLow BK172 LT172 hb); replace BK173 := xm (xLow BK173 LT173 hb); replace HB := xm (xHlow HB GEB hb); replace HBD := xm hbd; clear hb hbd; have hczB_0 := blkc11 BK172.out)); go_roundg k2
         case measure => have := HK1.out; have := HK2.out; omega
         case rel => exact ⟨(x5_2 ++ (⟨#[47]⟩ : ByteArray)), (wrap64 (x6_1 - 1)), (xrf), H', ⟨by have := HK1.out; have := HK2.out; omega⟩, ⟨xK BK172⟩, ⟨xK BK173⟩, ⟨xBd HBD⟩, ⟨xW HB⟩⟩
        ·rw [if_neg c42] at H; have c42b0 := decide_eq_false c42; clear c42; have H' := xm H; clear H
         go_wp2
         go_roundg k2
         case measure => have := HK1.out; have := HK2.out; omega
         case rel => exact ⟨(x5_2), (wrap64 (x6_1 - 1)), (xrf), H', ⟨by have := HK1.out; have := HK2.out; omega⟩, ⟨xK BK172⟩, ⟨xK BK173⟩, ⟨xBd HBD⟩, ⟨xW HB⟩⟩
   ·rw [if_neg c7] at H; have c7b0 := decide_eq_false c7; clear c7; obtain rfl := Option.some.inj H; go_wp2_with (first | ((with_reducible refine gate_callee (f := 31) rfl ?_); refine goesL_ (some 54) rfl rfl Tryd.func31 (by kernel_rfl) rfl #[.pointer (some ⟨gbB, 0, none⟩)] rfl (by (try simp only [List.map_toArray, List.map_cons, List.map_nil]); first | done | rfl) ?_; (refine (Bd.string (g := gbB) (x := x5_1) (xBd HBD)).mono ?_); rintro e wB ⟨rfl, hbd, hb⟩; refine ⟨_, rfl, ?_⟩; replace BK172 := xm (xLow BK172 LT172 hb); replace BK173 := xm (xLow BK173 LT173 hb); replace HB := xm (xHlow HB GEB hb); replace HBD := xm hbd; clear hb hbd; have hczB_0 := blkc11 BK172.out)); go_ret; exact ⟨xer, xW HB⟩

end Go.Proofs.YtloadbbndnmdlaaDoor.PPlaceChecks
