-- Printed by a program of this claim's writer (wip/ext): an extension of the kit's print.
import Derived.Test.YtloadbbndnmdlaaDoorPPlaceChecksx0
import Derived.Test.YtloadbbndnmdlaaDoorPPlaceChecksx5
import Derived.Test.YtloadbbndnmdlaaDoorPPlaceChecksx7
namespace Go.Proofs.YtloadbbndnmdlaaDoor.PPlaceChecks
open Go.RowKit Go.Proofs.YtloadbbndnmdlaaDoorW.PrintWords Go.Proofs.YtloadbbndnmdlaaDoorW.PrintLast Go.Proofs.YtloadbbndnmdlaaDoorW.PrintMore
set_option maxHeartbeats 8000000
set_option maxRecDepth 100000
attribute [local go_sem] max2_int min2_int max_two min_two max_three min_three max_four min_four   -- for this text's walks alone
set_option linter.unusedVariables false
set_option linter.unusedSimpArgs false

/-! ### gamehallref1_PlaceError: function 8 -/
mutual
def gamehallref1_PlaceError.j0 : Nat → Int → Bool → List Int → List Int → List Int → Int → Int → Option (Int)
  | 0, _, _, _, _, _, _, _ => none
  | k + 1, x6, x46, z229a, z229b, z229c, z229d, z229e => if x46 = true then (some 3) else ((gamehallref1_In.f z229d 0 1).bind fun t230 => (if t230 = true then ((gamehallref1_In.f z229e 0 200).bind fun t231 => (gamehallref1_PlaceError.j1 k x6 t231 z229a z229b z229c z229d z229e)) else (gamehallref1_PlaceError.j1 k x6 false z229a z229b z229c z229d z229e)))
def gamehallref1_PlaceError.j1 : Nat → Int → Bool → List Int → List Int → List Int → Int → Int → Option (Int)
  | 0, _, _, _, _, _, _, _ => none
  | k + 1, x6, x7, z229a, z229b, z229c, z229d, z229e => gamehallref1_PlaceError.l0 k x6 x7 z229a (z229a.length : Int) 0 z229a z229b z229c z229d z229e
def gamehallref1_PlaceError.l0 : Nat → Int → Bool → List Int → Int → Int → List Int → List Int → List Int → Int → Int → Option (Int)
  | 0, _, _, _, _, _, _, _, _, _, _ => none
  | k + 1, x6, x7, x56, x57, x58, z229a, z229b, z229c, z229d, z229e => if x58 < x57 then (if 0 ≤ x58 then (if x58 < (x56.length : Int) then (if x7 = true then ((gamehallref1_In.f (rd x56 x58) 0 (wrap64 (2 * x6))).bind fun t233 => (gamehallref1_PlaceError.l0 k x6 t233 x56 x57 (wrap64 (x58 + 1)) z229a z229b z229c z229d z229e)) else (gamehallref1_PlaceError.l0 k x6 false x56 x57 (wrap64 (x58 + 1)) z229a z229b z229c z229d z229e)) else (none)) else (none)) else (gamehallref1_PlaceError.l1 k x7 0 z229b z229c)
def gamehallref1_PlaceError.l1 : Nat → Bool → Int → List Int → List Int → Option (Int)
  | 0, _, _, _, _ => none
  | k + 1, x7, x72, x90, x91 => if x72 < 2 then (if 0 ≤ x72 then (if x72 = 0 then (gamehallref1_PlaceError.j4 k x7 x90 x72 x90 x91) else (gamehallref1_PlaceError.j4 k x7 x91 x72 x90 x91)) else (none)) else (if x7 = true then (some 0) else (some 4))
def gamehallref1_PlaceError.j4 : Nat → Bool → List Int → Int → List Int → List Int → Option (Int)
  | 0, _, _, _, _, _ => none
  | k + 1, x7, x11, x72, x90, x91 => gamehallref1_PlaceError.l2 k x7 x72 x11 (x11.length : Int) 0 x90 x91
def gamehallref1_PlaceError.l2 : Nat → Bool → Int → List Int → Int → Int → List Int → List Int → Option (Int)
  | 0, _, _, _, _, _, _, _ => none
  | k + 1, x7, x72, x75, x76, x77, x90, x91 => if x77 < x76 then (if 0 ≤ x77 then (if x77 < (x75.length : Int) then (if x7 = true then ((gamehallref1_In.f (rd x75 x77) 0 1000).bind fun t235 => (gamehallref1_PlaceError.l2 k t235 x72 x75 x76 (wrap64 (x77 + 1)) x90 x91)) else (gamehallref1_PlaceError.l2 k false x72 x75 x76 (wrap64 (x77 + 1)) x90 x91)) else (none)) else (none)) else (gamehallref1_PlaceError.l1 k x7 (wrap64 (x72 + 1)) x90 x91)
end
def gamehallref1_PlaceError.f (k : Nat) (a0_0 : ByteArray) (a0_1 : Int) (a0_2 : Int) (l0_3 : List (S44)) (l0_4 : List Int) (a0_5 : Bool) (a0_6 : Bool) (l0_7 : List (S46)) (a0_8 : Int) (a0_9 : Int) (a0_10 : Int) (l1_0 : List Int) (l1_1 : List Int) (l1_2 : List Int) (a1_3 : Int) (a1_4 : Int) : Option (Int) := (gamehallref1_RulesError.f k a0_0 a0_1 a0_2 l0_3 l0_4 a0_5 a0_6 l0_7 a0_8 a0_9 a0_10).bind fun t229 => (if t229 = 0 then (if (l1_0.length : Int) = (wrap64 (a0_1 * a0_2)) then (if (l1_1.length : Int) = (l0_3.length : Int) then (gamehallref1_PlaceError.j0 k (l0_3.length : Int) ((l1_2.length : Int) != (l0_3.length : Int)) l1_0 l1_1 l1_2 a1_3 a1_4) else (gamehallref1_PlaceError.j0 k (l0_3.length : Int) true l1_0 l1_1 l1_2 a1_3 a1_4)) else (gamehallref1_PlaceError.j0 k (l0_3.length : Int) true l1_0 l1_1 l1_2 a1_3 a1_4)) else (some t229))
theorem gamehallref1_PlaceError.mono_l : ∀ k, L5 (LM (LM (LeO))) (gamehallref1_PlaceError.j0 k) (gamehallref1_PlaceError.j0 (k + 1)) ∧ L5 (LM (LM (LeO))) (gamehallref1_PlaceError.j1 k) (gamehallref1_PlaceError.j1 (k + 1)) ∧ L10 (LeO) (gamehallref1_PlaceError.l0 k) (gamehallref1_PlaceError.l0 (k + 1)) ∧ LM (LM (LM (LM (LeO)))) (gamehallref1_PlaceError.l1 k) (gamehallref1_PlaceError.l1 (k + 1)) ∧ L5 (LeO) (gamehallref1_PlaceError.j4 k) (gamehallref1_PlaceError.j4 (k + 1)) ∧ L5 (LM (LM (LeO))) (gamehallref1_PlaceError.l2 k) (gamehallref1_PlaceError.l2 (k + 1))
  | 0 => by refine ⟨?_, ?_, ?_, ?_, ?_, ?_⟩ <;> (repeat (first | exact LeO.none _ | intro _))
  | k + 1 => by
    obtain ⟨ih0, ih1, ih2, ih3, ih4, ih5⟩ := gamehallref1_PlaceError.mono_l k; refine ⟨?_, ?_, ?_, ?_, ?_, ?_⟩ <;> ((repeat (first | (with_reducible refine LeO.st ?_) | intro _)); constructor; (first | unfold gamehallref1_PlaceError.j0 | unfold gamehallref1_PlaceError.j1 | unfold gamehallref1_PlaceError.l0 | unfold gamehallref1_PlaceError.l1 | unfold gamehallref1_PlaceError.j4 | unfold gamehallref1_PlaceError.l2); repeat' first | (with_reducible first | apply ih0 | apply ih1 | apply ih2 | apply ih3 | apply ih4 | apply ih5 | apply gamehallref1_RulesError.mono | exact LeO.refl _ | exact LeO.none _ | refine LeO.ite ?_ ?_ | refine LeO.bind ?_ (fun _ => ?_)) | apply ih0 | apply ih1 | apply ih2 | apply ih3 | apply ih4 | apply ih5 | apply gamehallref1_RulesError.mono | exact LeO.none _ | refine LeO.ite ?_ ?_ | refine LeO.bind ?_ (fun _ => ?_))
theorem gamehallref1_PlaceError.mono : ∀ a0 a1 a2 a3 a4 a5 a6 a7 a8 a9 a10 a11 a12 a13 a14 a15 k, LeO (gamehallref1_PlaceError.f k a0 a1 a2 a3 a4 a5 a6 a7 a8 a9 a10 a11 a12 a13 a14 a15) (gamehallref1_PlaceError.f (k + 1) a0 a1 a2 a3 a4 a5 a6 a7 a8 a9 a10 a11 a12 a13 a14 a15) := by
  intros; rename_i k; obtain ⟨ih0, ih1, ih2, ih3, ih4, ih5⟩ := gamehallref1_PlaceError.mono_l k
  unfold gamehallref1_PlaceError.f
  repeat' first | (with_reducible first | apply ih0 | apply ih1 | apply ih2 | apply ih3 | apply ih4 | apply ih5 | apply gamehallref1_RulesError.mono | exact LeO.refl _ | exact LeO.none _ | refine LeO.ite ?_ ?_ | refine LeO.bind ?_ (fun _ => ?_)) | apply ih0 | apply ih1 | apply ih2 | apply ih3 | apply ih4 | apply ih5 | apply gamehallref1_RulesError.mono | exact LeO.none _ | refine LeO.ite ?_ ?_ | refine LeO.bind ?_ (fun _ => ?_)
theorem gamehallref1_PlaceError.calls (k : Nat) (a0_0 : ByteArray) (a0_1 : Int) (a0_2 : Int) (A0_3 : Option Addr) (c0_3 : Nat) (l0_3 : List (S44)) (A0_4 : Option Addr) (c0_4 : Nat) (l0_4 : List Int) (a0_5 : Bool) (a0_6 : Bool) (A0_7 : Option Addr) (c0_7 : Nat) (l0_7 : List (S46)) (a0_8 : Int) (a0_9 : Int) (a0_10 : Int) (A1_0 : Option Addr) (c1_0 : Nat) (l1_0 : List Int) (A1_1 : Option Addr) (c1_1 : Nat) (l1_1 : List Int) (A1_2 : Option Addr) (c1_2 : Nat) (l1_2 : List Int) (a1_3 : Int) (a1_4 : Int) (r : Int) (w : World) (hr0_3 : Kd.C k44 w A0_3 l0_3.length l0_3) (hc0_3 : l0_3.length ≤ c0_3) (hr0_4 : Kd.C (Kd.int .i64) w A0_4 l0_4.length l0_4) (hc0_4 : l0_4.length ≤ c0_4) (hr0_7 : Kd.C k46 w A0_7 l0_7.length l0_7) (hc0_7 : l0_7.length ≤ c0_7) (hr1_0 : Kd.C (Kd.int .i64) w A1_0 l1_0.length l1_0) (hc1_0 : l1_0.length ≤ c1_0) (hr1_1 : Kd.C (Kd.int .i64) w A1_1 l1_1.length l1_1) (hc1_1 : l1_1.length ≤ c1_1) (hr1_2 : Kd.C (Kd.int .i64) w A1_2 l1_2.length l1_2) (hc1_2 : l1_2.length ≤ c1_2) (h : gamehallref1_PlaceError.f k a0_0 a0_1 a0_2 l0_3 l0_4 a0_5 a0_6 l0_7 a0_8 a0_9 a0_10 l1_0 l1_1 l1_2 a1_3 a1_4 = some r) :
    Calls Tryd.prog 8 #[.agg #[.string a0_0, .int .i64 a0_1, .int .i64 a0_2, .slice A0_3 l0_3.length c0_3, .slice A0_4 l0_4.length c0_4, .bool a0_5, .bool a0_6, .slice A0_7 l0_7.length c0_7, .int .i64 a0_8, .int .i64 a0_9, .int .i64 a0_10], .agg #[.slice A1_0 l1_0.length c1_0, .slice A1_1 l1_1.length c1_1, .slice A1_2 l1_2.length c1_2, .int .i64 a1_3, .int .i64 a1_4]] w fun e w' => e = .returned (.int .i64 r) ∧ Below w.heap.size w w' := by
 have hu26 := Tryd.underlying26; have hu29 := Tryd.underlying29; have hu27 := Tryd.underlying27; have HR0_3 := xm hr0_3; have HC0_3 := xm hc0_3; clear hr0_3 hc0_3; have HR0_4 := xm hr0_4; have HC0_4 := xm hc0_4; clear hr0_4 hc0_4; have HR0_7 := xm hr0_7; have HC0_7 := xm hc0_7; clear hr0_7 hc0_7; have HR1_0 := xm hr1_0; have HC1_0 := xm hc1_0; clear hr1_0 hc1_0; have HR1_1 := xm hr1_1; have HC1_1 := xm hc1_1; clear hr1_1 hc1_1; have HR1_2 := xm hr1_2; have HC1_2 := xm hc1_2; clear hr1_2 hc1_2; have HB := xm (Below.refl w.heap.size w); have hss_ := @isSome_setCell; have H : ((gamehallref1_RulesError.f k a0_0 a0_1 a0_2 l0_3 l0_4 a0_5 a0_6 l0_7 a0_8 a0_9 a0_10).bind fun t229 => (if t229 = 0 then (if (l1_0.length : Int) = (wrap64 (a0_1 * a0_2)) then (if (l1_1.length : Int) = (l0_3.length : Int) then (gamehallref1_PlaceError.j0 k (l0_3.length : Int) ((l1_2.length : Int) != (l0_3.length : Int)) l1_0 l1_1 l1_2 a1_3 a1_4) else (gamehallref1_PlaceError.j0 k (l0_3.length : Int) true l1_0 l1_1 l1_2 a1_3 a1_4)) else (gamehallref1_PlaceError.j0 k (l0_3.length : Int) true l1_0 l1_1 l1_2 a1_3 a1_4)) else (some t229))) = some r := h; clear h; obtain ⟨t229, A3, H⟩ := xH H; (try dsimp only at H); have DA3 := xm fun (W_ : World) (hb_ : Below w.heap.size w W_) => gamehallref1_RulesError.calls k a0_0 a0_1 a0_2 _ _ l0_3 _ _ l0_4 a0_5 a0_6 _ _ l0_7 a0_8 a0_9 a0_10 t229 W_ (Kd.C_below HR0_3.out hb_) HC0_3.out (Kd.C_below HR0_4.out hb_) HC0_4.out (Kd.C_below HR0_7.out hb_) HC0_7.out A3.out
 by_cases c4 : t229 = 0
 ·rw [if_pos c4] at H; have c4b0 := beq_iff_eq.mpr c4; have c4b1 := bne_eq_false_iff_eq.mpr c4; clear c4; have HC5 := xm H; clear H; go_enter Tryd.func8, Tryd.ntmps8
  go_upto_region 5 with (first | ((with_reducible refine gate_dst (N := 2) rfl ?_); (try (refine gate_guard (by rfl) ?_; dsimp only)); refine xG (cs := #[.string a0_0, .int .i64 a0_1, .int .i64 a0_2, .slice A0_3 l0_3.length c0_3, .slice A0_4 l0_4.length c0_4, .bool a0_5, .bool a0_6, .slice A0_7 l0_7.length c0_7, .int .i64 a0_8, .int .i64 a0_9, .int .i64 a0_10]) (t := 26) ?_; intro gb227 hg w6 hbox hb; have BK227 := xm (hbox); have GW227 := xZ HB hg; have GE227 := xZ HB hg; replace HB := xS HB hb; clear hb hbox hg) | ((with_reducible refine gate_dst (N := 3) rfl ?_); (try (refine gate_guard (by rfl) ?_; dsimp only)); refine xG (cs := #[.slice A1_0 l1_0.length c1_0, .slice A1_1 l1_1.length c1_1, .slice A1_2 l1_2.length c1_2, .int .i64 a1_3, .int .i64 a1_4]) (t := 29) ?_; intro gb228 hg w7 hbox hb; have BK228 := xm (hbox); have GW228 := xZ HB hg; have GE228 := xZ HB hg; have NB227_228 := xN BK227 hg; have NB228_227 := xM BK227 hg; replace BK227 := xB BK227 hb; replace HB := xS HB hb; clear hb hbox hg; have hnb8 := NB227_228.out; have hnc8 := NB228_227.out; have hcz9_0 := blkc11 BK227.out) | ((with_reducible refine gate_callee (f := 10) rfl ?_); refine xL (some 15) Tryd.func10 #[.agg #[.string a0_0, .int .i64 a0_1, .int .i64 a0_2, .slice A0_3 l0_3.length c0_3, .slice A0_4 l0_4.length c0_4, .bool a0_5, .bool a0_6, .slice A0_7 l0_7.length c0_7, .int .i64 a0_8, .int .i64 a0_9, .int .i64 a0_10]] rfl ?_; (with_reducible refine (DA3.out _ ?sB).mono ?_); (case sB => exact xW HB); rintro e w10 ⟨rfl, hb⟩; refine ⟨_, rfl, ?_⟩; replace BK227 := xB BK227 hb; replace BK228 := xB BK228 hb; replace HB := xS HB hb; (try clear hb); (try clear hb2); (try clear hk); (try clear hi); have hcz11_0 := blkc11 BK227.out))
  (try have hq228_227 := NB228_227.out); (try have hq227_228 := NB227_228.out); (try simp only [Act.put, List.setIfInBounds_toArray, List.set_cons_zero, List.set_cons_succ])
  go_cut [46] (fun vs46 wc => ∃ (kq : Nat) (x46_4 : Bool), vs46 = .bool x46_4 ∧ Aside0 (gamehallref1_PlaceError.j0 kq (l0_3.length : Int) x46_4 l1_0 l1_1 l1_2 a1_3 a1_4 = some r) ∧ Aside0 (kq ≤ k) ∧ Aside0 (wc.heap[gb227]? = some (.cells #[.string a0_0, .int .i64 a0_1, .int .i64 a0_2, (.slice A0_3 l0_3.length c0_3), (.slice A0_4 l0_4.length c0_4), .bool a0_5, .bool a0_6, (.slice A0_7 l0_7.length c0_7), .int .i64 a0_8, .int .i64 a0_9, .int .i64 a0_10] 26 (0, 0))) ∧ Aside0 (wc.heap[gb228]? = some (.cells #[(.slice A1_0 l1_0.length c1_0), (.slice A1_1 l1_1.length c1_1), (.slice A1_2 l1_2.length c1_2), .int .i64 a1_3, .int .i64 a1_4] 29 (0, 0))) ∧ Aside0 (Below w.heap.size w wc))
  case first =>
   have H := HC5.out; clear HC5
   by_cases c12 : (l1_0.length : Int) = (wrap64 (a0_1 * a0_2))
   ·rw [if_pos c12] at H; have c12b0 := beq_iff_eq.mpr c12; have c12b1 := bne_eq_false_iff_eq.mpr c12; clear c12
    (first | rw [c12b0] | (simp only [i64_w, i32_w]; rw [c12b0]) | skip)
    by_cases c13 : (l1_1.length : Int) = (l0_3.length : Int)
    ·rw [if_pos c13] at H; have c13b0 := beq_iff_eq.mpr c13; have c13b1 := bne_eq_false_iff_eq.mpr c13; have c13b2 : (l1_1.length == l0_3.length) = true := by first | simpa using c13 | (simp at c13 ⊢; omega)
     clear c13; have H' := xm H; clear H; have hcz15_0 := blkc5 BK228.out; have hcz16_0 := blkc11 BK227.out
     go_wp2
     go_meet
     case rel => exact ⟨_, (((l1_2.length : Int) != (l0_3.length : Int))), (xrf), H', ⟨by first | omega | exact Nat.le_refl _⟩, ⟨xK BK227⟩, ⟨xK BK228⟩, ⟨xW HB⟩⟩
    ·rw [if_neg c13] at H; have c13b0 := beq_eq_false_iff_ne.mpr c13; have c13b1 := bne_iff_ne.mpr c13; have c13b2 : (l1_1.length == l0_3.length) = false := by first | simpa using c13 | (simp at c13 ⊢; omega)
     have H' := xm H; clear H; have hcz18_0 := blkc5 BK228.out; have hcz19_0 := blkc11 BK227.out
     go_wp2
     go_meet
     case rel => exact ⟨_, (true), (xrf), H', ⟨by first | omega | exact Nat.le_refl _⟩, ⟨xK BK227⟩, ⟨xK BK228⟩, ⟨xW HB⟩⟩
   ·rw [if_neg c12] at H; have c12b0 := beq_eq_false_iff_ne.mpr c12; have c12b1 := bne_iff_ne.mpr c12
    (first | rw [c12b0] | (simp only [i64_w, i32_w]; rw [c12b0]) | skip)
    have H' := xm H; clear H; have hcz21_0 := blkc5 BK228.out; have hcz22_0 := blkc11 BK227.out
    go_wp2
    go_meet
    case rel => exact ⟨_, (true), (xrf), H', ⟨by first | omega | exact Nat.le_refl _⟩, ⟨xK BK227⟩, ⟨xK BK228⟩, ⟨xW HB⟩⟩
  case rest =>
   clear HC5; (try clear p2); (try clear p6); obtain ⟨kq, x46_4, rfl, HA, HJ4, BK227, BK228, HB⟩ := hcut
   cases kq with
   | zero => exact absurd HA.out (by simp [gamehallref1_PlaceError.j0])
   | succ kj4 =>
    have H := HA.out; clear HA; simp only [gamehallref1_PlaceError.j0] at H
    by_cases c23 : x46_4 = true
    ·subst c23; rw [if_pos rfl] at H; obtain rfl := Option.some.inj H
     go_wp2
     go_ret; exact ⟨xer, xW HB⟩
    ·obtain rfl := Bool.eq_false_iff.mpr c23; rw [if_neg xF] at H; have HC24 := xm H; clear H
     go_upto_region 7 with (fail)
     go_cut [7] (fun vs7 wc => ∃ (kq : Nat) (x7_23 : Bool), vs7 = .bool x7_23 ∧ Aside0 (gamehallref1_PlaceError.j1 kq (l0_3.length : Int) x7_23 l1_0 l1_1 l1_2 a1_3 a1_4 = some r) ∧ Aside0 (kq ≤ kj4) ∧ Aside0 (wc.heap[gb227]? = some (.cells #[.string a0_0, .int .i64 a0_1, .int .i64 a0_2, (.slice A0_3 l0_3.length c0_3), (.slice A0_4 l0_4.length c0_4), .bool a0_5, .bool a0_6, (.slice A0_7 l0_7.length c0_7), .int .i64 a0_8, .int .i64 a0_9, .int .i64 a0_10] 26 (0, 0))) ∧ Aside0 (wc.heap[gb228]? = some (.cells #[(.slice A1_0 l1_0.length c1_0), (.slice A1_1 l1_1.length c1_1), (.slice A1_2 l1_2.length c1_2), .int .i64 a1_3, .int .i64 a1_4] 29 (0, 0))) ∧ Aside0 (Below w.heap.size w wc))
     case first =>
      have H := HC24.out; clear HC24; obtain ⟨t230, A25, H⟩ := xH H; (try dsimp only at H)
      by_cases c26 : t230 = true
      ·subst c26; rw [if_pos rfl] at H; replace H := Option.bind_eq_some_iff.mp H; obtain ⟨t231, A270, H⟩ := H; replace H : (gamehallref1_PlaceError.j1 kj4 (l0_3.length : Int) t231 l1_0 l1_1 l1_2 a1_3 a1_4) = some r := H; have A27 := xm A270; clear A270; have H' := xm H; clear H; have hcz29_0 := blkc5 BK228.out; go_wp2_with (first | ((with_reducible refine gate_callee (f := 19) rfl ?_); refine xL (some 49) Tryd.func19 #[.int .i64 a1_3, .int .i64 0, .int .i64 1] rfl ?_; (with_reducible refine (gamehallref1_In.calls a1_3 0 1 true _ A25.out).mono ?_); rintro e w' ⟨rfl, ⟨nd, rfl⟩⟩; refine ⟨_, rfl, ?_⟩) | (go_at_call 19; (with_reducible refine (gamehallref1_In.calls a1_4 0 200 t231 _ A27.out).mono ?_); rintro e w' ⟨rfl, ⟨nd, rfl⟩⟩)); go_meet
       case rel => exact ⟨_, (t231), (xrf), H', ⟨by have := HJ4.out; first | omega | exact Nat.le_refl _⟩, ⟨xK BK227⟩, ⟨xK BK228⟩, ⟨xW HB⟩⟩
      ·obtain rfl := Bool.eq_false_iff.mpr c26; rw [if_neg xF] at H; have H' := xm H; clear H; have hcz31_0 := blkc5 BK228.out; go_wp2_with (first | ((with_reducible refine gate_callee (f := 19) rfl ?_); refine xL (some 49) Tryd.func19 #[.int .i64 a1_3, .int .i64 0, .int .i64 1] rfl ?_; (with_reducible refine (gamehallref1_In.calls a1_3 0 1 false _ A25.out).mono ?_); rintro e w' ⟨rfl, ⟨nd, rfl⟩⟩; refine ⟨_, rfl, ?_⟩)); go_meet
       case rel => exact ⟨_, (false), (xrf), H', ⟨by have := HJ4.out; first | omega | exact Nat.le_refl _⟩, ⟨xK BK227⟩, ⟨xK BK228⟩, ⟨xW HB⟩⟩
     case rest =>
      clear HC24; (try clear p2); (try clear p6); obtain ⟨kq, x7_23, rfl, HA, HJ23, BK227, BK228, HB⟩ := hcut
      cases kq with
      | zero => exact absurd HA.out (by simp [gamehallref1_PlaceError.j1])
      | succ kj23 =>
       have H := HA.out; clear HA; simp only [gamehallref1_PlaceError.j1] at H; have H' := xm H; clear H; have hcz33_0 := blkc5 BK228.out
       go_wp2
       go_loopg [7, 58] kj23 (fun kq vs7 vs58 w' => ∃ (x7_3 : Bool) (x58_3 : Int), vs7 = .bool x7_3 ∧ vs58 = .int .i64 x58_3 ∧ Aside0 (gamehallref1_PlaceError.l0 kq (l0_3.length : Int) x7_3 l1_0 (l1_0.length : Int) x58_3 l1_0 l1_1 l1_2 a1_3 a1_4 = some r) ∧ Aside0 (kq ≤ kj23) ∧ Aside0 (w'.heap[gb227]? = some (.cells #[.string a0_0, .int .i64 a0_1, .int .i64 a0_2, (.slice A0_3 l0_3.length c0_3), (.slice A0_4 l0_4.length c0_4), .bool a0_5, .bool a0_6, (.slice A0_7 l0_7.length c0_7), .int .i64 a0_8, .int .i64 a0_9, .int .i64 a0_10] 26 (0, 0))) ∧ Aside0 (w'.heap[gb228]? = some (.cells #[(.slice A1_0 l1_0.length c1_0), (.slice A1_1 l1_1.length c1_1), (.slice A1_2 l1_2.length c1_2), .int .i64 a1_3, .int .i64 a1_4] 29 (0, 0))) ∧ Aside0 (Below w.heap.size w w'))
       case atStart => exact ⟨(x7_23), (0), (xrf), (xrf), H', ⟨Nat.le_refl _⟩, ⟨xK BK227⟩, ⟨xK BK228⟩, ⟨xW HB⟩⟩
       case round =>
        clear H'; (try clear p2); (try clear p6); obtain ⟨x7_3, x58_3, rfl, rfl, HA, HK3, BK227, BK228, HB⟩ := hrel
        cases gk with
        | zero => exact absurd HA.out (by simp [gamehallref1_PlaceError.l0])
        | succ k3 =>
         have H := HA.out; clear HA; simp only [gamehallref1_PlaceError.l0] at H
         by_cases c34 : x58_3 < (l1_0.length : Int)
         ·rw [if_pos c34] at H; have c34b0 := decide_eq_true c34; clear c34; obtain ⟨c35b0, H⟩ := xJ H; obtain ⟨c36b0, H⟩ := xJ H
          by_cases c37 : x7_3 = true
          ·subst c37; rw [if_pos rfl] at H; obtain ⟨t233, A38, H⟩ := xH H; (try dsimp only at H); have H' := xm H; clear H; have p232 : 0 ≤ (x58_3 : Int) := xO; have q232 : x58_3 < (l1_0.length : Int) := xO; obtain ⟨ad232, e232, hx232_0⟩ := Kd.at_int HR1_0.out x58_3 p232 q232
           cases e232
           (first | replace hx232_0 := xR HB hx232_0 | skip); replace p232 := eq_true p232; replace q232 := eq_true q232
           go_wp2_with (first | (go_at_call 19; (with_reducible refine (gamehallref1_In.calls (rd l1_0 x58_3) 0 (wrap64 (2 * (l0_3.length : Int))) t233 _ A38.out).mono ?_); rintro e w' ⟨rfl, ⟨nd, rfl⟩⟩)); go_roundg k3
           case measure => have := HJ4.out; have := HJ23.out; have := HK3.out; omega
           case rel => exact ⟨(t233), (wrap64 (x58_3 + 1)), (xrf), (xrf), H', ⟨by have := HJ4.out; have := HJ23.out; have := HK3.out; omega⟩, ⟨xK BK227⟩, ⟨xK BK228⟩, ⟨xW HB⟩⟩
          ·obtain rfl := Bool.eq_false_iff.mpr c37; rw [if_neg xF] at H; have H' := xm H; clear H; have p232 : 0 ≤ (x58_3 : Int) := xO; have q232 : x58_3 < (l1_0.length : Int) := xO; obtain ⟨ad232, e232, hx232_0⟩ := Kd.at_int HR1_0.out x58_3 p232 q232
           cases e232
           (first | replace hx232_0 := xR HB hx232_0 | skip); replace p232 := eq_true p232; replace q232 := eq_true q232
           go_wp2
           go_roundg k3
           case measure => have := HJ4.out; have := HJ23.out; have := HK3.out; omega
           case rel => exact ⟨(false), (wrap64 (x58_3 + 1)), (xrf), (xrf), H', ⟨by have := HJ4.out; have := HJ23.out; have := HK3.out; omega⟩, ⟨xK BK227⟩, ⟨xK BK228⟩, ⟨xW HB⟩⟩
         ·rw [if_neg c34] at H; have c34b0 := decide_eq_false c34; clear c34; have H' := xm H; clear H; have hcz40_0 := blkc5 BK228.out
          go_wp2
          go_loopg [7, 72] k3 (fun kq vs7 vs72 w' => ∃ (x7_4 : Bool) (x72_4 : Int), vs7 = .bool x7_4 ∧ vs72 = .int .i64 x72_4 ∧ Aside0 (gamehallref1_PlaceError.l1 kq x7_4 x72_4 l1_1 l1_2 = some r) ∧ Aside0 (kq ≤ k3) ∧ Aside0 (w'.heap[gb227]? = some (.cells #[.string a0_0, .int .i64 a0_1, .int .i64 a0_2, (.slice A0_3 l0_3.length c0_3), (.slice A0_4 l0_4.length c0_4), .bool a0_5, .bool a0_6, (.slice A0_7 l0_7.length c0_7), .int .i64 a0_8, .int .i64 a0_9, .int .i64 a0_10] 26 (0, 0))) ∧ Aside0 (w'.heap[gb228]? = some (.cells #[(.slice A1_0 l1_0.length c1_0), (.slice A1_1 l1_1.length c1_1), (.slice A1_2 l1_2.length c1_2), .int .i64 a1_3, .int .i64 a1_4] 29 (0, 0))) ∧ Aside0 (Below w.heap.size w w'))
          case atStart => exact ⟨(x7_3), (0), (xrf), (xrf), H', ⟨Nat.le_refl _⟩, ⟨xK BK227⟩, ⟨xK BK228⟩, ⟨xW HB⟩⟩
          case round =>
           clear H'; (try clear p2); (try clear q2); (try clear hx2); (try clear p6); (try clear p23); (try clear q23); (try clear hx23); (try clear hx232_0); (try clear p232); (try clear q232); obtain ⟨x7_4, x72_4, rfl, rfl, HA, HK4, BK227, BK228, HB⟩ := hrel
           cases gk with
           | zero => exact absurd HA.out (by simp [gamehallref1_PlaceError.l1])
           | succ k4 =>
            have H := HA.out; clear HA; simp only [gamehallref1_PlaceError.l1] at H
            by_cases c41 : x72_4 < 2
            ·rw [if_pos c41] at H; have c41b0 := decide_eq_true c41; clear c41; have HC42 := xm H; clear H
             go_upto_region 15 with (fail)
             go_cut [11] (fun vs11 wc => ∃ (kq : Nat) (x11_41 : List Int) (Ar11 : Option Addr) (cr11 : Nat), vs11 = .slice Ar11 x11_41.length cr11 ∧ Aside0 (Kd.C (Kd.int .i64) w Ar11 x11_41.length x11_41) ∧ Aside0 (x11_41.length ≤ cr11) ∧ Aside0 (gamehallref1_PlaceError.j4 kq x7_4 x11_41 x72_4 l1_1 l1_2 = some r) ∧ Aside0 (kq ≤ k4) ∧ Aside0 (wc.heap[gb227]? = some (.cells #[.string a0_0, .int .i64 a0_1, .int .i64 a0_2, (.slice A0_3 l0_3.length c0_3), (.slice A0_4 l0_4.length c0_4), .bool a0_5, .bool a0_6, (.slice A0_7 l0_7.length c0_7), .int .i64 a0_8, .int .i64 a0_9, .int .i64 a0_10] 26 (0, 0))) ∧ Aside0 (wc.heap[gb228]? = some (.cells #[(.slice A1_0 l1_0.length c1_0), (.slice A1_1 l1_1.length c1_1), (.slice A1_2 l1_2.length c1_2), .int .i64 a1_3, .int .i64 a1_4] 29 (0, 0))) ∧ Aside0 (Below w.heap.size w wc))
             case first =>
              have H := HC42.out; clear HC42; obtain ⟨c43b0, H⟩ := xJ H
              (first | rw [c43b0] | (simp only [i64_w, i32_w]; rw [c43b0]) | skip)
              by_cases c44 : x72_4 = 0
              ·rw [if_pos c44] at H; have c44b0 := beq_iff_eq.mpr c44; have c44b1 := bne_eq_false_iff_eq.mpr c44; clear c44; obtain ⟨c45b, c45g, c45c, c45d⟩ := xar (x72_4 : Int) 0 0 2; have c45i : ∀ (v0_ v1_ : Value) (w_ : World), (Instr.index 27 (.agg #[v0_, v1_]) (.int .i64 x72_4)).run Tryd.prog w_ = .ok v0_ w_ := by intro v0_ v1_ w_; have h0_ := c45b c45g; simp [Instr.index, asIntOf, part, isAgg, sizeOf, Tryd.underlying27, c45c, c45d, h0_] <;> simp [show Tryd.t23.size = 1 from rfl]
               have H' := xm H; clear H
               go_wp2
               go_meet
               case rel => exact ⟨_, (l1_1), (A1_1), (c1_1), rfl, ⟨HR1_1.out⟩, ⟨HC1_1.out⟩, H', ⟨by have := HJ4.out; have := HJ23.out; have := HK3.out; have := HK4.out; first | omega | exact Nat.le_refl _⟩, ⟨xK BK227⟩, ⟨xK BK228⟩, ⟨xW HB⟩⟩
              ·rw [if_neg c44] at H; have c44b0 := beq_eq_false_iff_ne.mpr c44; have c44b1 := bne_iff_ne.mpr c44; obtain ⟨c46b, c46g, c46c, c46d⟩ := xar (x72_4 : Int) 1 1 2; have c46i : ∀ (v0_ v1_ : Value) (w_ : World), (Instr.index 27 (.agg #[v0_, v1_]) (.int .i64 x72_4)).run Tryd.prog w_ = .ok v1_ w_ := by intro v0_ v1_ w_; have h0_ := c46b c46g; simp [Instr.index, asIntOf, part, isAgg, sizeOf, Tryd.underlying27, c46c, c46d, h0_] <;> simp [show Tryd.t23.size = 1 from rfl]
               have H' := xm H; clear H
               go_wp2
               go_meet
               case rel => exact ⟨_, (l1_2), (A1_2), (c1_2), rfl, ⟨HR1_2.out⟩, ⟨HC1_2.out⟩, H', ⟨by have := HJ4.out; have := HJ23.out; have := HK3.out; have := HK4.out; first | omega | exact Nat.le_refl _⟩, ⟨xK BK227⟩, ⟨xK BK228⟩, ⟨xW HB⟩⟩
             case rest =>
              clear HC42; (try clear p2); (try clear q2); (try clear hx2); (try clear p6); (try clear p23); (try clear q23); (try clear hx23); (try clear hx232_0); (try clear p232); (try clear q232); obtain ⟨kq, x11_41, Ar11, cr11, rfl, HR_11, HC_11, HA, HJ41, BK227, BK228, HB⟩ := hcut
              cases kq with
              | zero => exact absurd HA.out (by simp [gamehallref1_PlaceError.j4])
              | succ kj41 =>
               have H := HA.out; clear HA; simp only [gamehallref1_PlaceError.j4] at H; have H' := xm H; clear H
               go_wp2
               go_loopg [7, 77] kj41 (fun kq vs7 vs77 w' => ∃ (x7_6 : Bool) (x77_6 : Int), vs7 = .bool x7_6 ∧ vs77 = .int .i64 x77_6 ∧ Aside0 (gamehallref1_PlaceError.l2 kq x7_6 x72_4 x11_41 (x11_41.length : Int) x77_6 l1_1 l1_2 = some r) ∧ Aside0 (kq ≤ kj41) ∧ Aside0 (w'.heap[gb227]? = some (.cells #[.string a0_0, .int .i64 a0_1, .int .i64 a0_2, (.slice A0_3 l0_3.length c0_3), (.slice A0_4 l0_4.length c0_4), .bool a0_5, .bool a0_6, (.slice A0_7 l0_7.length c0_7), .int .i64 a0_8, .int .i64 a0_9, .int .i64 a0_10] 26 (0, 0))) ∧ Aside0 (w'.heap[gb228]? = some (.cells #[(.slice A1_0 l1_0.length c1_0), (.slice A1_1 l1_1.length c1_1), (.slice A1_2 l1_2.length c1_2), .int .i64 a1_3, .int .i64 a1_4] 29 (0, 0))) ∧ Aside0 (Below w.heap.size w w'))
               case atStart => exact ⟨(x7_4), (0), (xrf), (xrf), H', ⟨Nat.le_refl _⟩, ⟨xK BK227⟩, ⟨xK BK228⟩, ⟨xW HB⟩⟩
               case round =>
                clear H'; (try clear p2); (try clear q2); (try clear hx2); (try clear p6); (try clear p23); (try clear q23); (try clear hx23); (try clear hx232_0); (try clear p232); (try clear q232); obtain ⟨x7_6, x77_6, rfl, rfl, HA, HK6, BK227, BK228, HB⟩ := hrel
                cases gk with
                | zero => exact absurd HA.out (by simp [gamehallref1_PlaceError.l2])
                | succ k6 =>
                 have H := HA.out; clear HA; simp only [gamehallref1_PlaceError.l2] at H
                 by_cases c47 : x77_6 < (x11_41.length : Int)
                 ·rw [if_pos c47] at H; have c47b0 := decide_eq_true c47; clear c47; obtain ⟨c48b0, H⟩ := xJ H; obtain ⟨c49b0, H⟩ := xJ H
                  by_cases c50 : x7_6 = true
                  ·subst c50; rw [if_pos rfl] at H; obtain ⟨t235, A51, H⟩ := xH H; (try dsimp only at H); have H' := xm H; clear H; have p234 : 0 ≤ (x77_6 : Int) := xO; have q234 : x77_6 < (x11_41.length : Int) := xO; obtain ⟨ad234, e234, hx234_0⟩ := Kd.at_int HR_11.out x77_6 p234 q234
                   cases e234
                   (first | replace hx234_0 := xR HB hx234_0 | skip); replace p234 := eq_true p234; replace q234 := eq_true q234
                   go_wp2_with (first | (go_at_call 19; (with_reducible refine (gamehallref1_In.calls (rd x11_41 x77_6) 0 1000 t235 _ A51.out).mono ?_); rintro e w' ⟨rfl, ⟨nd, rfl⟩⟩)); go_roundg k6
                   case measure => have := HJ4.out; have := HJ23.out; have := HK3.out; have := HK4.out; have := HJ41.out; have := HK6.out; omega
                   case rel => exact ⟨(t235), (wrap64 (x77_6 + 1)), (xrf), (xrf), H', ⟨by have := HJ4.out; have := HJ23.out; have := HK3.out; have := HK4.out; have := HJ41.out; have := HK6.out; omega⟩, ⟨xK BK227⟩, ⟨xK BK228⟩, ⟨xW HB⟩⟩
                  ·obtain rfl := Bool.eq_false_iff.mpr c50; rw [if_neg xF] at H; have H' := xm H; clear H; have p234 : 0 ≤ (x77_6 : Int) := xO; have q234 : x77_6 < (x11_41.length : Int) := xO; obtain ⟨ad234, e234, hx234_0⟩ := Kd.at_int HR_11.out x77_6 p234 q234
                   cases e234
                   (first | replace hx234_0 := xR HB hx234_0 | skip); replace p234 := eq_true p234; replace q234 := eq_true q234
                   go_wp2
                   go_roundg k6
                   case measure => have := HJ4.out; have := HJ23.out; have := HK3.out; have := HK4.out; have := HJ41.out; have := HK6.out; omega
                   case rel => exact ⟨(false), (wrap64 (x77_6 + 1)), (xrf), (xrf), H', ⟨by have := HJ4.out; have := HJ23.out; have := HK3.out; have := HK4.out; have := HJ41.out; have := HK6.out; omega⟩, ⟨xK BK227⟩, ⟨xK BK228⟩, ⟨xW HB⟩⟩
                 ·rw [if_neg c47] at H; have c47b0 := decide_eq_false c47; clear c47; have H' := xm H; clear H
                  go_wp2
                  go_roundg k6
                  case measure => have := HJ4.out; have := HJ23.out; have := HK3.out; have := HK4.out; have := HJ41.out; have := HK6.out; omega
                  case rel => exact ⟨(x7_6), (wrap64 (x72_4 + 1)), (xrf), (xrf), H', ⟨by have := HJ4.out; have := HJ23.out; have := HK3.out; have := HK4.out; have := HJ41.out; have := HK6.out; omega⟩, ⟨xK BK227⟩, ⟨xK BK228⟩, ⟨xW HB⟩⟩
            ·rw [if_neg c41] at H; have c41b0 := decide_eq_false c41; clear c41
             by_cases c52 : x7_4 = true
             ·subst c52; rw [if_pos rfl] at H; obtain rfl := Option.some.inj H
              go_wp2
              go_ret; exact ⟨xer, xW HB⟩
             ·obtain rfl := Bool.eq_false_iff.mpr c52; rw [if_neg xF] at H; obtain rfl := Option.some.inj H
              go_wp2
              go_ret; exact ⟨xer, xW HB⟩
 ·rw [if_neg c4] at H; have c4b0 := beq_eq_false_iff_ne.mpr c4; have c4b1 := bne_iff_ne.mpr c4; obtain rfl := Option.some.inj H; go_enter Tryd.func8, Tryd.ntmps8; go_wp2_with (first | ((with_reducible refine gate_dst (N := 2) rfl ?_); (try (refine gate_guard (by rfl) ?_; dsimp only)); refine xG (cs := #[.string a0_0, .int .i64 a0_1, .int .i64 a0_2, .slice A0_3 l0_3.length c0_3, .slice A0_4 l0_4.length c0_4, .bool a0_5, .bool a0_6, .slice A0_7 l0_7.length c0_7, .int .i64 a0_8, .int .i64 a0_9, .int .i64 a0_10]) (t := 26) ?_; intro gb227 hg w53 hbox hb; have BK227 := xm (hbox); have GW227 := xZ HB hg; have GE227 := xZ HB hg; replace HB := xS HB hb; clear hb hbox hg) | ((with_reducible refine gate_dst (N := 3) rfl ?_); (try (refine gate_guard (by rfl) ?_; dsimp only)); refine xG (cs := #[.slice A1_0 l1_0.length c1_0, .slice A1_1 l1_1.length c1_1, .slice A1_2 l1_2.length c1_2, .int .i64 a1_3, .int .i64 a1_4]) (t := 29) ?_; intro gb228 hg w54 hbox hb; have BK228 := xm (hbox); have GW228 := xZ HB hg; have GE228 := xZ HB hg; have NB227_228 := xN BK227 hg; have NB228_227 := xM BK227 hg; replace BK227 := xB BK227 hb; replace HB := xS HB hb; clear hb hbox hg; have hnb55 := NB227_228.out; have hnc55 := NB228_227.out; have hcz56_0 := blkc11 BK227.out) | ((with_reducible refine gate_callee (f := 10) rfl ?_); refine xL (some 15) Tryd.func10 #[.agg #[.string a0_0, .int .i64 a0_1, .int .i64 a0_2, .slice A0_3 l0_3.length c0_3, .slice A0_4 l0_4.length c0_4, .bool a0_5, .bool a0_6, .slice A0_7 l0_7.length c0_7, .int .i64 a0_8, .int .i64 a0_9, .int .i64 a0_10]] rfl ?_; (with_reducible refine (DA3.out _ ?sB).mono ?_); (case sB => exact xW HB); rintro e w57 ⟨rfl, hb⟩; refine ⟨_, rfl, ?_⟩; replace BK227 := xB BK227 hb; replace BK228 := xB BK228 hb; replace HB := xS HB hb; (try clear hb); (try clear hb2); (try clear hk); (try clear hi))); go_ret; exact ⟨xer, xW HB⟩

/-! ### gamehallref1_Dec: function 20 -/
def gamehallref1_Dec.f : Nat → Int → Option (ByteArray)
  | 0, _ => none
  | k + 1, a0 => if a0 < 0 then ((gamehallref1_Dec.f k (wrap64 (-a0))).bind fun t236 => (if 1 + t236.size ≤ 9223372036854775807 then (some ((⟨#[45]⟩ : ByteArray) ++ t236)) else (none))) else (if a0 > 9 then ((gamehallref1_Dec.f k (wrap64 (Int.tdiv a0 10))).bind fun t237 => ((gamehallref1_Dec.f k (Int.tmod a0 10)).bind fun t238 => (if t237.size + t238.size ≤ 9223372036854775807 then (some (t237 ++ t238)) else (none)))) else (if 0 ≤ a0 then (if a0 ≤ (wrap64 (a0 + 1)) then (if (wrap64 (a0 + 1)) ≤ 10 then (some ((⟨#[48, 49, 50, 51, 52, 53, 54, 55, 56, 57]⟩ : ByteArray).extract (a0 : Int).toNat ((wrap64 (a0 + 1)) : Int).toNat)) else (none)) else (none)) else (none)))
theorem gamehallref1_Dec.mono_l : ∀ k, LM (LeO) (gamehallref1_Dec.f k) (gamehallref1_Dec.f (k + 1))
  | 0 => by (repeat (first | exact LeO.none _ | intro _))
  | k + 1 => by
    have ih0 := gamehallref1_Dec.mono_l k
    ((repeat (first | (with_reducible refine LeO.st ?_) | intro _)); constructor; (first | unfold gamehallref1_Dec.f); repeat' first | (with_reducible first | apply ih0 | exact LeO.refl _ | exact LeO.none _ | refine LeO.ite ?_ ?_ | refine LeO.bind ?_ (fun _ => ?_)) | apply ih0 | exact LeO.none _ | refine LeO.ite ?_ ?_ | refine LeO.bind ?_ (fun _ => ?_))
theorem gamehallref1_Dec.mono : ∀ a0 k, LeO (gamehallref1_Dec.f k a0) (gamehallref1_Dec.f (k + 1) a0) := by
  intro a0 k; have ih0 := gamehallref1_Dec.mono_l k; exact ih0 a0
theorem gamehallref1_Dec.calls (k : Nat) : ∀ (a0 : Int) (r : ByteArray) (w : World) (h : gamehallref1_Dec.f k a0 = some r),
    Calls Tryd.prog 20 #[.int .i64 a0] w fun e w' => e = .returned (.string r) ∧ Drawn0 w w' := by
 induction k using Nat.strongRecOn with
 | _ k ih =>
 intro a0 r w h
 cases k with
 | zero => exact absurd h (by simp [gamehallref1_Dec.f])
 | succ k =>
 simp only [gamehallref1_Dec.f] at h; have H : (if a0 < 0 then ((gamehallref1_Dec.f k (wrap64 (-a0))).bind fun t236 => (if 1 + t236.size ≤ 9223372036854775807 then (some ((⟨#[45]⟩ : ByteArray) ++ t236)) else (none))) else (if a0 > 9 then ((gamehallref1_Dec.f k (wrap64 (Int.tdiv a0 10))).bind fun t237 => ((gamehallref1_Dec.f k (Int.tmod a0 10)).bind fun t238 => (if t237.size + t238.size ≤ 9223372036854775807 then (some (t237 ++ t238)) else (none)))) else (if 0 ≤ a0 then (if a0 ≤ (wrap64 (a0 + 1)) then (if (wrap64 (a0 + 1)) ≤ 10 then (some ((⟨#[48, 49, 50, 51, 52, 53, 54, 55, 56, 57]⟩ : ByteArray).extract (a0 : Int).toNat ((wrap64 (a0 + 1)) : Int).toNat)) else (none)) else (none)) else (none)))) = some r := h; clear h
 by_cases c2 : a0 < 0
 ·rw [if_pos c2] at H; have c2b0 := decide_eq_true c2; clear c2; obtain ⟨t236, A3, H⟩ := xH H; (try dsimp only at H); obtain ⟨c4, H⟩ := xI H; have c4b0 := eq_true c4; have c4b1 := decide_eq_true c4; try have c4b2 : (9223372036854775807 < 1 + t236.size) = False := eq_false (Nat.not_lt.2 c4)
  obtain rfl := Option.some.inj H; go_enter Tryd.func20, Tryd.ntmps20; go_wp2_with (first | ((with_reducible refine gate_callee (f := 20) rfl ?_); refine xL (some 7) Tryd.func20 #[.int .i64 (wrap64 (-a0))] rfl ?_; (with_reducible refine (ih k (by omega) (wrap64 (-a0)) t236 _ A3.out).mono ?_); rintro e w' ⟨rfl, ⟨nd, rfl⟩⟩; refine ⟨_, rfl, ?_⟩)); go_ret; exact ⟨xrf, by repeat (first | exact Drawn0.refl _ | apply Drawn0.step)⟩
 ·rw [if_neg c2] at H; have c2b0 := decide_eq_false c2; clear c2
  by_cases c5 : a0 > 9
  ·rw [if_pos c5] at H; have c5b0 := decide_eq_true c5; clear c5; obtain ⟨t237, A6, H⟩ := xH H; (try dsimp only at H); replace H := Option.bind_eq_some_iff.mp H; obtain ⟨t238, A70, H⟩ := H; replace H : (if t237.size + t238.size ≤ 9223372036854775807 then (some (t237 ++ t238)) else (none)) = some r := H; have A7 := xm A70; clear A70; obtain ⟨c8, H⟩ := xI H; have c8b0 := eq_true c8; have c8b1 := decide_eq_true c8; try have c8b2 : (9223372036854775807 < t237.size + t238.size) = False := eq_false (Nat.not_lt.2 c8)
   obtain rfl := Option.some.inj H; go_enter Tryd.func20, Tryd.ntmps20; go_wp2_with (first | ((with_reducible refine gate_callee (f := 20) rfl ?_); refine xL (some 13) Tryd.func20 #[.int .i64 (wrap64 (Int.tdiv a0 10))] rfl ?_; (with_reducible refine (ih k (by omega) (wrap64 (Int.tdiv a0 10)) t237 _ A6.out).mono ?_); rintro e w' ⟨rfl, ⟨nd, rfl⟩⟩; refine ⟨_, rfl, ?_⟩) | ((with_reducible refine gate_callee (f := 20) rfl ?_); refine xL (some 16) Tryd.func20 #[.int .i64 (Int.tmod a0 10)] rfl ?_; (with_reducible refine (ih k (by omega) (Int.tmod a0 10) t238 _ A7.out).mono ?_); rintro e w' ⟨rfl, ⟨nd, rfl⟩⟩; refine ⟨_, rfl, ?_⟩)); go_ret; exact ⟨xrf, by repeat (first | exact Drawn0.refl _ | apply Drawn0.step)⟩
  ·rw [if_neg c5] at H; have c5b0 := decide_eq_false c5; clear c5; obtain ⟨c9, H⟩ := xI H; have c9b0 := eq_true c9; have c9b1 := decide_eq_true c9; clear c9; obtain ⟨c10, H⟩ := xI H; have c10b0 := eq_true c10; have c10b1 := decide_eq_true c10; obtain ⟨c11, H⟩ := xI H; have c11b0 := eq_true c11; have c11b1 := decide_eq_true c11; obtain rfl := Option.some.inj H; go_enter Tryd.func20, Tryd.ntmps20
   go_wp2
   go_ret; exact ⟨xrf, by repeat (first | exact Drawn0.refl _ | apply Drawn0.step)⟩

/-! ### gamehallref1_Letter: function 21 -/
def gamehallref1_Letter.f (a0_0 : ByteArray) (a0_1 : Int) (a0_2 : Int) (l0_3 : List (S44)) (l0_4 : List Int) (a0_5 : Bool) (a0_6 : Bool) (l0_7 : List (S46)) (a0_8 : Int) (a0_9 : Int) (a0_10 : Int) (a1 : Int) : Option (ByteArray) := if 0 ≤ (wrap64 (Int.tdiv (wrap64 (a1 - 1)) 2)) then (if (wrap64 (Int.tdiv (wrap64 (a1 - 1)) 2)) < (l0_3.length : Int) then (if (Int.tmod a1 2) = 0 then (some (strOfNums (([(((rd_T44 l0_3 (wrap64 (Int.tdiv (wrap64 (a1 - 1)) 2))).f0) + 32) % 256] : List Int)))) else (some (strOfNums (([(rd_T44 l0_3 (wrap64 (Int.tdiv (wrap64 (a1 - 1)) 2))).f0] : List Int))))) else (none)) else (none)
theorem gamehallref1_Letter.calls (a0_0 : ByteArray) (a0_1 : Int) (a0_2 : Int) (A0_3 : Option Addr) (c0_3 : Nat) (l0_3 : List (S44)) (A0_4 : Option Addr) (c0_4 : Nat) (l0_4 : List Int) (a0_5 : Bool) (a0_6 : Bool) (A0_7 : Option Addr) (c0_7 : Nat) (l0_7 : List (S46)) (a0_8 : Int) (a0_9 : Int) (a0_10 : Int) (a1 : Int) (r : ByteArray) (w : World) (hr0_3 : Kd.C k44 w A0_3 l0_3.length l0_3) (hc0_3 : l0_3.length ≤ c0_3) (hr0_4 : Kd.C (Kd.int .i64) w A0_4 l0_4.length l0_4) (hc0_4 : l0_4.length ≤ c0_4) (hr0_7 : Kd.C k46 w A0_7 l0_7.length l0_7) (hc0_7 : l0_7.length ≤ c0_7) (h : gamehallref1_Letter.f a0_0 a0_1 a0_2 l0_3 l0_4 a0_5 a0_6 l0_7 a0_8 a0_9 a0_10 a1 = some r) :
    Calls Tryd.prog 21 #[.agg #[.string a0_0, .int .i64 a0_1, .int .i64 a0_2, .slice A0_3 l0_3.length c0_3, .slice A0_4 l0_4.length c0_4, .bool a0_5, .bool a0_6, .slice A0_7 l0_7.length c0_7, .int .i64 a0_8, .int .i64 a0_9, .int .i64 a0_10], .int .i64 a1] w fun e w' => e = .returned (.string r) ∧ Below w.heap.size w w' := by
 have hu26 := Tryd.underlying26; have HR0_3 := xm hr0_3; have HC0_3 := xm hc0_3; clear hr0_3 hc0_3; have HR0_4 := xm hr0_4; have HC0_4 := xm hc0_4; clear hr0_4 hc0_4; have HR0_7 := xm hr0_7; have HC0_7 := xm hc0_7; clear hr0_7 hc0_7; have HB := xm (Below.refl w.heap.size w); have hss_ := @isSome_setCell; have H : (if 0 ≤ (wrap64 (Int.tdiv (wrap64 (a1 - 1)) 2)) then (if (wrap64 (Int.tdiv (wrap64 (a1 - 1)) 2)) < (l0_3.length : Int) then (if (Int.tmod a1 2) = 0 then (some (strOfNums (([(((rd_T44 l0_3 (wrap64 (Int.tdiv (wrap64 (a1 - 1)) 2))).f0) + 32) % 256] : List Int)))) else (some (strOfNums (([(rd_T44 l0_3 (wrap64 (Int.tdiv (wrap64 (a1 - 1)) 2))).f0] : List Int))))) else (none)) else (none)) = some r := h; clear h; obtain ⟨ji3, hji3⟩ : ∃ j_ : Int, (wrap64 (Int.tdiv (wrap64 (a1 - 1)) 2)) = j_ := ⟨_, rfl⟩
 (first | rw [hji3] at H | simp only [hji3] at H)
 have hji3w : (IntKind.i64.wrap (Int.tdiv (wrap64 (a1 - 1)) 2)) = ji3 := (i64_w _).trans hji3; obtain ⟨c4b0, H⟩ := xJ H; obtain ⟨c5b0, H⟩ := xJ H
 by_cases c6 : (Int.tmod a1 2) = 0
 ·rw [if_pos c6] at H; have c6b0 := beq_iff_eq.mpr c6; have c6b1 := bne_eq_false_iff_eq.mpr c6; clear c6; obtain ⟨y241, hy241⟩ : ∃ y_ : List Int, y_ = (([(((rd_T44 l0_3 (ji3)).f0) + 32) % 256] : List Int)) := ⟨_, rfl⟩
  replace H : (some (strOfNums y241)) = some r := by first | (rw [hy241]; with_reducible exact H) | (have H2_ := (Option.bind_some _ _).symm.trans H; rw [hy241]; with_reducible exact H2_) | (have H2_ := (Option.bind_some _ _).symm.trans H; with_reducible exact H2_) | with_reducible exact H | (rw [hy241]; exact H) | exact H
  have Ny241 := xm hy241; clear hy241; obtain rfl := Option.some.inj H; go_enter Tryd.func21, Tryd.ntmps21; go_wp2_with (first | ((with_reducible refine gate_dst (N := 2) rfl ?_); refine xG (cs := #[.string a0_0, .int .i64 a0_1, .int .i64 a0_2, .slice A0_3 l0_3.length c0_3, .slice A0_4 l0_4.length c0_4, .bool a0_5, .bool a0_6, .slice A0_7 l0_7.length c0_7, .int .i64 a0_8, .int .i64 a0_9, .int .i64 a0_10]) (t := 26) ?_; intro gb239 hg w7 hbox hb; have BK239 := xm (hbox); have GW239 := xZ HB hg; have GE239 := xZ HB hg; replace HB := xS HB hb; clear hb hbox hg; have hcz8_0 := blkc11 BK239.out; have p240 : 0 ≤ ((ji3) : Int) := xO; have q240 : (ji3) < (l0_3.length : Int) := xO; obtain ⟨ad240, A240_3, c240_3, e240, hx240_0, hx240_1, hx240_2, hx240_3, hl240_3, hi240_3⟩ := at_T44 HR0_3.out (ji3) p240 q240; cases e240; (first | replace hx240_0 := xR HB hx240_0 | skip); (first | replace hx240_1 := xR HB hx240_1 | skip); (first | replace hx240_2 := xR HB hx240_2 | skip); (first | replace hx240_3 := xR HB hx240_3 | skip); have HR240_3 := xm hi240_3; have HC240_3 := xm hl240_3; clear hi240_3 hl240_3; replace p240 := eq_true p240; replace q240 := eq_true q240) | ((with_reducible refine gate_dst (N := 20) rfl ?_); refine Kd.R_lit (Kd.int .u8) _ 5 ?hg (N := 20) ?hd (xs := ([(((rd_T44 l0_3 (ji3)).f0) + 32) % 256] : List Int)) (inner := [.int .u8 ((((rd_T44 l0_3 (ji3)).f0) + 32) % 256)]) (ok := fun _ => True) (okp := fun _ => True) ?hr ?hp (fun _ hk => hk) trivial (Below.refl _ _) (Nat.le_refl _) (by simp) ?_; (case hd => rfl); (case hg => rfl); (case hr => first | (go_simp; done) | (go_simp; rfl)); (case hp => exact (Reps.one (show Kd.M (Kd.int .u8) _ _ _ ((((rd_T44 l0_3 (ji3)).f0) + 32) % 256) [.int .u8 ((((rd_T44 l0_3 (ji3)).f0) + 32) % 256)] from rfl) (Reps.none _ _))); intro v242 w9 ho10 hb hg_ hnew_; clear hg_ hnew_; (first | rw [← Ny241.out] at ho10 | (simp only [Int.reduceToNat] at ho10; rw [← Ny241.out] at ho10)); have HO243 := xm (Kd.R_lower ho10 (below_size (xW HB))); replace BK239 := xB BK239 hb; replace HB := xS HB hb; clear hb ho10; have hcv11 := own_string (P := Tryd.prog) Tryd.underlying53 Tryd.underlying5 Tryd.underlying9 (Kd.own_of_R HO243.out))); go_ret; exact ⟨by first | rfl | (simp [errW_none, errW_some] <;> rfl) | (simp only [← hji3]; first | rfl | (simp [errW_none, errW_some] <;> rfl)) | (simp [*, errW_none, errW_some] <;> rfl), xW HB⟩
 ·rw [if_neg c6] at H; have c6b0 := beq_eq_false_iff_ne.mpr c6; have c6b1 := bne_iff_ne.mpr c6; obtain ⟨y244, hy244⟩ : ∃ y_ : List Int, y_ = (([(rd_T44 l0_3 (ji3)).f0] : List Int)) := ⟨_, rfl⟩
  replace H : (some (strOfNums y244)) = some r := by first | (rw [hy244]; with_reducible exact H) | (have H2_ := (Option.bind_some _ _).symm.trans H; rw [hy244]; with_reducible exact H2_) | (have H2_ := (Option.bind_some _ _).symm.trans H; with_reducible exact H2_) | with_reducible exact H | (rw [hy244]; exact H) | exact H
  have Ny244 := xm hy244; clear hy244; obtain rfl := Option.some.inj H; go_enter Tryd.func21, Tryd.ntmps21; go_wp2_with (first | ((with_reducible refine gate_dst (N := 2) rfl ?_); refine xG (cs := #[.string a0_0, .int .i64 a0_1, .int .i64 a0_2, .slice A0_3 l0_3.length c0_3, .slice A0_4 l0_4.length c0_4, .bool a0_5, .bool a0_6, .slice A0_7 l0_7.length c0_7, .int .i64 a0_8, .int .i64 a0_9, .int .i64 a0_10]) (t := 26) ?_; intro gb239 hg w12 hbox hb; have BK239 := xm (hbox); have GW239 := xZ HB hg; have GE239 := xZ HB hg; replace HB := xS HB hb; clear hb hbox hg; have hcz13_0 := blkc11 BK239.out; have p240 : 0 ≤ ((ji3) : Int) := xO; have q240 : (ji3) < (l0_3.length : Int) := xO; obtain ⟨ad240, A240_3, c240_3, e240, hx240_0, hx240_1, hx240_2, hx240_3, hl240_3, hi240_3⟩ := at_T44 HR0_3.out (ji3) p240 q240; cases e240; (first | replace hx240_0 := xR HB hx240_0 | skip); (first | replace hx240_1 := xR HB hx240_1 | skip); (first | replace hx240_2 := xR HB hx240_2 | skip); (first | replace hx240_3 := xR HB hx240_3 | skip); have HR240_3 := xm hi240_3; have HC240_3 := xm hl240_3; clear hi240_3 hl240_3; replace p240 := eq_true p240; replace q240 := eq_true q240) | ((with_reducible refine gate_dst (N := 20) rfl ?_); refine Kd.R_lit (Kd.int .u8) _ 5 ?hg (N := 20) ?hd (xs := ([(rd_T44 l0_3 (ji3)).f0] : List Int)) (inner := [.int .u8 ((rd_T44 l0_3 (ji3)).f0)]) (ok := fun _ => True) (okp := fun _ => True) ?hr ?hp (fun _ hk => hk) trivial (Below.refl _ _) (Nat.le_refl _) (by simp) ?_; (case hd => rfl); (case hg => rfl); (case hr => first | (go_simp; done) | (go_simp; rfl)); (case hp => exact (Reps.one (show Kd.M (Kd.int .u8) _ _ _ ((rd_T44 l0_3 (ji3)).f0) [.int .u8 ((rd_T44 l0_3 (ji3)).f0)] from rfl) (Reps.none _ _))); intro v245 w14 ho15 hb hg_ hnew_; clear hg_ hnew_; (first | rw [← Ny244.out] at ho15 | (simp only [Int.reduceToNat] at ho15; rw [← Ny244.out] at ho15)); have HO246 := xm (Kd.R_lower ho15 (below_size (xW HB))); replace BK239 := xB BK239 hb; replace HB := xS HB hb; clear hb ho15; have hcv16 := own_string (P := Tryd.prog) Tryd.underlying53 Tryd.underlying5 Tryd.underlying9 (Kd.own_of_R HO246.out))); go_ret; exact ⟨by first | rfl | (simp [errW_none, errW_some] <;> rfl) | (simp only [← hji3]; first | rfl | (simp [errW_none, errW_some] <;> rfl)) | (simp [*, errW_none, errW_some] <;> rfl), xW HB⟩

end Go.Proofs.YtloadbbndnmdlaaDoor.PPlaceChecks
