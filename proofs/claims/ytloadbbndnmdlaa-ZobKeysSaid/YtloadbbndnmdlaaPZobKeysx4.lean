-- Printed by a program of this claim's writer (wip/ext): an extension of the kit's print.
import Derived.Test.YtloadbbndnmdlaaPZobKeysx0
import Derived.Test.YtloadbbndnmdlaaPZobKeysx2
import Derived.Test.YtloadbbndnmdlaaPZobKeysx3
namespace Go.Proofs.Ytloadbbndnmdlaa.PZobKeys
open Go.RowKit Go.Proofs.YtloadbbndnmdlaaW.PrintWords Go.Proofs.YtloadbbndnmdlaaW.PrintLast Go.Proofs.YtloadbbndnmdlaaW.PrintMore
set_option maxHeartbeats 8000000
set_option maxRecDepth 100000
attribute [local go_sem] max2_int min2_int max_two min_two max_three min_three max_four min_four   -- for this text's walks alone
set_option linter.unusedVariables false
set_option linter.unusedSimpArgs false

/-! ### gamehallref1_PlaceError: function 10 -/
mutual
def gamehallref1_PlaceError.j0 : Nat → Int → Bool → List Int → List Int → List Int → Int → Int → Option (Int)
  | 0, _, _, _, _, _, _, _ => none
  | k + 1, x6, x46, z155a, z155b, z155c, z155d, z155e => if x46 = true then (some 3) else ((gamehallref1_In.f z155d 0 1).bind fun t156 => (if t156 = true then ((gamehallref1_In.f z155e 0 200).bind fun t157 => (gamehallref1_PlaceError.j1 k x6 t157 z155a z155b z155c z155d z155e)) else (gamehallref1_PlaceError.j1 k x6 false z155a z155b z155c z155d z155e)))
def gamehallref1_PlaceError.j1 : Nat → Int → Bool → List Int → List Int → List Int → Int → Int → Option (Int)
  | 0, _, _, _, _, _, _, _ => none
  | k + 1, x6, x7, z155a, z155b, z155c, z155d, z155e => gamehallref1_PlaceError.l0 k x6 x7 z155a (z155a.length : Int) 0 z155a z155b z155c z155d z155e
def gamehallref1_PlaceError.l0 : Nat → Int → Bool → List Int → Int → Int → List Int → List Int → List Int → Int → Int → Option (Int)
  | 0, _, _, _, _, _, _, _, _, _, _ => none
  | k + 1, x6, x7, x56, x57, x58, z155a, z155b, z155c, z155d, z155e => if x58 < x57 then (if 0 ≤ x58 then (if x58 < (x56.length : Int) then (if x7 = true then ((gamehallref1_In.f (rd x56 x58) 0 (wrap64 (2 * x6))).bind fun t159 => (gamehallref1_PlaceError.l0 k x6 t159 x56 x57 (wrap64 (x58 + 1)) z155a z155b z155c z155d z155e)) else (gamehallref1_PlaceError.l0 k x6 false x56 x57 (wrap64 (x58 + 1)) z155a z155b z155c z155d z155e)) else (none)) else (none)) else (gamehallref1_PlaceError.l1 k x7 0 z155b z155c)
def gamehallref1_PlaceError.l1 : Nat → Bool → Int → List Int → List Int → Option (Int)
  | 0, _, _, _, _ => none
  | k + 1, x7, x72, x90, x91 => if x72 < 2 then (if 0 ≤ x72 then (if x72 = 0 then (gamehallref1_PlaceError.j4 k x7 x90 x72 x90 x91) else (gamehallref1_PlaceError.j4 k x7 x91 x72 x90 x91)) else (none)) else (if x7 = true then (some 0) else (some 4))
def gamehallref1_PlaceError.j4 : Nat → Bool → List Int → Int → List Int → List Int → Option (Int)
  | 0, _, _, _, _, _ => none
  | k + 1, x7, x11, x72, x90, x91 => gamehallref1_PlaceError.l2 k x7 x72 x11 (x11.length : Int) 0 x90 x91
def gamehallref1_PlaceError.l2 : Nat → Bool → Int → List Int → Int → Int → List Int → List Int → Option (Int)
  | 0, _, _, _, _, _, _, _ => none
  | k + 1, x7, x72, x75, x76, x77, x90, x91 => if x77 < x76 then (if 0 ≤ x77 then (if x77 < (x75.length : Int) then (if x7 = true then ((gamehallref1_In.f (rd x75 x77) 0 1000).bind fun t161 => (gamehallref1_PlaceError.l2 k t161 x72 x75 x76 (wrap64 (x77 + 1)) x90 x91)) else (gamehallref1_PlaceError.l2 k false x72 x75 x76 (wrap64 (x77 + 1)) x90 x91)) else (none)) else (none)) else (gamehallref1_PlaceError.l1 k x7 (wrap64 (x72 + 1)) x90 x91)
end
def gamehallref1_PlaceError.f (k : Nat) (a0_0 : ByteArray) (a0_1 : Int) (a0_2 : Int) (l0_3 : List (S62)) (l0_4 : List Int) (a0_5 : Bool) (a0_6 : Bool) (l0_7 : List (S64)) (a0_8 : Int) (a0_9 : Int) (a0_10 : Int) (l1_0 : List Int) (l1_1 : List Int) (l1_2 : List Int) (a1_3 : Int) (a1_4 : Int) : Option (Int) := (gamehallref1_RulesError.f k a0_0 a0_1 a0_2 l0_3 l0_4 a0_5 a0_6 l0_7 a0_8 a0_9 a0_10).bind fun t155 => (if t155 = 0 then (if (l1_0.length : Int) = (wrap64 (a0_1 * a0_2)) then (if (l1_1.length : Int) = (l0_3.length : Int) then (gamehallref1_PlaceError.j0 k (l0_3.length : Int) ((l1_2.length : Int) != (l0_3.length : Int)) l1_0 l1_1 l1_2 a1_3 a1_4) else (gamehallref1_PlaceError.j0 k (l0_3.length : Int) true l1_0 l1_1 l1_2 a1_3 a1_4)) else (gamehallref1_PlaceError.j0 k (l0_3.length : Int) true l1_0 l1_1 l1_2 a1_3 a1_4)) else (some t155))
theorem gamehallref1_PlaceError.mono_l : ∀ k, L5 (LM (LM (LeO))) (gamehallref1_PlaceError.j0 k) (gamehallref1_PlaceError.j0 (k + 1)) ∧ L5 (LM (LM (LeO))) (gamehallref1_PlaceError.j1 k) (gamehallref1_PlaceError.j1 (k + 1)) ∧ L10 (LeO) (gamehallref1_PlaceError.l0 k) (gamehallref1_PlaceError.l0 (k + 1)) ∧ LM (LM (LM (LM (LeO)))) (gamehallref1_PlaceError.l1 k) (gamehallref1_PlaceError.l1 (k + 1)) ∧ L5 (LeO) (gamehallref1_PlaceError.j4 k) (gamehallref1_PlaceError.j4 (k + 1)) ∧ L5 (LM (LM (LeO))) (gamehallref1_PlaceError.l2 k) (gamehallref1_PlaceError.l2 (k + 1))
  | 0 => by refine ⟨?_, ?_, ?_, ?_, ?_, ?_⟩ <;> (repeat (first | exact LeO.none _ | intro _))
  | k + 1 => by
    obtain ⟨ih0, ih1, ih2, ih3, ih4, ih5⟩ := gamehallref1_PlaceError.mono_l k
    refine ⟨?_, ?_, ?_, ?_, ?_, ?_⟩ <;> ((repeat (first | (with_reducible refine LeO.st ?_) | intro _)); constructor; (first | unfold gamehallref1_PlaceError.j0 | unfold gamehallref1_PlaceError.j1 | unfold gamehallref1_PlaceError.l0 | unfold gamehallref1_PlaceError.l1 | unfold gamehallref1_PlaceError.j4 | unfold gamehallref1_PlaceError.l2); repeat' first | (with_reducible first | apply ih0 | apply ih1 | apply ih2 | apply ih3 | apply ih4 | apply ih5 | apply gamehallref1_RulesError.mono | exact LeO.refl _ | exact LeO.none _ | refine LeO.ite ?_ ?_ | refine LeO.bind ?_ (fun _ => ?_)) | apply ih0 | apply ih1 | apply ih2 | apply ih3 | apply ih4 | apply ih5 | apply gamehallref1_RulesError.mono | exact LeO.none _ | refine LeO.ite ?_ ?_ | refine LeO.bind ?_ (fun _ => ?_))
theorem gamehallref1_PlaceError.mono : ∀ a0 a1 a2 a3 a4 a5 a6 a7 a8 a9 a10 a11 a12 a13 a14 a15 k, LeO (gamehallref1_PlaceError.f k a0 a1 a2 a3 a4 a5 a6 a7 a8 a9 a10 a11 a12 a13 a14 a15) (gamehallref1_PlaceError.f (k + 1) a0 a1 a2 a3 a4 a5 a6 a7 a8 a9 a10 a11 a12 a13 a14 a15) := by
  intros; rename_i k
  obtain ⟨ih0, ih1, ih2, ih3, ih4, ih5⟩ := gamehallref1_PlaceError.mono_l k
  unfold gamehallref1_PlaceError.f
  repeat' first | (with_reducible first | apply ih0 | apply ih1 | apply ih2 | apply ih3 | apply ih4 | apply ih5 | apply gamehallref1_RulesError.mono | exact LeO.refl _ | exact LeO.none _ | refine LeO.ite ?_ ?_ | refine LeO.bind ?_ (fun _ => ?_)) | apply ih0 | apply ih1 | apply ih2 | apply ih3 | apply ih4 | apply ih5 | apply gamehallref1_RulesError.mono | exact LeO.none _ | refine LeO.ite ?_ ?_ | refine LeO.bind ?_ (fun _ => ?_)
theorem gamehallref1_PlaceError.calls (k : Nat) (a0_0 : ByteArray) (a0_1 : Int) (a0_2 : Int) (A0_3 : Option Addr) (c0_3 : Nat) (l0_3 : List (S62)) (A0_4 : Option Addr) (c0_4 : Nat) (l0_4 : List Int) (a0_5 : Bool) (a0_6 : Bool) (A0_7 : Option Addr) (c0_7 : Nat) (l0_7 : List (S64)) (a0_8 : Int) (a0_9 : Int) (a0_10 : Int) (A1_0 : Option Addr) (c1_0 : Nat) (l1_0 : List Int) (A1_1 : Option Addr) (c1_1 : Nat) (l1_1 : List Int) (A1_2 : Option Addr) (c1_2 : Nat) (l1_2 : List Int) (a1_3 : Int) (a1_4 : Int) (r : Int) (w : World) (hr0_3 : Kd.C k62 w A0_3 l0_3.length l0_3) (hc0_3 : l0_3.length ≤ c0_3) (hr0_4 : Kd.C (Kd.int .i64) w A0_4 l0_4.length l0_4) (hc0_4 : l0_4.length ≤ c0_4) (hr0_7 : Kd.C k64 w A0_7 l0_7.length l0_7) (hc0_7 : l0_7.length ≤ c0_7) (hr1_0 : Kd.C (Kd.int .i64) w A1_0 l1_0.length l1_0) (hc1_0 : l1_0.length ≤ c1_0) (hr1_1 : Kd.C (Kd.int .i64) w A1_1 l1_1.length l1_1) (hc1_1 : l1_1.length ≤ c1_1) (hr1_2 : Kd.C (Kd.int .i64) w A1_2 l1_2.length l1_2) (hc1_2 : l1_2.length ≤ c1_2) (h : gamehallref1_PlaceError.f k a0_0 a0_1 a0_2 l0_3 l0_4 a0_5 a0_6 l0_7 a0_8 a0_9 a0_10 l1_0 l1_1 l1_2 a1_3 a1_4 = some r) :
    Calls Try.prog 10 #[.agg #[.string a0_0, .int .i64 a0_1, .int .i64 a0_2, .slice A0_3 l0_3.length c0_3, .slice A0_4 l0_4.length c0_4, .bool a0_5, .bool a0_6, .slice A0_7 l0_7.length c0_7, .int .i64 a0_8, .int .i64 a0_9, .int .i64 a0_10], .agg #[.slice A1_0 l1_0.length c1_0, .slice A1_1 l1_1.length c1_1, .slice A1_2 l1_2.length c1_2, .int .i64 a1_3, .int .i64 a1_4]] w fun e w' => e = .returned (.int .i64 r) ∧ Below w.heap.size w w' := by
 have hu26 := Try.underlying26; have hu29 := Try.underlying29; have hu27 := Try.underlying27; have HR0_3 := xm hr0_3; have HC0_3 := xm hc0_3; clear hr0_3 hc0_3; have HR0_4 := xm hr0_4; have HC0_4 := xm hc0_4; clear hr0_4 hc0_4; have HR0_7 := xm hr0_7; have HC0_7 := xm hc0_7; clear hr0_7 hc0_7; have HR1_0 := xm hr1_0; have HC1_0 := xm hc1_0; clear hr1_0 hc1_0; have HR1_1 := xm hr1_1; have HC1_1 := xm hc1_1; clear hr1_1 hc1_1; have HR1_2 := xm hr1_2; have HC1_2 := xm hc1_2; clear hr1_2 hc1_2; have HB := xm (Below.refl w.heap.size w); have hss_ := @isSome_setCell
 have H : ((gamehallref1_RulesError.f k a0_0 a0_1 a0_2 l0_3 l0_4 a0_5 a0_6 l0_7 a0_8 a0_9 a0_10).bind fun t155 => (if t155 = 0 then (if (l1_0.length : Int) = (wrap64 (a0_1 * a0_2)) then (if (l1_1.length : Int) = (l0_3.length : Int) then (gamehallref1_PlaceError.j0 k (l0_3.length : Int) ((l1_2.length : Int) != (l0_3.length : Int)) l1_0 l1_1 l1_2 a1_3 a1_4) else (gamehallref1_PlaceError.j0 k (l0_3.length : Int) true l1_0 l1_1 l1_2 a1_3 a1_4)) else (gamehallref1_PlaceError.j0 k (l0_3.length : Int) true l1_0 l1_1 l1_2 a1_3 a1_4)) else (some t155))) = some r := h
 clear h; obtain ⟨t155, A3, H⟩ := xH H
 (try dsimp only at H); have DA3 := xm fun (W_ : World) (hb_ : Below w.heap.size w W_) => gamehallref1_RulesError.calls k a0_0 a0_1 a0_2 _ _ l0_3 _ _ l0_4 a0_5 a0_6 _ _ l0_7 a0_8 a0_9 a0_10 t155 W_ (Kd.C_below HR0_3.out hb_) HC0_3.out (Kd.C_below HR0_4.out hb_) HC0_4.out (Kd.C_below HR0_7.out hb_) HC0_7.out A3.out
 by_cases c4 : t155 = 0
 ·rw [if_pos c4] at H
  have c4b0 := beq_iff_eq.mpr c4
  have c4b1 := bne_eq_false_iff_eq.mpr c4
  clear c4; have HC5 := xm H; clear H
  go_enter Try.func10, Try.ntmps10
  go_upto_region 5 with (first | ((with_reducible refine gate_dst (N := 2) rfl ?_); (try (refine gate_guard (by rfl) ?_; dsimp only)); refine xG (cs := #[.string a0_0, .int .i64 a0_1, .int .i64 a0_2, .slice A0_3 l0_3.length c0_3, .slice A0_4 l0_4.length c0_4, .bool a0_5, .bool a0_6, .slice A0_7 l0_7.length c0_7, .int .i64 a0_8, .int .i64 a0_9, .int .i64 a0_10]) (t := 26) ?_; intro gb153 hg w6 hbox hb; have BK153 := xm (hbox); have GW153 := xm (xZ HB hg); have GE153 := xm (xZ HB hg); replace HB := xm (xS HB hb); clear hb hbox hg) | ((with_reducible refine gate_dst (N := 3) rfl ?_); (try (refine gate_guard (by rfl) ?_; dsimp only)); refine xG (cs := #[.slice A1_0 l1_0.length c1_0, .slice A1_1 l1_1.length c1_1, .slice A1_2 l1_2.length c1_2, .int .i64 a1_3, .int .i64 a1_4]) (t := 29) ?_; intro gb154 hg w7 hbox hb; have BK154 := xm (hbox); have GW154 := xm (xZ HB hg); have GE154 := xm (xZ HB hg); have NB153_154 := xm (xN BK153 hg); have NB154_153 := xm (xM BK153 hg); replace BK153 := xm (xB BK153 hb); replace HB := xm (xS HB hb); clear hb hbox hg; have hnb8 := NB153_154.out; have hnc8 := NB154_153.out; have hcz9_0 := blkc11 BK153.out) | ((with_reducible refine gate_callee (f := 28) rfl ?_); refine xL (some 15) Try.func28 #[.agg #[.string a0_0, .int .i64 a0_1, .int .i64 a0_2, .slice A0_3 l0_3.length c0_3, .slice A0_4 l0_4.length c0_4, .bool a0_5, .bool a0_6, .slice A0_7 l0_7.length c0_7, .int .i64 a0_8, .int .i64 a0_9, .int .i64 a0_10]] rfl ?_; (with_reducible refine (DA3.out _ ?sB).mono ?_); (case sB => exact xW HB); rintro e w10 ⟨rfl, hb⟩; refine ⟨_, rfl, ?_⟩; replace BK153 := xm (xB BK153 hb); replace BK154 := xm (xB BK154 hb); replace HB := xm (xS HB hb); (try clear hb); (try clear hb2); (try clear hk); (try clear hi); have hcz11_0 := blkc11 BK153.out))
  (try have hq154_153 := NB154_153.out); (try have hq153_154 := NB153_154.out)
  (try simp only [Act.put, List.setIfInBounds_toArray, List.set_cons_zero, List.set_cons_succ])
  go_cut [46] (fun vs46 wc => ∃ (kq : Nat) (x46_4 : Bool), vs46 = .bool x46_4 ∧ Aside0 (gamehallref1_PlaceError.j0 kq (l0_3.length : Int) x46_4 l1_0 l1_1 l1_2 a1_3 a1_4 = some r) ∧ Aside0 (kq ≤ k) ∧ Aside0 (wc.heap[gb153]? = some (.cells #[.string a0_0, .int .i64 a0_1, .int .i64 a0_2, (.slice A0_3 l0_3.length c0_3), (.slice A0_4 l0_4.length c0_4), .bool a0_5, .bool a0_6, (.slice A0_7 l0_7.length c0_7), .int .i64 a0_8, .int .i64 a0_9, .int .i64 a0_10] 26 (0, 0))) ∧ Aside0 (wc.heap[gb154]? = some (.cells #[(.slice A1_0 l1_0.length c1_0), (.slice A1_1 l1_1.length c1_1), (.slice A1_2 l1_2.length c1_2), .int .i64 a1_3, .int .i64 a1_4] 29 (0, 0))) ∧ Aside0 (Below w.heap.size w wc))
  case first =>
   have H := HC5.out; clear HC5
   by_cases c12 : (l1_0.length : Int) = (wrap64 (a0_1 * a0_2))
   ·rw [if_pos c12] at H
    have c12b0 := beq_iff_eq.mpr c12
    have c12b1 := bne_eq_false_iff_eq.mpr c12
    clear c12
    (first | rw [c12b0] | (simp only [i64_w, i32_w]; rw [c12b0]) | skip)
    by_cases c13 : (l1_1.length : Int) = (l0_3.length : Int)
    ·rw [if_pos c13] at H
     have c13b0 := beq_iff_eq.mpr c13
     have c13b1 := bne_eq_false_iff_eq.mpr c13
     have c13b2 : (l1_1.length == l0_3.length) = true := by first | simpa using c13 | (simp at c13 ⊢; omega)
     clear c13
     have H' := xm H
     clear H; have hcz15_0 := blkc5 BK154.out; have hcz16_0 := blkc11 BK153.out
     go_wp2
     go_meet
     case rel => exact ⟨_, (((l1_2.length : Int) != (l0_3.length : Int))), (xrf), H', ⟨by first | omega | exact Nat.le_refl _⟩, ⟨xK BK153⟩, ⟨xK BK154⟩, ⟨xW HB⟩⟩
    ·rw [if_neg c13] at H
     have c13b0 := beq_eq_false_iff_ne.mpr c13
     have c13b1 := bne_iff_ne.mpr c13
     have c13b2 : (l1_1.length == l0_3.length) = false := by first | simpa using c13 | (simp at c13 ⊢; omega)
     have H' := xm H
     clear H; have hcz18_0 := blkc5 BK154.out; have hcz19_0 := blkc11 BK153.out
     go_wp2
     go_meet
     case rel => exact ⟨_, (true), (xrf), H', ⟨by first | omega | exact Nat.le_refl _⟩, ⟨xK BK153⟩, ⟨xK BK154⟩, ⟨xW HB⟩⟩
   ·rw [if_neg c12] at H
    have c12b0 := beq_eq_false_iff_ne.mpr c12
    have c12b1 := bne_iff_ne.mpr c12
    (first | rw [c12b0] | (simp only [i64_w, i32_w]; rw [c12b0]) | skip)
    have H' := xm H
    clear H; have hcz21_0 := blkc5 BK154.out; have hcz22_0 := blkc11 BK153.out
    go_wp2
    go_meet
    case rel => exact ⟨_, (true), (xrf), H', ⟨by first | omega | exact Nat.le_refl _⟩, ⟨xK BK153⟩, ⟨xK BK154⟩, ⟨xW HB⟩⟩
  case rest =>
   clear HC5; (try clear p2); (try clear p6)
   obtain ⟨kq, x46_4, rfl, HA, HJ4, BK153, BK154, HB⟩ := hcut
   cases kq with
   | zero => exact absurd HA.out (by simp [gamehallref1_PlaceError.j0])
   | succ kj4 =>
    have H := HA.out; clear HA
    simp only [gamehallref1_PlaceError.j0] at H
    by_cases c23 : x46_4 = true
    ·subst c23
     rw [if_pos rfl] at H
     obtain rfl := Option.some.inj H
     go_wp2
     go_ret
     exact ⟨xer, xW HB⟩
    ·obtain rfl := Bool.eq_false_iff.mpr c23
     rw [if_neg xF] at H
     have HC24 := xm H; clear H
     go_upto_region 7 with (fail)
     go_cut [7] (fun vs7 wc => ∃ (kq : Nat) (x7_23 : Bool), vs7 = .bool x7_23 ∧ Aside0 (gamehallref1_PlaceError.j1 kq (l0_3.length : Int) x7_23 l1_0 l1_1 l1_2 a1_3 a1_4 = some r) ∧ Aside0 (kq ≤ kj4) ∧ Aside0 (wc.heap[gb153]? = some (.cells #[.string a0_0, .int .i64 a0_1, .int .i64 a0_2, (.slice A0_3 l0_3.length c0_3), (.slice A0_4 l0_4.length c0_4), .bool a0_5, .bool a0_6, (.slice A0_7 l0_7.length c0_7), .int .i64 a0_8, .int .i64 a0_9, .int .i64 a0_10] 26 (0, 0))) ∧ Aside0 (wc.heap[gb154]? = some (.cells #[(.slice A1_0 l1_0.length c1_0), (.slice A1_1 l1_1.length c1_1), (.slice A1_2 l1_2.length c1_2), .int .i64 a1_3, .int .i64 a1_4] 29 (0, 0))) ∧ Aside0 (Below w.heap.size w wc))
     case first =>
      have H := HC24.out; clear HC24; obtain ⟨t156, A25, H⟩ := xH H
      (try dsimp only at H)
      by_cases c26 : t156 = true
      ·subst c26
       rw [if_pos rfl] at H
       replace H := Option.bind_eq_some_iff.mp H
       obtain ⟨t157, A270, H⟩ := H
       replace H : (gamehallref1_PlaceError.j1 kj4 (l0_3.length : Int) t157 l1_0 l1_1 l1_2 a1_3 a1_4) = some r := H
       have A27 := xm A270; clear A270
       have H' := xm H
       clear H; have hcz29_0 := blkc5 BK154.out
       go_wp2_with (first | ((with_reducible refine gate_callee (f := 29) rfl ?_); refine xL (some 49) Try.func29 #[.int .i64 a1_3, .int .i64 0, .int .i64 1] rfl ?_; (with_reducible refine (gamehallref1_In.calls a1_3 0 1 true _ A25.out).mono ?_); rintro e w' ⟨rfl, ⟨nd, rfl⟩⟩; refine ⟨_, rfl, ?_⟩) | (go_at_call 29; (with_reducible refine (gamehallref1_In.calls a1_4 0 200 t157 _ A27.out).mono ?_); rintro e w' ⟨rfl, ⟨nd, rfl⟩⟩))
       go_meet
       case rel => exact ⟨_, (t157), (xrf), H', ⟨by have := HJ4.out; first | omega | exact Nat.le_refl _⟩, ⟨xK BK153⟩, ⟨xK BK154⟩, ⟨xW HB⟩⟩
      ·obtain rfl := Bool.eq_false_iff.mpr c26
       rw [if_neg xF] at H
       have H' := xm H
       clear H; have hcz31_0 := blkc5 BK154.out
       go_wp2_with (first | ((with_reducible refine gate_callee (f := 29) rfl ?_); refine xL (some 49) Try.func29 #[.int .i64 a1_3, .int .i64 0, .int .i64 1] rfl ?_; (with_reducible refine (gamehallref1_In.calls a1_3 0 1 false _ A25.out).mono ?_); rintro e w' ⟨rfl, ⟨nd, rfl⟩⟩; refine ⟨_, rfl, ?_⟩))
       go_meet
       case rel => exact ⟨_, (false), (xrf), H', ⟨by have := HJ4.out; first | omega | exact Nat.le_refl _⟩, ⟨xK BK153⟩, ⟨xK BK154⟩, ⟨xW HB⟩⟩
     case rest =>
      clear HC24; (try clear p2); (try clear p6)
      obtain ⟨kq, x7_23, rfl, HA, HJ23, BK153, BK154, HB⟩ := hcut
      cases kq with
      | zero => exact absurd HA.out (by simp [gamehallref1_PlaceError.j1])
      | succ kj23 =>
       have H := HA.out; clear HA
       simp only [gamehallref1_PlaceError.j1] at H
       have H' := xm H
       clear H; have hcz33_0 := blkc5 BK154.out
       go_wp2
       go_loopg [7, 58] kj23 (fun kq vs7 vs58 w' => ∃ (x7_3 : Bool) (x58_3 : Int), vs7 = .bool x7_3 ∧ vs58 = .int .i64 x58_3 ∧ Aside0 (gamehallref1_PlaceError.l0 kq (l0_3.length : Int) x7_3 l1_0 (l1_0.length : Int) x58_3 l1_0 l1_1 l1_2 a1_3 a1_4 = some r) ∧ Aside0 (kq ≤ kj23) ∧ Aside0 (w'.heap[gb153]? = some (.cells #[.string a0_0, .int .i64 a0_1, .int .i64 a0_2, (.slice A0_3 l0_3.length c0_3), (.slice A0_4 l0_4.length c0_4), .bool a0_5, .bool a0_6, (.slice A0_7 l0_7.length c0_7), .int .i64 a0_8, .int .i64 a0_9, .int .i64 a0_10] 26 (0, 0))) ∧ Aside0 (w'.heap[gb154]? = some (.cells #[(.slice A1_0 l1_0.length c1_0), (.slice A1_1 l1_1.length c1_1), (.slice A1_2 l1_2.length c1_2), .int .i64 a1_3, .int .i64 a1_4] 29 (0, 0))) ∧ Aside0 (Below w.heap.size w w'))
       case atStart => exact ⟨(x7_23), (0), (xrf), (xrf), H', ⟨Nat.le_refl _⟩, ⟨xK BK153⟩, ⟨xK BK154⟩, ⟨xW HB⟩⟩
       case round =>
        clear H'; (try clear p2); (try clear p6)
        obtain ⟨x7_3, x58_3, rfl, rfl, HA, HK3, BK153, BK154, HB⟩ := hrel
        cases gk with
        | zero => exact absurd HA.out (by simp [gamehallref1_PlaceError.l0])
        | succ k3 =>
         have H := HA.out; clear HA
         simp only [gamehallref1_PlaceError.l0] at H
         by_cases c34 : x58_3 < (l1_0.length : Int)
         ·rw [if_pos c34] at H
          have c34b0 := decide_eq_true c34
          clear c34
          obtain ⟨c35b0, H⟩ := xJ H
          obtain ⟨c36b0, H⟩ := xJ H
          by_cases c37 : x7_3 = true
          ·subst c37
           rw [if_pos rfl] at H
           obtain ⟨t159, A38, H⟩ := xH H
           (try dsimp only at H)
           have H' := xm H
           clear H
           have p158 : 0 ≤ (x58_3 : Int) := xO
           have q158 : x58_3 < (l1_0.length : Int) := xO
           obtain ⟨ad158, e158, hx158_0⟩ := Kd.at_int HR1_0.out x58_3 p158 q158
           cases e158
           replace hx158_0 := xR HB hx158_0; replace p158 := eq_true p158; replace q158 := eq_true q158
           go_wp2_with (first | (go_at_call 29; (with_reducible refine (gamehallref1_In.calls (rd l1_0 x58_3) 0 (wrap64 (2 * (l0_3.length : Int))) t159 _ A38.out).mono ?_); rintro e w' ⟨rfl, ⟨nd, rfl⟩⟩))
           go_roundg k3
           case measure => have := HJ4.out; have := HJ23.out; have := HK3.out; omega
           case rel => exact ⟨(t159), (wrap64 (x58_3 + 1)), (xrf), (xrf), H', ⟨by have := HJ4.out; have := HJ23.out; have := HK3.out; omega⟩, ⟨xK BK153⟩, ⟨xK BK154⟩, ⟨xW HB⟩⟩
          ·obtain rfl := Bool.eq_false_iff.mpr c37
           rw [if_neg xF] at H
           have H' := xm H
           clear H
           have p158 : 0 ≤ (x58_3 : Int) := xO
           have q158 : x58_3 < (l1_0.length : Int) := xO
           obtain ⟨ad158, e158, hx158_0⟩ := Kd.at_int HR1_0.out x58_3 p158 q158
           cases e158
           replace hx158_0 := xR HB hx158_0; replace p158 := eq_true p158; replace q158 := eq_true q158
           go_wp2
           go_roundg k3
           case measure => have := HJ4.out; have := HJ23.out; have := HK3.out; omega
           case rel => exact ⟨(false), (wrap64 (x58_3 + 1)), (xrf), (xrf), H', ⟨by have := HJ4.out; have := HJ23.out; have := HK3.out; omega⟩, ⟨xK BK153⟩, ⟨xK BK154⟩, ⟨xW HB⟩⟩
         ·rw [if_neg c34] at H
          have c34b0 := decide_eq_false c34
          clear c34
          have H' := xm H
          clear H; have hcz40_0 := blkc5 BK154.out
          go_wp2
          go_loopg [7, 72] k3 (fun kq vs7 vs72 w' => ∃ (x7_4 : Bool) (x72_4 : Int), vs7 = .bool x7_4 ∧ vs72 = .int .i64 x72_4 ∧ Aside0 (gamehallref1_PlaceError.l1 kq x7_4 x72_4 l1_1 l1_2 = some r) ∧ Aside0 (kq ≤ k3) ∧ Aside0 (w'.heap[gb153]? = some (.cells #[.string a0_0, .int .i64 a0_1, .int .i64 a0_2, (.slice A0_3 l0_3.length c0_3), (.slice A0_4 l0_4.length c0_4), .bool a0_5, .bool a0_6, (.slice A0_7 l0_7.length c0_7), .int .i64 a0_8, .int .i64 a0_9, .int .i64 a0_10] 26 (0, 0))) ∧ Aside0 (w'.heap[gb154]? = some (.cells #[(.slice A1_0 l1_0.length c1_0), (.slice A1_1 l1_1.length c1_1), (.slice A1_2 l1_2.length c1_2), .int .i64 a1_3, .int .i64 a1_4] 29 (0, 0))) ∧ Aside0 (Below w.heap.size w w'))
          case atStart => exact ⟨(x7_3), (0), (xrf), (xrf), H', ⟨Nat.le_refl _⟩, ⟨xK BK153⟩, ⟨xK BK154⟩, ⟨xW HB⟩⟩
          case round =>
           clear H'; (try clear p1); (try clear q1); (try clear hx1); (try clear p2); (try clear p6); (try clear p15); (try clear q15); (try clear hx15); (try clear hx158_0); (try clear p158); (try clear q158)
           obtain ⟨x7_4, x72_4, rfl, rfl, HA, HK4, BK153, BK154, HB⟩ := hrel
           cases gk with
           | zero => exact absurd HA.out (by simp [gamehallref1_PlaceError.l1])
           | succ k4 =>
            have H := HA.out; clear HA
            simp only [gamehallref1_PlaceError.l1] at H
            by_cases c41 : x72_4 < 2
            ·rw [if_pos c41] at H
             have c41b0 := decide_eq_true c41
             clear c41; have HC42 := xm H; clear H
             go_upto_region 15 with (fail)
             go_cut [11] (fun vs11 wc => ∃ (kq : Nat) (x11_41 : List Int) (Ar11 : Option Addr) (cr11 : Nat), vs11 = .slice Ar11 x11_41.length cr11 ∧ Aside0 (Kd.C (Kd.int .i64) w Ar11 x11_41.length x11_41) ∧ Aside0 (x11_41.length ≤ cr11) ∧ Aside0 (gamehallref1_PlaceError.j4 kq x7_4 x11_41 x72_4 l1_1 l1_2 = some r) ∧ Aside0 (kq ≤ k4) ∧ Aside0 (wc.heap[gb153]? = some (.cells #[.string a0_0, .int .i64 a0_1, .int .i64 a0_2, (.slice A0_3 l0_3.length c0_3), (.slice A0_4 l0_4.length c0_4), .bool a0_5, .bool a0_6, (.slice A0_7 l0_7.length c0_7), .int .i64 a0_8, .int .i64 a0_9, .int .i64 a0_10] 26 (0, 0))) ∧ Aside0 (wc.heap[gb154]? = some (.cells #[(.slice A1_0 l1_0.length c1_0), (.slice A1_1 l1_1.length c1_1), (.slice A1_2 l1_2.length c1_2), .int .i64 a1_3, .int .i64 a1_4] 29 (0, 0))) ∧ Aside0 (Below w.heap.size w wc))
             case first =>
              have H := HC42.out; clear HC42
              obtain ⟨c43b0, H⟩ := xJ H
              (first | rw [c43b0] | (simp only [i64_w, i32_w]; rw [c43b0]) | skip)
              by_cases c44 : x72_4 = 0
              ·rw [if_pos c44] at H
               have c44b0 := beq_iff_eq.mpr c44
               have c44b1 := bne_eq_false_iff_eq.mpr c44
               clear c44; obtain ⟨c45b, c45g, c45c, c45d⟩ := xar (x72_4 : Int) 0 0 2
               have c45i : ∀ (v0_ v1_ : Value) (w_ : World), (Instr.index 27 (.agg #[v0_, v1_]) (.int .i64 x72_4)).run Try.prog w_ = .ok v0_ w_ := by intro v0_ v1_ w_; have h0_ := c45b c45g; simp [Instr.index, asIntOf, part, isAgg, sizeOf, Try.underlying27, c45c, c45d, h0_] <;> simp [show Try.t23.size = 1 from rfl]
               have H' := xm H
               clear H
               go_wp2
               go_meet
               case rel => exact ⟨_, (l1_1), (A1_1), (c1_1), rfl, ⟨HR1_1.out⟩, ⟨HC1_1.out⟩, H', ⟨by have := HJ4.out; have := HJ23.out; have := HK3.out; have := HK4.out; first | omega | exact Nat.le_refl _⟩, ⟨xK BK153⟩, ⟨xK BK154⟩, ⟨xW HB⟩⟩
              ·rw [if_neg c44] at H
               have c44b0 := beq_eq_false_iff_ne.mpr c44
               have c44b1 := bne_iff_ne.mpr c44
               obtain ⟨c46b, c46g, c46c, c46d⟩ := xar (x72_4 : Int) 1 1 2
               have c46i : ∀ (v0_ v1_ : Value) (w_ : World), (Instr.index 27 (.agg #[v0_, v1_]) (.int .i64 x72_4)).run Try.prog w_ = .ok v1_ w_ := by intro v0_ v1_ w_; have h0_ := c46b c46g; simp [Instr.index, asIntOf, part, isAgg, sizeOf, Try.underlying27, c46c, c46d, h0_] <;> simp [show Try.t23.size = 1 from rfl]
               have H' := xm H
               clear H
               go_wp2
               go_meet
               case rel => exact ⟨_, (l1_2), (A1_2), (c1_2), rfl, ⟨HR1_2.out⟩, ⟨HC1_2.out⟩, H', ⟨by have := HJ4.out; have := HJ23.out; have := HK3.out; have := HK4.out; first | omega | exact Nat.le_refl _⟩, ⟨xK BK153⟩, ⟨xK BK154⟩, ⟨xW HB⟩⟩
             case rest =>
              clear HC42; (try clear p1); (try clear q1); (try clear hx1); (try clear p2); (try clear p6); (try clear p15); (try clear q15); (try clear hx15); (try clear hx158_0); (try clear p158); (try clear q158)
              obtain ⟨kq, x11_41, Ar11, cr11, rfl, HR_11, HC_11, HA, HJ41, BK153, BK154, HB⟩ := hcut
              cases kq with
              | zero => exact absurd HA.out (by simp [gamehallref1_PlaceError.j4])
              | succ kj41 =>
               have H := HA.out; clear HA
               simp only [gamehallref1_PlaceError.j4] at H
               have H' := xm H
               clear H
               go_wp2
               go_loopg [7, 77] kj41 (fun kq vs7 vs77 w' => ∃ (x7_6 : Bool) (x77_6 : Int), vs7 = .bool x7_6 ∧ vs77 = .int .i64 x77_6 ∧ Aside0 (gamehallref1_PlaceError.l2 kq x7_6 x72_4 x11_41 (x11_41.length : Int) x77_6 l1_1 l1_2 = some r) ∧ Aside0 (kq ≤ kj41) ∧ Aside0 (w'.heap[gb153]? = some (.cells #[.string a0_0, .int .i64 a0_1, .int .i64 a0_2, (.slice A0_3 l0_3.length c0_3), (.slice A0_4 l0_4.length c0_4), .bool a0_5, .bool a0_6, (.slice A0_7 l0_7.length c0_7), .int .i64 a0_8, .int .i64 a0_9, .int .i64 a0_10] 26 (0, 0))) ∧ Aside0 (w'.heap[gb154]? = some (.cells #[(.slice A1_0 l1_0.length c1_0), (.slice A1_1 l1_1.length c1_1), (.slice A1_2 l1_2.length c1_2), .int .i64 a1_3, .int .i64 a1_4] 29 (0, 0))) ∧ Aside0 (Below w.heap.size w w'))
               case atStart => exact ⟨(x7_4), (0), (xrf), (xrf), H', ⟨Nat.le_refl _⟩, ⟨xK BK153⟩, ⟨xK BK154⟩, ⟨xW HB⟩⟩
               case round =>
                clear H'; (try clear p1); (try clear q1); (try clear hx1); (try clear p2); (try clear p6); (try clear p15); (try clear q15); (try clear hx15); (try clear hx158_0); (try clear p158); (try clear q158)
                obtain ⟨x7_6, x77_6, rfl, rfl, HA, HK6, BK153, BK154, HB⟩ := hrel
                cases gk with
                | zero => exact absurd HA.out (by simp [gamehallref1_PlaceError.l2])
                | succ k6 =>
                 have H := HA.out; clear HA
                 simp only [gamehallref1_PlaceError.l2] at H
                 by_cases c47 : x77_6 < (x11_41.length : Int)
                 ·rw [if_pos c47] at H
                  have c47b0 := decide_eq_true c47
                  clear c47
                  obtain ⟨c48b0, H⟩ := xJ H
                  obtain ⟨c49b0, H⟩ := xJ H
                  by_cases c50 : x7_6 = true
                  ·subst c50
                   rw [if_pos rfl] at H
                   obtain ⟨t161, A51, H⟩ := xH H
                   (try dsimp only at H)
                   have H' := xm H
                   clear H
                   have p160 : 0 ≤ (x77_6 : Int) := xO
                   have q160 : x77_6 < (x11_41.length : Int) := xO
                   obtain ⟨ad160, e160, hx160_0⟩ := Kd.at_int HR_11.out x77_6 p160 q160
                   cases e160
                   replace hx160_0 := xR HB hx160_0; replace p160 := eq_true p160; replace q160 := eq_true q160
                   go_wp2_with (first | (go_at_call 29; (with_reducible refine (gamehallref1_In.calls (rd x11_41 x77_6) 0 1000 t161 _ A51.out).mono ?_); rintro e w' ⟨rfl, ⟨nd, rfl⟩⟩))
                   go_roundg k6
                   case measure => have := HJ4.out; have := HJ23.out; have := HK3.out; have := HK4.out; have := HJ41.out; have := HK6.out; omega
                   case rel => exact ⟨(t161), (wrap64 (x77_6 + 1)), (xrf), (xrf), H', ⟨by have := HJ4.out; have := HJ23.out; have := HK3.out; have := HK4.out; have := HJ41.out; have := HK6.out; omega⟩, ⟨xK BK153⟩, ⟨xK BK154⟩, ⟨xW HB⟩⟩
                  ·obtain rfl := Bool.eq_false_iff.mpr c50
                   rw [if_neg xF] at H
                   have H' := xm H
                   clear H
                   have p160 : 0 ≤ (x77_6 : Int) := xO
                   have q160 : x77_6 < (x11_41.length : Int) := xO
                   obtain ⟨ad160, e160, hx160_0⟩ := Kd.at_int HR_11.out x77_6 p160 q160
                   cases e160
                   replace hx160_0 := xR HB hx160_0; replace p160 := eq_true p160; replace q160 := eq_true q160
                   go_wp2
                   go_roundg k6
                   case measure => have := HJ4.out; have := HJ23.out; have := HK3.out; have := HK4.out; have := HJ41.out; have := HK6.out; omega
                   case rel => exact ⟨(false), (wrap64 (x77_6 + 1)), (xrf), (xrf), H', ⟨by have := HJ4.out; have := HJ23.out; have := HK3.out; have := HK4.out; have := HJ41.out; have := HK6.out; omega⟩, ⟨xK BK153⟩, ⟨xK BK154⟩, ⟨xW HB⟩⟩
                 ·rw [if_neg c47] at H
                  have c47b0 := decide_eq_false c47
                  clear c47
                  have H' := xm H
                  clear H
                  go_wp2
                  go_roundg k6
                  case measure => have := HJ4.out; have := HJ23.out; have := HK3.out; have := HK4.out; have := HJ41.out; have := HK6.out; omega
                  case rel => exact ⟨(x7_6), (wrap64 (x72_4 + 1)), (xrf), (xrf), H', ⟨by have := HJ4.out; have := HJ23.out; have := HK3.out; have := HK4.out; have := HJ41.out; have := HK6.out; omega⟩, ⟨xK BK153⟩, ⟨xK BK154⟩, ⟨xW HB⟩⟩
            ·rw [if_neg c41] at H
             have c41b0 := decide_eq_false c41
             clear c41
             by_cases c52 : x7_4 = true
             ·subst c52
              rw [if_pos rfl] at H
              obtain rfl := Option.some.inj H
              go_wp2
              go_ret
              exact ⟨xer, xW HB⟩
             ·obtain rfl := Bool.eq_false_iff.mpr c52
              rw [if_neg xF] at H
              obtain rfl := Option.some.inj H
              go_wp2
              go_ret
              exact ⟨xer, xW HB⟩
 ·rw [if_neg c4] at H
  have c4b0 := beq_eq_false_iff_ne.mpr c4
  have c4b1 := bne_iff_ne.mpr c4
  obtain rfl := Option.some.inj H
  go_enter Try.func10, Try.ntmps10
  go_wp2_with (first | ((with_reducible refine gate_dst (N := 2) rfl ?_); (try (refine gate_guard (by rfl) ?_; dsimp only)); refine xG (cs := #[.string a0_0, .int .i64 a0_1, .int .i64 a0_2, .slice A0_3 l0_3.length c0_3, .slice A0_4 l0_4.length c0_4, .bool a0_5, .bool a0_6, .slice A0_7 l0_7.length c0_7, .int .i64 a0_8, .int .i64 a0_9, .int .i64 a0_10]) (t := 26) ?_; intro gb153 hg w53 hbox hb; have BK153 := xm (hbox); have GW153 := xm (xZ HB hg); have GE153 := xm (xZ HB hg); replace HB := xm (xS HB hb); clear hb hbox hg) | ((with_reducible refine gate_dst (N := 3) rfl ?_); (try (refine gate_guard (by rfl) ?_; dsimp only)); refine xG (cs := #[.slice A1_0 l1_0.length c1_0, .slice A1_1 l1_1.length c1_1, .slice A1_2 l1_2.length c1_2, .int .i64 a1_3, .int .i64 a1_4]) (t := 29) ?_; intro gb154 hg w54 hbox hb; have BK154 := xm (hbox); have GW154 := xm (xZ HB hg); have GE154 := xm (xZ HB hg); have NB153_154 := xm (xN BK153 hg); have NB154_153 := xm (xM BK153 hg); replace BK153 := xm (xB BK153 hb); replace HB := xm (xS HB hb); clear hb hbox hg; have hnb55 := NB153_154.out; have hnc55 := NB154_153.out; have hcz56_0 := blkc11 BK153.out) | ((with_reducible refine gate_callee (f := 28) rfl ?_); refine xL (some 15) Try.func28 #[.agg #[.string a0_0, .int .i64 a0_1, .int .i64 a0_2, .slice A0_3 l0_3.length c0_3, .slice A0_4 l0_4.length c0_4, .bool a0_5, .bool a0_6, .slice A0_7 l0_7.length c0_7, .int .i64 a0_8, .int .i64 a0_9, .int .i64 a0_10]] rfl ?_; (with_reducible refine (DA3.out _ ?sB).mono ?_); (case sB => exact xW HB); rintro e w57 ⟨rfl, hb⟩; refine ⟨_, rfl, ?_⟩; replace BK153 := xm (xB BK153 hb); replace BK154 := xm (xB BK154 hb); replace HB := xm (xS HB hb); (try clear hb); (try clear hb2); (try clear hk); (try clear hi)))
  go_ret
  exact ⟨xer, xW HB⟩

/-! ### rules_Name: function 62 -/
mutual
def rules_Name.j0 : Nat → ByteArray → Bool → Option (Bool)
  | 0, _, _ => none
  | k + 1, x0, x20 => if x20 = true then (some false) else (rules_Name.l0 k x0 (x0.size : Int) 0)
def rules_Name.l0 : Nat → ByteArray → Int → Int → Option (Bool)
  | 0, _, _, _ => none
  | k + 1, x0, x22, x23 => if x23 < x22 then (if 0 ≤ x23 then (if x23 < (x0.size : Int) then (if (bt x0 x23) < 65 then (if (bt x0 x23) < 48 then (some false) else (if (bt x0 x23) > 57 then (some false) else (rules_Name.l0 k x0 x22 (wrap64 (x23 + 1))))) else (if (bt x0 x23) > 90 then (if (bt x0 x23) < 48 then (some false) else (if (bt x0 x23) > 57 then (some false) else (rules_Name.l0 k x0 x22 (wrap64 (x23 + 1))))) else (rules_Name.l0 k x0 x22 (wrap64 (x23 + 1))))) else (none)) else (none)) else (some true)
end
def rules_Name.f (k : Nat) (a0 : ByteArray) : Option (Bool) := if a0.toList = ([] : List UInt8) then (rules_Name.j0 k a0 true) else (if (a0.size : Int) > 8 then (rules_Name.j0 k a0 true) else (if 0 < (a0.size : Int) then (if (bt a0 0) ≥ 48 then (rules_Name.j0 k a0 (decide ((bt a0 0) ≤ 57))) else (rules_Name.j0 k a0 false)) else (none)))
theorem rules_Name.mono_l : ∀ k, LM (LM (LeO)) (rules_Name.j0 k) (rules_Name.j0 (k + 1)) ∧ LM (LM (LM (LeO))) (rules_Name.l0 k) (rules_Name.l0 (k + 1))
  | 0 => by refine ⟨?_, ?_⟩ <;> (repeat (first | exact LeO.none _ | intro _))
  | k + 1 => by
    obtain ⟨ih0, ih1⟩ := rules_Name.mono_l k
    refine ⟨?_, ?_⟩ <;> ((repeat (first | (with_reducible refine LeO.st ?_) | intro _)); constructor; (first | unfold rules_Name.j0 | unfold rules_Name.l0); repeat' first | (with_reducible first | apply ih0 | apply ih1 | exact LeO.refl _ | exact LeO.none _ | refine LeO.ite ?_ ?_ | refine LeO.bind ?_ (fun _ => ?_)) | apply ih0 | apply ih1 | exact LeO.none _ | refine LeO.ite ?_ ?_ | refine LeO.bind ?_ (fun _ => ?_))
theorem rules_Name.mono : ∀ a0 k, LeO (rules_Name.f k a0) (rules_Name.f (k + 1) a0) := by
  intros; rename_i k
  obtain ⟨ih0, ih1⟩ := rules_Name.mono_l k
  unfold rules_Name.f
  repeat' first | (with_reducible first | apply ih0 | apply ih1 | exact LeO.refl _ | exact LeO.none _ | refine LeO.ite ?_ ?_ | refine LeO.bind ?_ (fun _ => ?_)) | apply ih0 | apply ih1 | exact LeO.none _ | refine LeO.ite ?_ ?_ | refine LeO.bind ?_ (fun _ => ?_)
theorem rules_Name.calls (k : Nat) (a0 : ByteArray) (r : Bool) (w : World) (h : rules_Name.f k a0 = some r) :
    Calls Try.prog 62 #[.string a0] w fun e w' => e = .returned (.bool r) ∧ Drawn0 w w' := by
 have H : (if a0.toList = ([] : List UInt8) then (rules_Name.j0 k a0 true) else (if (a0.size : Int) > 8 then (rules_Name.j0 k a0 true) else (if 0 < (a0.size : Int) then (if (bt a0 0) ≥ 48 then (rules_Name.j0 k a0 (decide ((bt a0 0) ≤ 57))) else (rules_Name.j0 k a0 false)) else (none)))) = some r := h
 clear h; have HC2 := xm H; clear H
 go_enter Try.func62, Try.ntmps62
 go_upto_region 1 with (fail)
 go_cut [20] (fun vs20 wc => ∃ (kq : Nat) (x20_1 : Bool), vs20 = .bool x20_1 ∧ Aside0 (rules_Name.j0 kq a0 x20_1 = some r) ∧ Aside0 (kq ≤ k) ∧ Drawn0 w wc)
 case first =>
  have H := HC2.out; clear HC2
  by_cases c3 : a0.toList = ([] : List UInt8)
  ·rw [if_pos c3] at H
   have c3b0 := beq_iff_eq.mpr c3
   have c3b1 := bne_eq_false_iff_eq.mpr c3
   clear c3
   (first | rw [c3b0] | (simp only [i64_w, i32_w]; rw [c3b0]) | skip)
   have H' := xm H
   clear H
   go_wp2
   go_meet
   case rel => exact ⟨_, (true), (xrf), H', ⟨by first | omega | exact Nat.le_refl _⟩, by repeat (first | exact Drawn0.refl _ | apply Drawn0.step)⟩
  ·rw [if_neg c3] at H
   have c3b0 := beq_eq_false_iff_ne.mpr c3
   have c3b1 := bne_iff_ne.mpr c3
   (first | rw [c3b0] | (simp only [i64_w, i32_w]; rw [c3b0]) | skip)
   by_cases c4 : (a0.size : Int) > 8
   ·rw [if_pos c4] at H
    have c4b0 := decide_eq_true c4
    have c4b1 : decide (8 < a0.size) = true := decide_eq_true (by omega)
    clear c4
    have H' := xm H
    clear H
    go_wp2
    go_meet
    case rel => exact ⟨_, (true), (xrf), H', ⟨by first | omega | exact Nat.le_refl _⟩, by repeat (first | exact Drawn0.refl _ | apply Drawn0.step)⟩
   ·rw [if_neg c4] at H
    have c4b0 := decide_eq_false c4
    have c4b1 : decide (8 < a0.size) = false := decide_eq_false (by omega)
    clear c4
    obtain ⟨c5, H⟩ := xI H
    have c5b0 := decide_eq_true c5
    have c5b1 : decide (0 < a0.size) = true := decide_eq_true (by omega)
    clear c5
    by_cases c7 : (bt a0 0) ≥ 48
    ·rw [if_pos c7] at H
     have c7b0 := decide_eq_true c7
     clear c7
     have H' := xm H
     clear H
     have p6 : 0 ≤ (0 : Int) := (by omega)
     have q6 : 0 < a0.size := (by have : (0 : Int) < (a0.size : Int) := xO; omega)
     have hx6 : ∀ h : 0 < a0.size, ((a0[0]'h).toNat : Int) = bt a0 0 := bt_at a0 0
     clear p6
     have qi6 : (0 < (a0.size : Int)) = True := eq_true (xO)
     replace q6 := eq_true q6
     have p8 : 0 ≤ (0 : Int) := (by omega)
     have q8 : 0 < a0.size := (by have : (0 : Int) < (a0.size : Int) := xO; omega)
     have hx8 : ∀ h : 0 < a0.size, ((a0[0]'h).toNat : Int) = bt a0 0 := bt_at a0 0
     clear p8
     have qi8 : (0 < (a0.size : Int)) = True := eq_true (xO)
     replace q8 := eq_true q8
     go_wp2
     go_meet
     case rel => exact ⟨_, (decide ((bt a0 0) ≤ 57)), (xrf), H', ⟨by first | omega | exact Nat.le_refl _⟩, by repeat (first | exact Drawn0.refl _ | apply Drawn0.step)⟩
    ·rw [if_neg c7] at H
     have c7b0 := decide_eq_false c7
     clear c7
     have H' := xm H
     clear H
     have p6 : 0 ≤ (0 : Int) := (by omega)
     have q6 : 0 < a0.size := (by have : (0 : Int) < (a0.size : Int) := xO; omega)
     have hx6 : ∀ h : 0 < a0.size, ((a0[0]'h).toNat : Int) = bt a0 0 := bt_at a0 0
     clear p6
     have qi6 : (0 < (a0.size : Int)) = True := eq_true (xO)
     replace q6 := eq_true q6
     go_wp2
     go_meet
     case rel => exact ⟨_, (false), (xrf), H', ⟨by first | omega | exact Nat.le_refl _⟩, by repeat (first | exact Drawn0.refl _ | apply Drawn0.step)⟩
 case rest =>
  clear HC2; (try clear p2); (try clear p6); (try clear q6); (try clear hx6); (try clear qi6); (try clear p8); (try clear q8); (try clear hx8); (try clear qi8)
  obtain ⟨kq, x20_1, rfl, HA, HJ1, ⟨mc1, rfl⟩⟩ := hcut
  cases kq with
  | zero => exact absurd HA.out (by simp [rules_Name.j0])
  | succ kj1 =>
   have H := HA.out; clear HA
   simp only [rules_Name.j0] at H
   by_cases c9 : x20_1 = true
   ·subst c9
    rw [if_pos rfl] at H
    obtain rfl := Option.some.inj H
    go_wp2
    go_ret
    exact ⟨xrf, by repeat (first | exact Drawn0.refl _ | apply Drawn0.step)⟩
   ·obtain rfl := Bool.eq_false_iff.mpr c9
    rw [if_neg xF] at H
    have H' := xm H
    clear H
    go_wp2
    go_loopg [23] kj1 (fun kq vs23 w' => ∃ (x23_2 : Int), vs23 = .int .i64 x23_2 ∧ Aside0 (rules_Name.l0 kq a0 (a0.size : Int) x23_2 = some r) ∧ Aside0 (kq ≤ kj1) ∧ Drawn0 w w')
    case atStart => exact ⟨(0), (xrf), H', ⟨Nat.le_refl _⟩, by repeat (first | exact Drawn0.refl _ | apply Drawn0.step)⟩
    case round =>
     clear H'; (try clear p2); (try clear p6); (try clear q6); (try clear hx6); (try clear qi6); (try clear p8); (try clear q8); (try clear hx8); (try clear qi8)
     obtain ⟨x23_2, rfl, HA, HK2, ⟨m2, rfl⟩⟩ := hrel
     cases gk with
     | zero => exact absurd HA.out (by simp [rules_Name.l0])
     | succ k2 =>
      have H := HA.out; clear HA
      simp only [rules_Name.l0] at H
      by_cases c10 : x23_2 < (a0.size : Int)
      ·rw [if_pos c10] at H
       have c10b0 := decide_eq_true c10
       clear c10
       obtain ⟨c11b0, H⟩ := xJ H
       obtain ⟨c12b0, H⟩ := xJ H
       by_cases c14 : (bt a0 x23_2) < 65
       ·rw [if_pos c14] at H
        have c14b0 := decide_eq_true c14
        clear c14
        by_cases c16 : (bt a0 x23_2) < 48
        ·rw [if_pos c16] at H
         have c16b0 := decide_eq_true c16
         clear c16
         obtain rfl := Option.some.inj H
         have p13 : 0 ≤ (x23_2 : Int) := xO
         have q13 : x23_2 < (a0.size : Int) := xO
         have hx13 := bt_at a0 x23_2; replace p13 := eq_true p13; replace q13 := eq_true q13
         have p15 : 0 ≤ (x23_2 : Int) := xO
         have q15 : x23_2 < (a0.size : Int) := xO
         have hx15 := bt_at a0 x23_2; replace p15 := eq_true p15; replace q15 := eq_true q15
         go_wp2
         go_ret
         exact ⟨xrf, by repeat (first | exact Drawn0.refl _ | apply Drawn0.step)⟩
        ·rw [if_neg c16] at H
         have c16b0 := decide_eq_false c16
         clear c16
         by_cases c18 : (bt a0 x23_2) > 57
         ·rw [if_pos c18] at H
          have c18b0 := decide_eq_true c18
          clear c18
          obtain rfl := Option.some.inj H
          have p13 : 0 ≤ (x23_2 : Int) := xO
          have q13 : x23_2 < (a0.size : Int) := xO
          have hx13 := bt_at a0 x23_2; replace p13 := eq_true p13; replace q13 := eq_true q13
          have p15 : 0 ≤ (x23_2 : Int) := xO
          have q15 : x23_2 < (a0.size : Int) := xO
          have hx15 := bt_at a0 x23_2; replace p15 := eq_true p15; replace q15 := eq_true q15
          have p17 : 0 ≤ (x23_2 : Int) := xO
          have q17 : x23_2 < (a0.size : Int) := xO
          have hx17 := bt_at a0 x23_2; replace p17 := eq_true p17; replace q17 := eq_true q17
          go_wp2
          go_ret
          exact ⟨xrf, by repeat (first | exact Drawn0.refl _ | apply Drawn0.step)⟩
         ·rw [if_neg c18] at H
          have c18b0 := decide_eq_false c18
          clear c18
          have H' := xm H
          clear H
          have p13 : 0 ≤ (x23_2 : Int) := xO
          have q13 : x23_2 < (a0.size : Int) := xO
          have hx13 := bt_at a0 x23_2; replace p13 := eq_true p13; replace q13 := eq_true q13
          have p15 : 0 ≤ (x23_2 : Int) := xO
          have q15 : x23_2 < (a0.size : Int) := xO
          have hx15 := bt_at a0 x23_2; replace p15 := eq_true p15; replace q15 := eq_true q15
          have p17 : 0 ≤ (x23_2 : Int) := xO
          have q17 : x23_2 < (a0.size : Int) := xO
          have hx17 := bt_at a0 x23_2; replace p17 := eq_true p17; replace q17 := eq_true q17
          go_wp2
          go_roundg k2
          case measure => have := HJ1.out; have := HK2.out; omega
          case rel => exact ⟨(wrap64 (x23_2 + 1)), (xrf), H', ⟨by have := HJ1.out; have := HK2.out; omega⟩, by repeat (first | exact Drawn0.refl _ | apply Drawn0.step)⟩
       ·rw [if_neg c14] at H
        have c14b0 := decide_eq_false c14
        clear c14
        by_cases c20 : (bt a0 x23_2) > 90
        ·rw [if_pos c20] at H
         have c20b0 := decide_eq_true c20
         clear c20
         by_cases c22 : (bt a0 x23_2) < 48
         ·rw [if_pos c22] at H
          have c22b0 := decide_eq_true c22
          clear c22
          obtain rfl := Option.some.inj H
          have p13 : 0 ≤ (x23_2 : Int) := xO
          have q13 : x23_2 < (a0.size : Int) := xO
          have hx13 := bt_at a0 x23_2; replace p13 := eq_true p13; replace q13 := eq_true q13
          have p19 : 0 ≤ (x23_2 : Int) := xO
          have q19 : x23_2 < (a0.size : Int) := xO
          have hx19 := bt_at a0 x23_2; replace p19 := eq_true p19; replace q19 := eq_true q19
          have p21 : 0 ≤ (x23_2 : Int) := xO
          have q21 : x23_2 < (a0.size : Int) := xO
          have hx21 := bt_at a0 x23_2; replace p21 := eq_true p21; replace q21 := eq_true q21
          go_wp2
          go_ret
          exact ⟨xrf, by repeat (first | exact Drawn0.refl _ | apply Drawn0.step)⟩
         ·rw [if_neg c22] at H
          have c22b0 := decide_eq_false c22
          clear c22
          by_cases c24 : (bt a0 x23_2) > 57
          ·rw [if_pos c24] at H
           have c24b0 := decide_eq_true c24
           clear c24
           obtain rfl := Option.some.inj H
           have p13 : 0 ≤ (x23_2 : Int) := xO
           have q13 : x23_2 < (a0.size : Int) := xO
           have hx13 := bt_at a0 x23_2; replace p13 := eq_true p13; replace q13 := eq_true q13
           have p19 : 0 ≤ (x23_2 : Int) := xO
           have q19 : x23_2 < (a0.size : Int) := xO
           have hx19 := bt_at a0 x23_2; replace p19 := eq_true p19; replace q19 := eq_true q19
           have p21 : 0 ≤ (x23_2 : Int) := xO
           have q21 : x23_2 < (a0.size : Int) := xO
           have hx21 := bt_at a0 x23_2; replace p21 := eq_true p21; replace q21 := eq_true q21
           have p23 : 0 ≤ (x23_2 : Int) := xO
           have q23 : x23_2 < (a0.size : Int) := xO
           have hx23 := bt_at a0 x23_2; replace p23 := eq_true p23; replace q23 := eq_true q23
           go_wp2
           go_ret
           exact ⟨xrf, by repeat (first | exact Drawn0.refl _ | apply Drawn0.step)⟩
          ·rw [if_neg c24] at H
           have c24b0 := decide_eq_false c24
           clear c24
           have H' := xm H
           clear H
           have p13 : 0 ≤ (x23_2 : Int) := xO
           have q13 : x23_2 < (a0.size : Int) := xO
           have hx13 := bt_at a0 x23_2; replace p13 := eq_true p13; replace q13 := eq_true q13
           have p19 : 0 ≤ (x23_2 : Int) := xO
           have q19 : x23_2 < (a0.size : Int) := xO
           have hx19 := bt_at a0 x23_2; replace p19 := eq_true p19; replace q19 := eq_true q19
           have p21 : 0 ≤ (x23_2 : Int) := xO
           have q21 : x23_2 < (a0.size : Int) := xO
           have hx21 := bt_at a0 x23_2; replace p21 := eq_true p21; replace q21 := eq_true q21
           have p23 : 0 ≤ (x23_2 : Int) := xO
           have q23 : x23_2 < (a0.size : Int) := xO
           have hx23 := bt_at a0 x23_2; replace p23 := eq_true p23; replace q23 := eq_true q23
           go_wp2
           go_roundg k2
           case measure => have := HJ1.out; have := HK2.out; omega
           case rel => exact ⟨(wrap64 (x23_2 + 1)), (xrf), H', ⟨by have := HJ1.out; have := HK2.out; omega⟩, by repeat (first | exact Drawn0.refl _ | apply Drawn0.step)⟩
        ·rw [if_neg c20] at H
         have c20b0 := decide_eq_false c20
         clear c20
         have H' := xm H
         clear H
         have p13 : 0 ≤ (x23_2 : Int) := xO
         have q13 : x23_2 < (a0.size : Int) := xO
         have hx13 := bt_at a0 x23_2; replace p13 := eq_true p13; replace q13 := eq_true q13
         have p19 : 0 ≤ (x23_2 : Int) := xO
         have q19 : x23_2 < (a0.size : Int) := xO
         have hx19 := bt_at a0 x23_2; replace p19 := eq_true p19; replace q19 := eq_true q19
         go_wp2
         go_roundg k2
         case measure => have := HJ1.out; have := HK2.out; omega
         case rel => exact ⟨(wrap64 (x23_2 + 1)), (xrf), H', ⟨by have := HJ1.out; have := HK2.out; omega⟩, by repeat (first | exact Drawn0.refl _ | apply Drawn0.step)⟩
      ·rw [if_neg c10] at H
       have c10b0 := decide_eq_false c10
       clear c10
       obtain rfl := Option.some.inj H
       go_wp2
       go_ret
       exact ⟨xrf, by repeat (first | exact Drawn0.refl _ | apply Drawn0.step)⟩

end Go.Proofs.Ytloadbbndnmdlaa.PZobKeys
