-- Printed by a program of this claim's writer (wip/ext): an extension of the kit's print.
import Derived.Test.YtkpphlimnnifkaaPClaimFallsx0
import Derived.Test.YtkpphlimnnifkaaPClaimFallsx1
import Derived.Test.YtkpphlimnnifkaaPClaimFallsx4
namespace Go.Proofs.Ytkpphlimnnifkaa.PClaimFalls
open Go.RowKit Go.Proofs.YtkpphlimnnifkaaW.PrintWords Go.Proofs.YtkpphlimnnifkaaW.PrintLast Go.Proofs.YtkpphlimnnifkaaW.PrintMore
set_option maxHeartbeats 8000000
set_option maxRecDepth 100000
attribute [local go_sem] max2_int min2_int max_two min_two max_three min_three max_four min_four   -- for this text's walks alone
set_option linter.unusedVariables false
set_option linter.unusedSimpArgs false

attribute [local go_sem high] eqA38
/-! ### place_Check: function 22 -/
mutual
def place_Check.j0 : Nat → Bool → ByteArray → Int → Int → List (S104) → List Int → Bool → Bool → List (S98) → Int → Int → Int → List Int → List Int → List Int → Int → Int → Option (Int)
  | 0, _, _, _, _, _, _, _, _, _, _, _, _, _, _, _, _, _ => none
  | k + 1, x45, z217a, z217b, z217c, z217d, z217e, z217f, z217g, z217h, z217i, z217j, z217k, z218a, z218b, z218c, z218d, z218e => if x45 = true then (some 3) else (place_Check.l0 k z218a (z218a.length : Int) 0 z217a z217b z217c z217d z217e z217f z217g z217h z217i z217j z217k z218a z218b z218c z218d z218e)
def place_Check.l0 : Nat → List Int → Int → Int → ByteArray → Int → Int → List (S104) → List Int → Bool → Bool → List (S98) → Int → Int → Int → List Int → List Int → List Int → Int → Int → Option (Int)
  | 0, _, _, _, _, _, _, _, _, _, _, _, _, _, _, _, _, _, _, _ => none
  | k + 1, x47, x48, x49, z217a, z217b, z217c, z217d, z217e, z217f, z217g, z217h, z217i, z217j, z217k, z218a, z218b, z218c, z218d, z218e => if x49 < x48 then (if 0 ≤ x49 then (if x49 < (x47.length : Int) then (if (rd x47 x49) < 0 then (some 4) else (if (rd x47 x49) > (wrap64 (2 * (z217d.length : Int))) then (some 4) else (place_Check.l0 k x47 x48 (wrap64 (x49 + 1)) z217a z217b z217c z217d z217e z217f z217g z217h z217i z217j z217k z218a z218b z218c z218d z218e))) else (none)) else (none)) else (place_Check.l1 k 0 z218b z218c z218a z218b z218c z218d z218e)
def place_Check.l1 : Nat → Int → List Int → List Int → List Int → List Int → List Int → Int → Int → Option (Int)
  | 0, _, _, _, _, _, _, _, _ => none
  | k + 1, x66, x101, x102, z218a, z218b, z218c, z218d, z218e => if x66 < 2 then (if 0 ≤ x66 then (if x66 = 0 then (place_Check.j3 k x101 x66 x101 x102 z218a z218b z218c z218d z218e) else (place_Check.j3 k x102 x66 x101 x102 z218a z218b z218c z218d z218e)) else (none)) else (if z218d = 0 then (if z218e < 0 then (some 4) else (if z218e > 200 then (some 4) else (some 0))) else (if z218d = 1 then (if z218e < 0 then (some 4) else (if z218e > 200 then (some 4) else (some 0))) else (some 4)))
def place_Check.j3 : Nat → List Int → Int → List Int → List Int → List Int → List Int → List Int → Int → Int → Option (Int)
  | 0, _, _, _, _, _, _, _, _, _ => none
  | k + 1, x9, x66, x101, x102, z218a, z218b, z218c, z218d, z218e => place_Check.l2 k x66 x9 (x9.length : Int) 0 x101 x102 z218a z218b z218c z218d z218e
def place_Check.l2 : Nat → Int → List Int → Int → Int → List Int → List Int → List Int → List Int → List Int → Int → Int → Option (Int)
  | 0, _, _, _, _, _, _, _, _, _, _, _ => none
  | k + 1, x66, x69, x70, x71, x101, x102, z218a, z218b, z218c, z218d, z218e => if x71 < x70 then (if 0 ≤ x71 then (if x71 < (x69.length : Int) then (if (rd x69 x71) < 0 then (some 4) else (if (rd x69 x71) > 1000 then (some 4) else (place_Check.l2 k x66 x69 x70 (wrap64 (x71 + 1)) x101 x102 z218a z218b z218c z218d z218e))) else (none)) else (none)) else (place_Check.l1 k (wrap64 (x66 + 1)) x101 x102 z218a z218b z218c z218d z218e)
end
def place_Check.f (k : Nat) (a0_0 : ByteArray) (a0_1 : Int) (a0_2 : Int) (l0_3 : List (S104)) (l0_4 : List Int) (a0_5 : Bool) (a0_6 : Bool) (l0_7 : List (S98)) (a0_8 : Int) (a0_9 : Int) (a0_10 : Int) (l1_0 : List Int) (l1_1 : List Int) (l1_2 : List Int) (a1_3 : Int) (a1_4 : Int) : Option (Int) := (rules_Check.f k a0_0 a0_1 a0_2 l0_3 l0_4 a0_5 a0_6 l0_7 a0_8 a0_9 a0_10).bind fun t218 => (if t218 = 0 then (if (l1_0.length : Int) = (wrap64 (a0_1 * a0_2)) then (if (l1_1.length : Int) = (l0_3.length : Int) then (place_Check.j0 k ((l1_2.length : Int) != (l0_3.length : Int)) a0_0 a0_1 a0_2 l0_3 l0_4 a0_5 a0_6 l0_7 a0_8 a0_9 a0_10 l1_0 l1_1 l1_2 a1_3 a1_4) else (place_Check.j0 k true a0_0 a0_1 a0_2 l0_3 l0_4 a0_5 a0_6 l0_7 a0_8 a0_9 a0_10 l1_0 l1_1 l1_2 a1_3 a1_4)) else (place_Check.j0 k true a0_0 a0_1 a0_2 l0_3 l0_4 a0_5 a0_6 l0_7 a0_8 a0_9 a0_10 l1_0 l1_1 l1_2 a1_3 a1_4)) else (some t218))
theorem place_Check.mono_l : ∀ k, L10 (L5 (LM (LM (LeO)))) (place_Check.j0 k) (place_Check.j0 (k + 1)) ∧ L10 (L5 (LM (LM (LM (LM (LeO)))))) (place_Check.l0 k) (place_Check.l0 (k + 1)) ∧ L5 (LM (LM (LM (LeO)))) (place_Check.l1 k) (place_Check.l1 (k + 1)) ∧ L5 (LM (LM (LM (LM (LeO))))) (place_Check.j3 k) (place_Check.j3 (k + 1)) ∧ L10 (LM (LeO)) (place_Check.l2 k) (place_Check.l2 (k + 1))
  | 0 => by refine ⟨?_, ?_, ?_, ?_, ?_⟩ <;> (repeat (first | exact LeO.none _ | intro _))
  | k + 1 => by
    obtain ⟨ih0, ih1, ih2, ih3, ih4⟩ := place_Check.mono_l k; refine ⟨?_, ?_, ?_, ?_, ?_⟩ <;> ((repeat (first | (with_reducible refine LeO.st ?_) | intro _)); constructor; (first | unfold place_Check.j0 | unfold place_Check.l0 | unfold place_Check.l1 | unfold place_Check.j3 | unfold place_Check.l2); repeat' first | (with_reducible first | apply ih0 | apply ih1 | apply ih2 | apply ih3 | apply ih4 | apply rules_Check.mono | exact LeO.refl _ | exact LeO.none _ | refine LeO.ite ?_ ?_ | refine LeO.bind ?_ (fun _ => ?_)) | apply ih0 | apply ih1 | apply ih2 | apply ih3 | apply ih4 | apply rules_Check.mono | exact LeO.none _ | refine LeO.ite ?_ ?_ | refine LeO.bind ?_ (fun _ => ?_))
theorem place_Check.mono : ∀ a0 a1 a2 a3 a4 a5 a6 a7 a8 a9 a10 a11 a12 a13 a14 a15 k, LeO (place_Check.f k a0 a1 a2 a3 a4 a5 a6 a7 a8 a9 a10 a11 a12 a13 a14 a15) (place_Check.f (k + 1) a0 a1 a2 a3 a4 a5 a6 a7 a8 a9 a10 a11 a12 a13 a14 a15) := by
  intros; rename_i k; obtain ⟨ih0, ih1, ih2, ih3, ih4⟩ := place_Check.mono_l k
  unfold place_Check.f
  repeat' first | (with_reducible first | apply ih0 | apply ih1 | apply ih2 | apply ih3 | apply ih4 | apply rules_Check.mono | exact LeO.refl _ | exact LeO.none _ | refine LeO.ite ?_ ?_ | refine LeO.bind ?_ (fun _ => ?_)) | apply ih0 | apply ih1 | apply ih2 | apply ih3 | apply ih4 | apply rules_Check.mono | exact LeO.none _ | refine LeO.ite ?_ ?_ | refine LeO.bind ?_ (fun _ => ?_)
theorem place_Check.calls (k : Nat) (a0_0 : ByteArray) (a0_1 : Int) (a0_2 : Int) (A0_3 : Option Addr) (c0_3 : Nat) (l0_3 : List (S104)) (A0_4 : Option Addr) (c0_4 : Nat) (l0_4 : List Int) (a0_5 : Bool) (a0_6 : Bool) (A0_7 : Option Addr) (c0_7 : Nat) (l0_7 : List (S98)) (a0_8 : Int) (a0_9 : Int) (a0_10 : Int) (A1_0 : Option Addr) (c1_0 : Nat) (l1_0 : List Int) (A1_1 : Option Addr) (c1_1 : Nat) (l1_1 : List Int) (A1_2 : Option Addr) (c1_2 : Nat) (l1_2 : List Int) (a1_3 : Int) (a1_4 : Int) (r : Int) (w : World) (hr0_3 : Kd.C k104 w A0_3 l0_3.length l0_3) (hc0_3 : l0_3.length ≤ c0_3) (hr0_4 : Kd.C (Kd.int .i64) w A0_4 l0_4.length l0_4) (hc0_4 : l0_4.length ≤ c0_4) (hr0_7 : Kd.C k98 w A0_7 l0_7.length l0_7) (hc0_7 : l0_7.length ≤ c0_7) (hr1_0 : Kd.C (Kd.int .i64) w A1_0 l1_0.length l1_0) (hc1_0 : l1_0.length ≤ c1_0) (hr1_1 : Kd.C (Kd.int .i64) w A1_1 l1_1.length l1_1) (hc1_1 : l1_1.length ≤ c1_1) (hr1_2 : Kd.C (Kd.int .i64) w A1_2 l1_2.length l1_2) (hc1_2 : l1_2.length ≤ c1_2) (h : place_Check.f k a0_0 a0_1 a0_2 l0_3 l0_4 a0_5 a0_6 l0_7 a0_8 a0_9 a0_10 l1_0 l1_1 l1_2 a1_3 a1_4 = some r) :
    Calls Try.prog 22 #[.agg #[.string a0_0, .int .i64 a0_1, .int .i64 a0_2, .slice A0_3 l0_3.length c0_3, .slice A0_4 l0_4.length c0_4, .bool a0_5, .bool a0_6, .slice A0_7 l0_7.length c0_7, .int .i64 a0_8, .int .i64 a0_9, .int .i64 a0_10], .agg #[.slice A1_0 l1_0.length c1_0, .slice A1_1 l1_1.length c1_1, .slice A1_2 l1_2.length c1_2, .int .i64 a1_3, .int .i64 a1_4]] w fun e w' => e = .returned (.int .i64 r) ∧ Below w.heap.size w w' := by
 have hu26 := Try.underlying26; have hu41 := Try.underlying41; have hu39 := Try.underlying39; have HR0_3 := xm hr0_3; have HC0_3 := xm hc0_3; clear hr0_3 hc0_3; have HR0_4 := xm hr0_4; have HC0_4 := xm hc0_4; clear hr0_4 hc0_4; have HR0_7 := xm hr0_7; have HC0_7 := xm hc0_7; clear hr0_7 hc0_7; have HR1_0 := xm hr1_0; have HC1_0 := xm hc1_0; clear hr1_0 hc1_0; have HR1_1 := xm hr1_1; have HC1_1 := xm hc1_1; clear hr1_1 hc1_1; have HR1_2 := xm hr1_2; have HC1_2 := xm hc1_2; clear hr1_2 hc1_2; have HB := xm (Below.refl w.heap.size w); have hss_ := @isSome_setCell; have H : ((rules_Check.f k a0_0 a0_1 a0_2 l0_3 l0_4 a0_5 a0_6 l0_7 a0_8 a0_9 a0_10).bind fun t218 => (if t218 = 0 then (if (l1_0.length : Int) = (wrap64 (a0_1 * a0_2)) then (if (l1_1.length : Int) = (l0_3.length : Int) then (place_Check.j0 k ((l1_2.length : Int) != (l0_3.length : Int)) a0_0 a0_1 a0_2 l0_3 l0_4 a0_5 a0_6 l0_7 a0_8 a0_9 a0_10 l1_0 l1_1 l1_2 a1_3 a1_4) else (place_Check.j0 k true a0_0 a0_1 a0_2 l0_3 l0_4 a0_5 a0_6 l0_7 a0_8 a0_9 a0_10 l1_0 l1_1 l1_2 a1_3 a1_4)) else (place_Check.j0 k true a0_0 a0_1 a0_2 l0_3 l0_4 a0_5 a0_6 l0_7 a0_8 a0_9 a0_10 l1_0 l1_1 l1_2 a1_3 a1_4)) else (some t218))) = some r := h; clear h; obtain ⟨t218, A3, H⟩ := xH H; (try dsimp only at H); have DA3 := xm fun (W_ : World) (hb_ : Below w.heap.size w W_) => rules_Check.calls k a0_0 a0_1 a0_2 _ _ l0_3 _ _ l0_4 a0_5 a0_6 _ _ l0_7 a0_8 a0_9 a0_10 t218 W_ (Kd.C_below HR0_3.out hb_) HC0_3.out (Kd.C_below HR0_4.out hb_) HC0_4.out (Kd.C_below HR0_7.out hb_) HC0_7.out A3.out
 by_cases c4 : t218 = 0
 ·rw [if_pos c4] at H; have c4b0 := beq_iff_eq.mpr c4; have c4b1 := bne_eq_false_iff_eq.mpr c4; clear c4; have HC5 := xm H; clear H; go_enter Try.func22, Try.ntmps22
  go_upto_region 4 with (first | ((with_reducible refine gate_dst (N := 2) rfl ?_); (try (refine gate_guard (by rfl) ?_; dsimp only)); refine xG (cs := #[.string a0_0, .int .i64 a0_1, .int .i64 a0_2, .slice A0_3 l0_3.length c0_3, .slice A0_4 l0_4.length c0_4, .bool a0_5, .bool a0_6, .slice A0_7 l0_7.length c0_7, .int .i64 a0_8, .int .i64 a0_9, .int .i64 a0_10]) (t := 26) ?_; intro gb216 hg w6 hbox hb; have BK216 := xm (hbox); have GW216 := xZ HB hg; have GE216 := xZ HB hg; replace HB := xS HB hb; clear hb hbox hg) | ((with_reducible refine gate_dst (N := 3) rfl ?_); (try (refine gate_guard (by rfl) ?_; dsimp only)); refine xG (cs := #[.slice A1_0 l1_0.length c1_0, .slice A1_1 l1_1.length c1_1, .slice A1_2 l1_2.length c1_2, .int .i64 a1_3, .int .i64 a1_4]) (t := 41) ?_; intro gb217 hg w7 hbox hb; have BK217 := xm (hbox); have GW217 := xZ HB hg; have GE217 := xZ HB hg; have NB216_217 := xN BK216 hg; have NB217_216 := xM BK216 hg; replace BK216 := xB BK216 hb; replace HB := xS HB hb; clear hb hbox hg; have hnb8 := NB216_217.out; have hnc8 := NB217_216.out; have hcz9_0 := blkc11 BK216.out) | ((with_reducible refine gate_callee (f := 48) rfl ?_); refine xL (some 13) Try.func48 #[.agg #[.string a0_0, .int .i64 a0_1, .int .i64 a0_2, .slice A0_3 l0_3.length c0_3, .slice A0_4 l0_4.length c0_4, .bool a0_5, .bool a0_6, .slice A0_7 l0_7.length c0_7, .int .i64 a0_8, .int .i64 a0_9, .int .i64 a0_10]] rfl ?_; (with_reducible refine (DA3.out _ ?sB).mono ?_); (case sB => exact xW HB); rintro e w10 ⟨rfl, hb⟩; refine ⟨_, rfl, ?_⟩; replace BK216 := xB BK216 hb; replace BK217 := xB BK217 hb; replace HB := xS HB hb; (try clear hb); (try clear hb2); (try clear hk); (try clear hi)))
  (try have hq217_216 := NB217_216.out); (try have hq216_217 := NB216_217.out); (try simp only [Act.put, List.setIfInBounds_toArray, List.set_cons_zero, List.set_cons_succ])
  go_cut [45] (fun vs45 wc => ∃ (kq : Nat) (x45_4 : Bool), vs45 = .bool x45_4 ∧ Aside0 (place_Check.j0 kq x45_4 a0_0 a0_1 a0_2 l0_3 l0_4 a0_5 a0_6 l0_7 a0_8 a0_9 a0_10 l1_0 l1_1 l1_2 a1_3 a1_4 = some r) ∧ Aside0 (kq ≤ k) ∧ Aside0 (wc.heap[gb216]? = some (.cells #[.string a0_0, .int .i64 a0_1, .int .i64 a0_2, (.slice A0_3 l0_3.length c0_3), (.slice A0_4 l0_4.length c0_4), .bool a0_5, .bool a0_6, (.slice A0_7 l0_7.length c0_7), .int .i64 a0_8, .int .i64 a0_9, .int .i64 a0_10] 26 (0, 0))) ∧ Aside0 (wc.heap[gb217]? = some (.cells #[(.slice A1_0 l1_0.length c1_0), (.slice A1_1 l1_1.length c1_1), (.slice A1_2 l1_2.length c1_2), .int .i64 a1_3, .int .i64 a1_4] 41 (0, 0))) ∧ Aside0 (Below w.heap.size w wc))
  case first =>
   have H := HC5.out; clear HC5
   by_cases c11 : (l1_0.length : Int) = (wrap64 (a0_1 * a0_2))
   ·rw [if_pos c11] at H; have c11b0 := beq_iff_eq.mpr c11; have c11b1 := bne_eq_false_iff_eq.mpr c11; clear c11
    (first | rw [c11b0] | (simp only [i64_w, i32_w]; rw [c11b0]) | skip)
    by_cases c12 : (l1_1.length : Int) = (l0_3.length : Int)
    ·rw [if_pos c12] at H; have c12b0 := beq_iff_eq.mpr c12; have c12b1 := bne_eq_false_iff_eq.mpr c12; have c12b2 : (l1_1.length == l0_3.length) = true := by first | simpa using c12 | (simp at c12 ⊢; omega)
     clear c12; have H' := xm H; clear H; have hcz14_0 := blkc5 BK217.out; have hcz15_0 := blkc11 BK216.out
     go_wp2
     go_meet
     case rel => exact ⟨_, (((l1_2.length : Int) != (l0_3.length : Int))), (xrf), H', ⟨by first | omega | exact Nat.le_refl _⟩, ⟨xK BK216⟩, ⟨xK BK217⟩, ⟨xW HB⟩⟩
    ·rw [if_neg c12] at H; have c12b0 := beq_eq_false_iff_ne.mpr c12; have c12b1 := bne_iff_ne.mpr c12; have c12b2 : (l1_1.length == l0_3.length) = false := by first | simpa using c12 | (simp at c12 ⊢; omega)
     have H' := xm H; clear H; have hcz17_0 := blkc5 BK217.out; have hcz18_0 := blkc11 BK216.out
     go_wp2
     go_meet
     case rel => exact ⟨_, (true), (xrf), H', ⟨by first | omega | exact Nat.le_refl _⟩, ⟨xK BK216⟩, ⟨xK BK217⟩, ⟨xW HB⟩⟩
   ·rw [if_neg c11] at H; have c11b0 := beq_eq_false_iff_ne.mpr c11; have c11b1 := bne_iff_ne.mpr c11
    (first | rw [c11b0] | (simp only [i64_w, i32_w]; rw [c11b0]) | skip)
    have H' := xm H; clear H; have hcz20_0 := blkc5 BK217.out; have hcz21_0 := blkc11 BK216.out
    go_wp2
    go_meet
    case rel => exact ⟨_, (true), (xrf), H', ⟨by first | omega | exact Nat.le_refl _⟩, ⟨xK BK216⟩, ⟨xK BK217⟩, ⟨xW HB⟩⟩
  case rest =>
   clear HC5; (try clear p2); (try clear p6); obtain ⟨kq, x45_4, rfl, HA, HJ4, BK216, BK217, HB⟩ := hcut
   cases kq with
   | zero => exact absurd HA.out (by simp [place_Check.j0])
   | succ kj4 =>
    have H := HA.out; clear HA; simp only [place_Check.j0] at H
    by_cases c22 : x45_4 = true
    ·subst c22; rw [if_pos rfl] at H; obtain rfl := Option.some.inj H
     go_wp2
     go_ret; exact ⟨xer, xW HB⟩
    ·obtain rfl := Bool.eq_false_iff.mpr c22; rw [if_neg xF] at H; have H' := xm H; clear H; have hcz24_0 := blkc5 BK217.out
     go_wp2
     go_loopg [49] kj4 (fun kq vs49 w' => ∃ (x49_2 : Int), vs49 = .int .i64 x49_2 ∧ Aside0 (place_Check.l0 kq l1_0 (l1_0.length : Int) x49_2 a0_0 a0_1 a0_2 l0_3 l0_4 a0_5 a0_6 l0_7 a0_8 a0_9 a0_10 l1_0 l1_1 l1_2 a1_3 a1_4 = some r) ∧ Aside0 (kq ≤ kj4) ∧ Aside0 (w'.heap[gb216]? = some (.cells #[.string a0_0, .int .i64 a0_1, .int .i64 a0_2, (.slice A0_3 l0_3.length c0_3), (.slice A0_4 l0_4.length c0_4), .bool a0_5, .bool a0_6, (.slice A0_7 l0_7.length c0_7), .int .i64 a0_8, .int .i64 a0_9, .int .i64 a0_10] 26 (0, 0))) ∧ Aside0 (w'.heap[gb217]? = some (.cells #[(.slice A1_0 l1_0.length c1_0), (.slice A1_1 l1_1.length c1_1), (.slice A1_2 l1_2.length c1_2), .int .i64 a1_3, .int .i64 a1_4] 41 (0, 0))) ∧ Aside0 (Below w.heap.size w w'))
     case atStart => exact ⟨(0), (xrf), H', ⟨Nat.le_refl _⟩, ⟨xK BK216⟩, ⟨xK BK217⟩, ⟨xW HB⟩⟩
     case round =>
      clear H'; (try clear p2); (try clear p6); obtain ⟨x49_2, rfl, HA, HK2, BK216, BK217, HB⟩ := hrel
      cases gk with
      | zero => exact absurd HA.out (by simp [place_Check.l0])
      | succ k2 =>
       have H := HA.out; clear HA; simp only [place_Check.l0] at H
       by_cases c25 : x49_2 < (l1_0.length : Int)
       ·rw [if_pos c25] at H; have c25b0 := decide_eq_true c25; clear c25; obtain ⟨c26b0, H⟩ := xJ H; obtain ⟨c27b0, H⟩ := xJ H
        by_cases c28 : (rd l1_0 x49_2) < 0
        ·rw [if_pos c28] at H; have c28b0 := decide_eq_true c28; clear c28; obtain rfl := Option.some.inj H; have p219 : 0 ≤ (x49_2 : Int) := xO; have q219 : x49_2 < (l1_0.length : Int) := xO; obtain ⟨ad219, e219, hx219_0⟩ := Kd.at_int HR1_0.out x49_2 p219 q219
         cases e219
         replace hx219_0 := xR HB hx219_0; replace p219 := eq_true p219; replace q219 := eq_true q219
         go_wp2
         go_ret; exact ⟨xer, xW HB⟩
        ·rw [if_neg c28] at H; have c28b0 := decide_eq_false c28; clear c28
         by_cases c29 : (rd l1_0 x49_2) > (wrap64 (2 * (l0_3.length : Int)))
         ·rw [if_pos c29] at H; have c29b0 := decide_eq_true c29; clear c29; obtain rfl := Option.some.inj H; have p219 : 0 ≤ (x49_2 : Int) := xO; have q219 : x49_2 < (l1_0.length : Int) := xO; obtain ⟨ad219, e219, hx219_0⟩ := Kd.at_int HR1_0.out x49_2 p219 q219
          cases e219
          replace hx219_0 := xR HB hx219_0; replace p219 := eq_true p219; replace q219 := eq_true q219; have hcz31_0 := blkc11 BK216.out
          go_wp2
          go_ret; exact ⟨xer, xW HB⟩
         ·rw [if_neg c29] at H; have c29b0 := decide_eq_false c29; clear c29; have H' := xm H; clear H; have p219 : 0 ≤ (x49_2 : Int) := xO; have q219 : x49_2 < (l1_0.length : Int) := xO; obtain ⟨ad219, e219, hx219_0⟩ := Kd.at_int HR1_0.out x49_2 p219 q219
          cases e219
          replace hx219_0 := xR HB hx219_0; replace p219 := eq_true p219; replace q219 := eq_true q219; have hcz33_0 := blkc11 BK216.out
          go_wp2
          go_roundg k2
          case measure => have := HJ4.out; have := HK2.out; omega
          case rel => exact ⟨(wrap64 (x49_2 + 1)), (xrf), H', ⟨by have := HJ4.out; have := HK2.out; omega⟩, ⟨xK BK216⟩, ⟨xK BK217⟩, ⟨xW HB⟩⟩
       ·rw [if_neg c25] at H; have c25b0 := decide_eq_false c25; clear c25; have H' := xm H; clear H; have hcz35_0 := blkc5 BK217.out
        go_wp2
        go_loopg [66] k2 (fun kq vs66 w' => ∃ (x66_3 : Int), vs66 = .int .i64 x66_3 ∧ Aside0 (place_Check.l1 kq x66_3 l1_1 l1_2 l1_0 l1_1 l1_2 a1_3 a1_4 = some r) ∧ Aside0 (kq ≤ k2) ∧ Aside0 (w'.heap[gb216]? = some (.cells #[.string a0_0, .int .i64 a0_1, .int .i64 a0_2, (.slice A0_3 l0_3.length c0_3), (.slice A0_4 l0_4.length c0_4), .bool a0_5, .bool a0_6, (.slice A0_7 l0_7.length c0_7), .int .i64 a0_8, .int .i64 a0_9, .int .i64 a0_10] 26 (0, 0))) ∧ Aside0 (w'.heap[gb217]? = some (.cells #[(.slice A1_0 l1_0.length c1_0), (.slice A1_1 l1_1.length c1_1), (.slice A1_2 l1_2.length c1_2), .int .i64 a1_3, .int .i64 a1_4] 41 (0, 0))) ∧ Aside0 (Below w.heap.size w w'))
        case atStart => exact ⟨(0), (xrf), H', ⟨Nat.le_refl _⟩, ⟨xK BK216⟩, ⟨xK BK217⟩, ⟨xW HB⟩⟩
        case round =>
         clear H'; (try clear p2); (try clear q2); (try clear hx2); (try clear p6); (try clear p21); (try clear q21); (try clear hx21); (try clear hx219_0); (try clear p219); (try clear q219); obtain ⟨x66_3, rfl, HA, HK3, BK216, BK217, HB⟩ := hrel
         cases gk with
         | zero => exact absurd HA.out (by simp [place_Check.l1])
         | succ k3 =>
          have H := HA.out; clear HA; simp only [place_Check.l1] at H
          by_cases c36 : x66_3 < 2
          ·rw [if_pos c36] at H; have c36b0 := decide_eq_true c36; clear c36; have HC37 := xm H; clear H
           go_upto_region 14 with (fail)
           go_cut [9] (fun vs9 wc => ∃ (kq : Nat) (x9_36 : List Int) (Ar9 : Option Addr) (cr9 : Nat), vs9 = .slice Ar9 x9_36.length cr9 ∧ Aside0 (Kd.C (Kd.int .i64) w Ar9 x9_36.length x9_36) ∧ Aside0 (x9_36.length ≤ cr9) ∧ Aside0 (place_Check.j3 kq x9_36 x66_3 l1_1 l1_2 l1_0 l1_1 l1_2 a1_3 a1_4 = some r) ∧ Aside0 (kq ≤ k3) ∧ Aside0 (wc.heap[gb216]? = some (.cells #[.string a0_0, .int .i64 a0_1, .int .i64 a0_2, (.slice A0_3 l0_3.length c0_3), (.slice A0_4 l0_4.length c0_4), .bool a0_5, .bool a0_6, (.slice A0_7 l0_7.length c0_7), .int .i64 a0_8, .int .i64 a0_9, .int .i64 a0_10] 26 (0, 0))) ∧ Aside0 (wc.heap[gb217]? = some (.cells #[(.slice A1_0 l1_0.length c1_0), (.slice A1_1 l1_1.length c1_1), (.slice A1_2 l1_2.length c1_2), .int .i64 a1_3, .int .i64 a1_4] 41 (0, 0))) ∧ Aside0 (Below w.heap.size w wc))
           case first =>
            have H := HC37.out; clear HC37; obtain ⟨c38b0, H⟩ := xJ H
            (first | rw [c38b0] | (simp only [i64_w, i32_w]; rw [c38b0]) | skip)
            by_cases c39 : x66_3 = 0
            ·rw [if_pos c39] at H; have c39b0 := beq_iff_eq.mpr c39; have c39b1 := bne_eq_false_iff_eq.mpr c39; clear c39; obtain ⟨c40b, c40g, c40c, c40d⟩ := xar (x66_3 : Int) 0 0 2; have c40i : ∀ (v0_ v1_ : Value) (w_ : World), (Instr.index 39 (.agg #[v0_, v1_]) (.int .i64 x66_3)).run Try.prog w_ = .ok v0_ w_ := by intro v0_ v1_ w_; have h0_ := c40b c40g; simp [Instr.index, asIntOf, part, isAgg, sizeOf, Try.underlying39, c40c, c40d, h0_] <;> simp [show Try.t23.size = 1 from rfl]
             have H' := xm H; clear H
             go_wp2
             go_meet
             case rel => exact ⟨_, (l1_1), (A1_1), (c1_1), rfl, ⟨HR1_1.out⟩, ⟨HC1_1.out⟩, H', ⟨by have := HJ4.out; have := HK2.out; have := HK3.out; first | omega | exact Nat.le_refl _⟩, ⟨xK BK216⟩, ⟨xK BK217⟩, ⟨xW HB⟩⟩
            ·rw [if_neg c39] at H; have c39b0 := beq_eq_false_iff_ne.mpr c39; have c39b1 := bne_iff_ne.mpr c39; obtain ⟨c41b, c41g, c41c, c41d⟩ := xar (x66_3 : Int) 1 1 2; have c41i : ∀ (v0_ v1_ : Value) (w_ : World), (Instr.index 39 (.agg #[v0_, v1_]) (.int .i64 x66_3)).run Try.prog w_ = .ok v1_ w_ := by intro v0_ v1_ w_; have h0_ := c41b c41g; simp [Instr.index, asIntOf, part, isAgg, sizeOf, Try.underlying39, c41c, c41d, h0_] <;> simp [show Try.t23.size = 1 from rfl]
             have H' := xm H; clear H
             go_wp2
             go_meet
             case rel => exact ⟨_, (l1_2), (A1_2), (c1_2), rfl, ⟨HR1_2.out⟩, ⟨HC1_2.out⟩, H', ⟨by have := HJ4.out; have := HK2.out; have := HK3.out; first | omega | exact Nat.le_refl _⟩, ⟨xK BK216⟩, ⟨xK BK217⟩, ⟨xW HB⟩⟩
           case rest =>
            clear HC37; (try clear p2); (try clear q2); (try clear hx2); (try clear p6); (try clear p21); (try clear q21); (try clear hx21); (try clear hx219_0); (try clear p219); (try clear q219); obtain ⟨kq, x9_36, Ar9, cr9, rfl, HR_9, HC_9, HA, HJ36, BK216, BK217, HB⟩ := hcut
            cases kq with
            | zero => exact absurd HA.out (by simp [place_Check.j3])
            | succ kj36 =>
             have H := HA.out; clear HA; simp only [place_Check.j3] at H; have H' := xm H; clear H
             go_wp2
             go_loopg [71] kj36 (fun kq vs71 w' => ∃ (x71_5 : Int), vs71 = .int .i64 x71_5 ∧ Aside0 (place_Check.l2 kq x66_3 x9_36 (x9_36.length : Int) x71_5 l1_1 l1_2 l1_0 l1_1 l1_2 a1_3 a1_4 = some r) ∧ Aside0 (kq ≤ kj36) ∧ Aside0 (w'.heap[gb216]? = some (.cells #[.string a0_0, .int .i64 a0_1, .int .i64 a0_2, (.slice A0_3 l0_3.length c0_3), (.slice A0_4 l0_4.length c0_4), .bool a0_5, .bool a0_6, (.slice A0_7 l0_7.length c0_7), .int .i64 a0_8, .int .i64 a0_9, .int .i64 a0_10] 26 (0, 0))) ∧ Aside0 (w'.heap[gb217]? = some (.cells #[(.slice A1_0 l1_0.length c1_0), (.slice A1_1 l1_1.length c1_1), (.slice A1_2 l1_2.length c1_2), .int .i64 a1_3, .int .i64 a1_4] 41 (0, 0))) ∧ Aside0 (Below w.heap.size w w'))
             case atStart => exact ⟨(0), (xrf), H', ⟨Nat.le_refl _⟩, ⟨xK BK216⟩, ⟨xK BK217⟩, ⟨xW HB⟩⟩
             case round =>
              clear H'; (try clear p2); (try clear q2); (try clear hx2); (try clear p6); (try clear p21); (try clear q21); (try clear hx21); (try clear hx219_0); (try clear p219); (try clear q219); obtain ⟨x71_5, rfl, HA, HK5, BK216, BK217, HB⟩ := hrel
              cases gk with
              | zero => exact absurd HA.out (by simp [place_Check.l2])
              | succ k5 =>
               have H := HA.out; clear HA; simp only [place_Check.l2] at H
               by_cases c42 : x71_5 < (x9_36.length : Int)
               ·rw [if_pos c42] at H; have c42b0 := decide_eq_true c42; clear c42; obtain ⟨c43b0, H⟩ := xJ H; obtain ⟨c44b0, H⟩ := xJ H
                by_cases c45 : (rd x9_36 x71_5) < 0
                ·rw [if_pos c45] at H; have c45b0 := decide_eq_true c45; clear c45; obtain rfl := Option.some.inj H; have p220 : 0 ≤ (x71_5 : Int) := xO; have q220 : x71_5 < (x9_36.length : Int) := xO; obtain ⟨ad220, e220, hx220_0⟩ := Kd.at_int HR_9.out x71_5 p220 q220
                 cases e220
                 replace hx220_0 := xR HB hx220_0; replace p220 := eq_true p220; replace q220 := eq_true q220
                 go_wp2
                 go_ret; exact ⟨xer, xW HB⟩
                ·rw [if_neg c45] at H; have c45b0 := decide_eq_false c45; clear c45
                 by_cases c46 : (rd x9_36 x71_5) > 1000
                 ·rw [if_pos c46] at H; have c46b0 := decide_eq_true c46; clear c46; obtain rfl := Option.some.inj H; have p220 : 0 ≤ (x71_5 : Int) := xO; have q220 : x71_5 < (x9_36.length : Int) := xO; obtain ⟨ad220, e220, hx220_0⟩ := Kd.at_int HR_9.out x71_5 p220 q220
                  cases e220
                  replace hx220_0 := xR HB hx220_0; replace p220 := eq_true p220; replace q220 := eq_true q220
                  go_wp2
                  go_ret; exact ⟨xer, xW HB⟩
                 ·rw [if_neg c46] at H; have c46b0 := decide_eq_false c46; clear c46; have H' := xm H; clear H; have p220 : 0 ≤ (x71_5 : Int) := xO; have q220 : x71_5 < (x9_36.length : Int) := xO; obtain ⟨ad220, e220, hx220_0⟩ := Kd.at_int HR_9.out x71_5 p220 q220
                  cases e220
                  replace hx220_0 := xR HB hx220_0; replace p220 := eq_true p220; replace q220 := eq_true q220
                  go_wp2
                  go_roundg k5
                  case measure => have := HJ4.out; have := HK2.out; have := HK3.out; have := HJ36.out; have := HK5.out; omega
                  case rel => exact ⟨(wrap64 (x71_5 + 1)), (xrf), H', ⟨by have := HJ4.out; have := HK2.out; have := HK3.out; have := HJ36.out; have := HK5.out; omega⟩, ⟨xK BK216⟩, ⟨xK BK217⟩, ⟨xW HB⟩⟩
               ·rw [if_neg c42] at H; have c42b0 := decide_eq_false c42; clear c42; have H' := xm H; clear H
                go_wp2
                go_roundg k5
                case measure => have := HJ4.out; have := HK2.out; have := HK3.out; have := HJ36.out; have := HK5.out; omega
                case rel => exact ⟨(wrap64 (x66_3 + 1)), (xrf), H', ⟨by have := HJ4.out; have := HK2.out; have := HK3.out; have := HJ36.out; have := HK5.out; omega⟩, ⟨xK BK216⟩, ⟨xK BK217⟩, ⟨xW HB⟩⟩
          ·rw [if_neg c36] at H; have c36b0 := decide_eq_false c36; clear c36
           by_cases c47 : a1_3 = 0
           ·rw [if_pos c47] at H; have c47b0 := beq_iff_eq.mpr c47; have c47b1 := bne_eq_false_iff_eq.mpr c47; clear c47
            by_cases c48 : a1_4 < 0
            ·rw [if_pos c48] at H; have c48b0 := decide_eq_true c48; clear c48; obtain rfl := Option.some.inj H; have hcz50_0 := blkc5 BK217.out
             go_wp2
             go_ret; exact ⟨xer, xW HB⟩
            ·rw [if_neg c48] at H; have c48b0 := decide_eq_false c48; clear c48
             by_cases c51 : a1_4 > 200
             ·rw [if_pos c51] at H; have c51b0 := decide_eq_true c51; clear c51; obtain rfl := Option.some.inj H; have hcz53_0 := blkc5 BK217.out
              go_wp2
              go_ret; exact ⟨xer, xW HB⟩
             ·rw [if_neg c51] at H; have c51b0 := decide_eq_false c51; clear c51; obtain rfl := Option.some.inj H; have hcz55_0 := blkc5 BK217.out
              go_wp2
              go_ret; exact ⟨xer, xW HB⟩
           ·rw [if_neg c47] at H; have c47b0 := beq_eq_false_iff_ne.mpr c47; have c47b1 := bne_iff_ne.mpr c47
            by_cases c56 : a1_3 = 1
            ·rw [if_pos c56] at H; have c56b0 := beq_iff_eq.mpr c56; have c56b1 := bne_eq_false_iff_eq.mpr c56; clear c56
             by_cases c57 : a1_4 < 0
             ·rw [if_pos c57] at H; have c57b0 := decide_eq_true c57; clear c57; obtain rfl := Option.some.inj H; have hcz59_0 := blkc5 BK217.out
              go_wp2
              go_ret; exact ⟨xer, xW HB⟩
             ·rw [if_neg c57] at H; have c57b0 := decide_eq_false c57; clear c57
              by_cases c60 : a1_4 > 200
              ·rw [if_pos c60] at H; have c60b0 := decide_eq_true c60; clear c60; obtain rfl := Option.some.inj H; have hcz62_0 := blkc5 BK217.out
               go_wp2
               go_ret; exact ⟨xer, xW HB⟩
              ·rw [if_neg c60] at H; have c60b0 := decide_eq_false c60; clear c60; obtain rfl := Option.some.inj H; have hcz64_0 := blkc5 BK217.out
               go_wp2
               go_ret; exact ⟨xer, xW HB⟩
            ·rw [if_neg c56] at H; have c56b0 := beq_eq_false_iff_ne.mpr c56; have c56b1 := bne_iff_ne.mpr c56; obtain rfl := Option.some.inj H; have hcz66_0 := blkc5 BK217.out
             go_wp2
             go_ret; exact ⟨xer, xW HB⟩
 ·rw [if_neg c4] at H; have c4b0 := beq_eq_false_iff_ne.mpr c4; have c4b1 := bne_iff_ne.mpr c4; obtain rfl := Option.some.inj H; go_enter Try.func22, Try.ntmps22; go_wp2_with (first | ((with_reducible refine gate_dst (N := 2) rfl ?_); (try (refine gate_guard (by rfl) ?_; dsimp only)); refine xG (cs := #[.string a0_0, .int .i64 a0_1, .int .i64 a0_2, .slice A0_3 l0_3.length c0_3, .slice A0_4 l0_4.length c0_4, .bool a0_5, .bool a0_6, .slice A0_7 l0_7.length c0_7, .int .i64 a0_8, .int .i64 a0_9, .int .i64 a0_10]) (t := 26) ?_; intro gb216 hg w67 hbox hb; have BK216 := xm (hbox); have GW216 := xZ HB hg; have GE216 := xZ HB hg; replace HB := xS HB hb; clear hb hbox hg) | ((with_reducible refine gate_dst (N := 3) rfl ?_); (try (refine gate_guard (by rfl) ?_; dsimp only)); refine xG (cs := #[.slice A1_0 l1_0.length c1_0, .slice A1_1 l1_1.length c1_1, .slice A1_2 l1_2.length c1_2, .int .i64 a1_3, .int .i64 a1_4]) (t := 41) ?_; intro gb217 hg w68 hbox hb; have BK217 := xm (hbox); have GW217 := xZ HB hg; have GE217 := xZ HB hg; have NB216_217 := xN BK216 hg; have NB217_216 := xM BK216 hg; replace BK216 := xB BK216 hb; replace HB := xS HB hb; clear hb hbox hg; have hnb69 := NB216_217.out; have hnc69 := NB217_216.out; have hcz70_0 := blkc11 BK216.out) | ((with_reducible refine gate_callee (f := 48) rfl ?_); refine xL (some 13) Try.func48 #[.agg #[.string a0_0, .int .i64 a0_1, .int .i64 a0_2, .slice A0_3 l0_3.length c0_3, .slice A0_4 l0_4.length c0_4, .bool a0_5, .bool a0_6, .slice A0_7 l0_7.length c0_7, .int .i64 a0_8, .int .i64 a0_9, .int .i64 a0_10]] rfl ?_; (with_reducible refine (DA3.out _ ?sB).mono ?_); (case sB => exact xW HB); rintro e w71 ⟨rfl, hb⟩; refine ⟨_, rfl, ?_⟩; replace BK216 := xB BK216 hb; replace BK217 := xB BK217 hb; replace HB := xS HB hb; (try clear hb); (try clear hb2); (try clear hk); (try clear hi))); go_ret; exact ⟨xer, xW HB⟩

/-! ### moves_Owner: function 72 -/
def moves_Owner.f (a0 : Int) : Option (Int) := if a0 = 0 then (some (-1)) else (some (Int.tmod (wrap64 (a0 - 1)) 2))
theorem moves_Owner.calls (a0 : Int) (r : Int) (w : World) (h : moves_Owner.f a0 = some r) :
    Calls Try.prog 72 #[.int .i64 a0] w fun e w' => e = .returned (.int .i64 r) ∧ Drawn0 w w' := by
 have H : (if a0 = 0 then (some (-1)) else (some (Int.tmod (wrap64 (a0 - 1)) 2))) = some r := h; clear h
 by_cases c2 : a0 = 0
 ·rw [if_pos c2] at H; have c2b0 := beq_iff_eq.mpr c2; have c2b1 := bne_eq_false_iff_eq.mpr c2; clear c2; obtain rfl := Option.some.inj H; go_enter Try.func72, Try.ntmps72
  go_wp2
  go_ret; exact ⟨xrf, by repeat (first | exact Drawn0.refl _ | apply Drawn0.step)⟩
 ·rw [if_neg c2] at H; have c2b0 := beq_eq_false_iff_ne.mpr c2; have c2b1 := bne_iff_ne.mpr c2; obtain rfl := Option.some.inj H; go_enter Try.func72, Try.ntmps72
  go_wp2
  go_ret; exact ⟨xrf, by repeat (first | exact Drawn0.refl _ | apply Drawn0.step)⟩

/-! ### moves_open: function 80 -/
def moves_open.l0 : Nat → Int → ByteArray → Int → Int → List (S104) → List Int → Bool → Bool → List (S98) → Int → Int → Int → List Int → List Int → List Int → Int → Int → Option (Bool)
  | 0, _, _, _, _, _, _, _, _, _, _, _, _, _, _, _, _, _ => none
  | k + 1, x7, z226a, z226b, z226c, z226d, z226e, z226f, z226g, z226h, z226i, z226j, z226k, z227a, z227b, z227c, z227d, z227e => if x7 ≥ 0 then (if 0 ≤ x7 then (if x7 < (z227a.length : Int) then (if (rd z227a x7) = 0 then (some false) else (moves_open.l0 k (wrap64 (x7 - z226b)) z226a z226b z226c z226d z226e z226f z226g z226h z226i z226j z226k z227a z227b z227c z227d z227e)) else (none)) else (none)) else (some true)
def moves_open.f (k : Nat) (a0_0 : ByteArray) (a0_1 : Int) (a0_2 : Int) (l0_3 : List (S104)) (l0_4 : List Int) (a0_5 : Bool) (a0_6 : Bool) (l0_7 : List (S98)) (a0_8 : Int) (a0_9 : Int) (a0_10 : Int) (l1_0 : List Int) (l1_1 : List Int) (l1_2 : List Int) (a1_3 : Int) (a1_4 : Int) (a2 : Int) : Option (Bool) := if 0 ≤ a2 then (if a2 < (l1_0.length : Int) then (if (rd l1_0 a2) = 0 then (if a0_5 = true then (moves_open.l0 k (wrap64 (a2 - a0_1)) a0_0 a0_1 a0_2 l0_3 l0_4 a0_5 a0_6 l0_7 a0_8 a0_9 a0_10 l1_0 l1_1 l1_2 a1_3 a1_4) else (some true)) else (some false)) else (none)) else (none)
theorem moves_open.mono_l : ∀ k, L10 (L5 (LM (LM (LeO)))) (moves_open.l0 k) (moves_open.l0 (k + 1))
  | 0 => by (repeat (first | exact LeO.none _ | intro _))
  | k + 1 => by
    have ih0 := moves_open.mono_l k
    ((repeat (first | (with_reducible refine LeO.st ?_) | intro _)); constructor; (first | unfold moves_open.l0); repeat' first | (with_reducible first | apply ih0 | exact LeO.refl _ | exact LeO.none _ | refine LeO.ite ?_ ?_ | refine LeO.bind ?_ (fun _ => ?_)) | apply ih0 | exact LeO.none _ | refine LeO.ite ?_ ?_ | refine LeO.bind ?_ (fun _ => ?_))
theorem moves_open.mono : ∀ a0 a1 a2 a3 a4 a5 a6 a7 a8 a9 a10 a11 a12 a13 a14 a15 a16 k, LeO (moves_open.f k a0 a1 a2 a3 a4 a5 a6 a7 a8 a9 a10 a11 a12 a13 a14 a15 a16) (moves_open.f (k + 1) a0 a1 a2 a3 a4 a5 a6 a7 a8 a9 a10 a11 a12 a13 a14 a15 a16) := by
  intros; rename_i k; have ih0 := moves_open.mono_l k
  unfold moves_open.f
  repeat' first | (with_reducible first | apply ih0 | exact LeO.refl _ | exact LeO.none _ | refine LeO.ite ?_ ?_ | refine LeO.bind ?_ (fun _ => ?_)) | apply ih0 | exact LeO.none _ | refine LeO.ite ?_ ?_ | refine LeO.bind ?_ (fun _ => ?_)
theorem moves_open.calls (k : Nat) (a0_0 : ByteArray) (a0_1 : Int) (a0_2 : Int) (A0_3 : Option Addr) (c0_3 : Nat) (l0_3 : List (S104)) (A0_4 : Option Addr) (c0_4 : Nat) (l0_4 : List Int) (a0_5 : Bool) (a0_6 : Bool) (A0_7 : Option Addr) (c0_7 : Nat) (l0_7 : List (S98)) (a0_8 : Int) (a0_9 : Int) (a0_10 : Int) (A1_0 : Option Addr) (c1_0 : Nat) (l1_0 : List Int) (A1_1 : Option Addr) (c1_1 : Nat) (l1_1 : List Int) (A1_2 : Option Addr) (c1_2 : Nat) (l1_2 : List Int) (a1_3 : Int) (a1_4 : Int) (a2 : Int) (r : Bool) (w : World) (hr0_3 : Kd.C k104 w A0_3 l0_3.length l0_3) (hc0_3 : l0_3.length ≤ c0_3) (hr0_4 : Kd.C (Kd.int .i64) w A0_4 l0_4.length l0_4) (hc0_4 : l0_4.length ≤ c0_4) (hr0_7 : Kd.C k98 w A0_7 l0_7.length l0_7) (hc0_7 : l0_7.length ≤ c0_7) (hr1_0 : Kd.C (Kd.int .i64) w A1_0 l1_0.length l1_0) (hc1_0 : l1_0.length ≤ c1_0) (hr1_1 : Kd.C (Kd.int .i64) w A1_1 l1_1.length l1_1) (hc1_1 : l1_1.length ≤ c1_1) (hr1_2 : Kd.C (Kd.int .i64) w A1_2 l1_2.length l1_2) (hc1_2 : l1_2.length ≤ c1_2) (h : moves_open.f k a0_0 a0_1 a0_2 l0_3 l0_4 a0_5 a0_6 l0_7 a0_8 a0_9 a0_10 l1_0 l1_1 l1_2 a1_3 a1_4 a2 = some r) :
    Calls Try.prog 80 #[.agg #[.string a0_0, .int .i64 a0_1, .int .i64 a0_2, .slice A0_3 l0_3.length c0_3, .slice A0_4 l0_4.length c0_4, .bool a0_5, .bool a0_6, .slice A0_7 l0_7.length c0_7, .int .i64 a0_8, .int .i64 a0_9, .int .i64 a0_10], .agg #[.slice A1_0 l1_0.length c1_0, .slice A1_1 l1_1.length c1_1, .slice A1_2 l1_2.length c1_2, .int .i64 a1_3, .int .i64 a1_4], .int .i64 a2] w fun e w' => e = .returned (.bool r) ∧ Below w.heap.size w w' := by
 have hu26 := Try.underlying26; have hu41 := Try.underlying41; have HR0_3 := xm hr0_3; have HC0_3 := xm hc0_3; clear hr0_3 hc0_3; have HR0_4 := xm hr0_4; have HC0_4 := xm hc0_4; clear hr0_4 hc0_4; have HR0_7 := xm hr0_7; have HC0_7 := xm hc0_7; clear hr0_7 hc0_7; have HR1_0 := xm hr1_0; have HC1_0 := xm hc1_0; clear hr1_0 hc1_0; have HR1_1 := xm hr1_1; have HC1_1 := xm hc1_1; clear hr1_1 hc1_1; have HR1_2 := xm hr1_2; have HC1_2 := xm hc1_2; clear hr1_2 hc1_2; have HB := xm (Below.refl w.heap.size w); have hss_ := @isSome_setCell; have H : (if 0 ≤ a2 then (if a2 < (l1_0.length : Int) then (if (rd l1_0 a2) = 0 then (if a0_5 = true then (moves_open.l0 k (wrap64 (a2 - a0_1)) a0_0 a0_1 a0_2 l0_3 l0_4 a0_5 a0_6 l0_7 a0_8 a0_9 a0_10 l1_0 l1_1 l1_2 a1_3 a1_4) else (some true)) else (some false)) else (none)) else (none)) = some r := h; clear h; obtain ⟨c4b0, H⟩ := xJ H; obtain ⟨c5b0, H⟩ := xJ H
 by_cases c6 : (rd l1_0 a2) = 0
 ·rw [if_pos c6] at H; have c6b0 := beq_iff_eq.mpr c6; have c6b1 := bne_eq_false_iff_eq.mpr c6; clear c6
  by_cases c7 : a0_5 = true
  ·subst c7; rw [if_pos rfl] at H; have H' := xm H; clear H; go_enter Try.func80, Try.ntmps80; go_wp2_with (first | ((with_reducible refine gate_dst (N := 3) rfl ?_); refine xG (cs := #[.string a0_0, .int .i64 a0_1, .int .i64 a0_2, .slice A0_3 l0_3.length c0_3, .slice A0_4 l0_4.length c0_4, .bool true, .bool a0_6, .slice A0_7 l0_7.length c0_7, .int .i64 a0_8, .int .i64 a0_9, .int .i64 a0_10]) (t := 26) ?_; intro gb225 hg w8 hbox hb; have BK225 := xm (hbox); have GW225 := xZ HB hg; have GE225 := xZ HB hg; replace HB := xS HB hb; clear hb hbox hg) | ((with_reducible refine gate_dst (N := 4) rfl ?_); refine xG (cs := #[.slice A1_0 l1_0.length c1_0, .slice A1_1 l1_1.length c1_1, .slice A1_2 l1_2.length c1_2, .int .i64 a1_3, .int .i64 a1_4]) (t := 41) ?_; intro gb226 hg w9 hbox hb; have BK226 := xm (hbox); have GW226 := xZ HB hg; have GE226 := xZ HB hg; have NB225_226 := xN BK225 hg; have NB226_225 := xM BK225 hg; replace BK225 := xB BK225 hb; replace HB := xS HB hb; clear hb hbox hg; have hnb10 := NB226_225.out; have hnc10 := NB225_226.out; have hcz11_0 := blkc5 BK226.out; have p227 : 0 ≤ (a2 : Int) := xO; have q227 : a2 < (l1_0.length : Int) := xO; obtain ⟨ad227, e227, hx227_0⟩ := Kd.at_int HR1_0.out a2 p227 q227; cases e227; replace hx227_0 := xR HB hx227_0; replace p227 := eq_true p227; replace q227 := eq_true q227; have hcz12_0 := blkc11 BK225.out)); (try have hq226_225 := NB226_225.out); (try have hq225_226 := NB225_226.out)
   go_loopg [7] k (fun kq vs7 w' => ∃ (x7_1 : Int), vs7 = .int .i64 x7_1 ∧ Aside0 (moves_open.l0 kq x7_1 a0_0 a0_1 a0_2 l0_3 l0_4 true a0_6 l0_7 a0_8 a0_9 a0_10 l1_0 l1_1 l1_2 a1_3 a1_4 = some r) ∧ Aside0 (kq ≤ k) ∧ Aside0 (w'.heap[gb225]? = some (.cells #[.string a0_0, .int .i64 a0_1, .int .i64 a0_2, (.slice A0_3 l0_3.length c0_3), (.slice A0_4 l0_4.length c0_4), .bool true, .bool a0_6, (.slice A0_7 l0_7.length c0_7), .int .i64 a0_8, .int .i64 a0_9, .int .i64 a0_10] 26 (0, 0))) ∧ Aside0 (w'.heap[gb226]? = some (.cells #[(.slice (some ad227) l1_0.length c1_0), (.slice A1_1 l1_1.length c1_1), (.slice A1_2 l1_2.length c1_2), .int .i64 a1_3, .int .i64 a1_4] 41 (0, 0))) ∧ Aside0 (Below w.heap.size w w'))
   case atStart => exact ⟨(wrap64 (a2 - a0_1)), (xrf), H', ⟨Nat.le_refl _⟩, ⟨xK BK225⟩, ⟨xK BK226⟩, ⟨xW HB⟩⟩
   case round =>
    clear H'; (try clear p2); (try clear q2); (try clear hx2); (try clear p6); (try clear hx227_0); (try clear p227); (try clear q227); obtain ⟨x7_1, rfl, HA, HK1, BK225, BK226, HB⟩ := hrel
    cases gk with
    | zero => exact absurd HA.out (by simp [moves_open.l0])
    | succ k1 =>
     have H := HA.out; clear HA; simp only [moves_open.l0] at H
     by_cases c13 : x7_1 ≥ 0
     ·rw [if_pos c13] at H; have c13b0 := decide_eq_true c13; clear c13; obtain ⟨c14b0, H⟩ := xJ H; obtain ⟨c15b0, H⟩ := xJ H
      by_cases c16 : (rd l1_0 x7_1) = 0
      ·rw [if_pos c16] at H; have c16b0 := beq_iff_eq.mpr c16; have c16b1 := bne_eq_false_iff_eq.mpr c16; clear c16; obtain rfl := Option.some.inj H; have hcz18_0 := blkc5 BK226.out; have p228 : 0 ≤ (x7_1 : Int) := xO; have q228 : x7_1 < (l1_0.length : Int) := xO; obtain ⟨ad228, e228, hx228_0⟩ := Kd.at_int HR1_0.out x7_1 p228 q228; obtain rfl : ad227 = ad228 := (by injection e228)
       replace hx228_0 := xR HB hx228_0; replace p228 := eq_true p228; replace q228 := eq_true q228
       go_wp2
       go_ret; exact ⟨xer, xW HB⟩
      ·rw [if_neg c16] at H; have c16b0 := beq_eq_false_iff_ne.mpr c16; have c16b1 := bne_iff_ne.mpr c16; have H' := xm H; clear H; have hcz20_0 := blkc5 BK226.out; have p228 : 0 ≤ (x7_1 : Int) := xO; have q228 : x7_1 < (l1_0.length : Int) := xO; obtain ⟨ad228, e228, hx228_0⟩ := Kd.at_int HR1_0.out x7_1 p228 q228; obtain rfl : ad227 = ad228 := (by injection e228)
       replace hx228_0 := xR HB hx228_0; replace p228 := eq_true p228; replace q228 := eq_true q228; have hcz21_0 := blkc11 BK225.out
       go_wp2
       go_roundg k1
       case measure => have := HK1.out; omega
       case rel => exact ⟨(wrap64 (x7_1 - a0_1)), (xrf), H', ⟨by have := HK1.out; omega⟩, ⟨xK BK225⟩, ⟨xK BK226⟩, ⟨xW HB⟩⟩
     ·rw [if_neg c13] at H; have c13b0 := decide_eq_false c13; clear c13; obtain rfl := Option.some.inj H
      go_wp2
      go_ret; exact ⟨xer, xW HB⟩
  ·obtain rfl := Bool.eq_false_iff.mpr c7; rw [if_neg xF] at H; obtain rfl := Option.some.inj H; go_enter Try.func80, Try.ntmps80; go_wp2_with (first | ((with_reducible refine gate_dst (N := 3) rfl ?_); refine xG (cs := #[.string a0_0, .int .i64 a0_1, .int .i64 a0_2, .slice A0_3 l0_3.length c0_3, .slice A0_4 l0_4.length c0_4, .bool false, .bool a0_6, .slice A0_7 l0_7.length c0_7, .int .i64 a0_8, .int .i64 a0_9, .int .i64 a0_10]) (t := 26) ?_; intro gb225 hg w22 hbox hb; have BK225 := xm (hbox); have GW225 := xZ HB hg; have GE225 := xZ HB hg; replace HB := xS HB hb; clear hb hbox hg) | ((with_reducible refine gate_dst (N := 4) rfl ?_); refine xG (cs := #[.slice A1_0 l1_0.length c1_0, .slice A1_1 l1_1.length c1_1, .slice A1_2 l1_2.length c1_2, .int .i64 a1_3, .int .i64 a1_4]) (t := 41) ?_; intro gb226 hg w23 hbox hb; have BK226 := xm (hbox); have GW226 := xZ HB hg; have GE226 := xZ HB hg; have NB225_226 := xN BK225 hg; have NB226_225 := xM BK225 hg; replace BK225 := xB BK225 hb; replace HB := xS HB hb; clear hb hbox hg; have hnb24 := NB226_225.out; have hnc24 := NB225_226.out; have hcz25_0 := blkc5 BK226.out; have p227 : 0 ≤ (a2 : Int) := xO; have q227 : a2 < (l1_0.length : Int) := xO; obtain ⟨ad227, e227, hx227_0⟩ := Kd.at_int HR1_0.out a2 p227 q227; cases e227; replace hx227_0 := xR HB hx227_0; replace p227 := eq_true p227; replace q227 := eq_true q227; have hcz26_0 := blkc11 BK225.out)); go_ret; exact ⟨xer, xW HB⟩
 ·rw [if_neg c6] at H; have c6b0 := beq_eq_false_iff_ne.mpr c6; have c6b1 := bne_iff_ne.mpr c6; obtain rfl := Option.some.inj H; go_enter Try.func80, Try.ntmps80; go_wp2_with (first | ((with_reducible refine gate_dst (N := 3) rfl ?_); refine xG (cs := #[.string a0_0, .int .i64 a0_1, .int .i64 a0_2, .slice A0_3 l0_3.length c0_3, .slice A0_4 l0_4.length c0_4, .bool a0_5, .bool a0_6, .slice A0_7 l0_7.length c0_7, .int .i64 a0_8, .int .i64 a0_9, .int .i64 a0_10]) (t := 26) ?_; intro gb225 hg w27 hbox hb; have BK225 := xm (hbox); have GW225 := xZ HB hg; have GE225 := xZ HB hg; replace HB := xS HB hb; clear hb hbox hg) | ((with_reducible refine gate_dst (N := 4) rfl ?_); refine xG (cs := #[.slice A1_0 l1_0.length c1_0, .slice A1_1 l1_1.length c1_1, .slice A1_2 l1_2.length c1_2, .int .i64 a1_3, .int .i64 a1_4]) (t := 41) ?_; intro gb226 hg w28 hbox hb; have BK226 := xm (hbox); have GW226 := xZ HB hg; have GE226 := xZ HB hg; have NB225_226 := xN BK225 hg; have NB226_225 := xM BK225 hg; replace BK225 := xB BK225 hb; replace HB := xS HB hb; clear hb hbox hg; have hnb29 := NB226_225.out; have hnc29 := NB225_226.out; have hcz30_0 := blkc5 BK226.out; have p227 : 0 ≤ (a2 : Int) := xO; have q227 : a2 < (l1_0.length : Int) := xO; obtain ⟨ad227, e227, hx227_0⟩ := Kd.at_int HR1_0.out a2 p227 q227; cases e227; replace hx227_0 := xR HB hx227_0; replace p227 := eq_true p227; replace q227 := eq_true q227)); go_ret; exact ⟨xer, xW HB⟩

/-! ### rules_Far: function 87 -/
def rules_Far.f (a0_0 : ByteArray) (a0_1 : Int) (a0_2 : Int) (l0_3 : List (S104)) (l0_4 : List Int) (a0_5 : Bool) (a0_6 : Bool) (l0_7 : List (S98)) (a0_8 : Int) (a0_9 : Int) (a0_10 : Int) (a1 : Int) (a2 : Int) : Option (Bool) := if a1 = 0 then (if a0_1 = 0 then (none) else (some ((wrap64 (Int.tdiv a2 a0_1)) == (wrap64 (a0_2 - 1))))) else (if a0_1 = 0 then (none) else (some ((wrap64 (Int.tdiv a2 a0_1)) == 0)))
theorem rules_Far.calls (a0_0 : ByteArray) (a0_1 : Int) (a0_2 : Int) (A0_3 : Option Addr) (c0_3 : Nat) (l0_3 : List (S104)) (A0_4 : Option Addr) (c0_4 : Nat) (l0_4 : List Int) (a0_5 : Bool) (a0_6 : Bool) (A0_7 : Option Addr) (c0_7 : Nat) (l0_7 : List (S98)) (a0_8 : Int) (a0_9 : Int) (a0_10 : Int) (a1 : Int) (a2 : Int) (r : Bool) (w : World) (hr0_3 : Kd.C k104 w A0_3 l0_3.length l0_3) (hc0_3 : l0_3.length ≤ c0_3) (hr0_4 : Kd.C (Kd.int .i64) w A0_4 l0_4.length l0_4) (hc0_4 : l0_4.length ≤ c0_4) (hr0_7 : Kd.C k98 w A0_7 l0_7.length l0_7) (hc0_7 : l0_7.length ≤ c0_7) (h : rules_Far.f a0_0 a0_1 a0_2 l0_3 l0_4 a0_5 a0_6 l0_7 a0_8 a0_9 a0_10 a1 a2 = some r) :
    Calls Try.prog 87 #[.agg #[.string a0_0, .int .i64 a0_1, .int .i64 a0_2, .slice A0_3 l0_3.length c0_3, .slice A0_4 l0_4.length c0_4, .bool a0_5, .bool a0_6, .slice A0_7 l0_7.length c0_7, .int .i64 a0_8, .int .i64 a0_9, .int .i64 a0_10], .int .i64 a1, .int .i64 a2] w fun e w' => e = .returned (.bool r) ∧ Below w.heap.size w w' := by
 have hu26 := Try.underlying26; have HR0_3 := xm hr0_3; have HC0_3 := xm hc0_3; clear hr0_3 hc0_3; have HR0_4 := xm hr0_4; have HC0_4 := xm hc0_4; clear hr0_4 hc0_4; have HR0_7 := xm hr0_7; have HC0_7 := xm hc0_7; clear hr0_7 hc0_7; have HB := xm (Below.refl w.heap.size w); have hss_ := @isSome_setCell; have H : (if a1 = 0 then (if a0_1 = 0 then (none) else (some ((wrap64 (Int.tdiv a2 a0_1)) == (wrap64 (a0_2 - 1))))) else (if a0_1 = 0 then (none) else (some ((wrap64 (Int.tdiv a2 a0_1)) == 0)))) = some r := h; clear h
 by_cases c4 : a1 = 0
 ·rw [if_pos c4] at H; have c4b0 := beq_iff_eq.mpr c4; have c4b1 := bne_eq_false_iff_eq.mpr c4; clear c4
  by_cases c5 : a0_1 = 0
  ·rw [if_pos c5] at H; exact absurd H (by simp)
  ·rw [if_neg c5] at H; have c5b0 := beq_eq_false_iff_ne.mpr c5; have c5b1 := bne_iff_ne.mpr c5; obtain rfl := Option.some.inj H; go_enter Try.func87, Try.ntmps87; go_wp2_with (first | ((with_reducible refine gate_dst (N := 3) rfl ?_); refine xG (cs := #[.string a0_0, .int .i64 a0_1, .int .i64 a0_2, .slice A0_3 l0_3.length c0_3, .slice A0_4 l0_4.length c0_4, .bool a0_5, .bool a0_6, .slice A0_7 l0_7.length c0_7, .int .i64 a0_8, .int .i64 a0_9, .int .i64 a0_10]) (t := 26) ?_; intro gb229 hg w6 hbox hb; have BK229 := xm (hbox); have GW229 := xZ HB hg; have GE229 := xZ HB hg; replace HB := xS HB hb; clear hb hbox hg; have hcz7_0 := blkc11 BK229.out))
   repeat (go_quiet (first | ((with_reducible refine gate_dst (N := 3) rfl ?_); refine xG (cs := #[.string a0_0, .int .i64 a0_1, .int .i64 a0_2, .slice A0_3 l0_3.length c0_3, .slice A0_4 l0_4.length c0_4, .bool a0_5, .bool a0_6, .slice A0_7 l0_7.length c0_7, .int .i64 a0_8, .int .i64 a0_9, .int .i64 a0_10]) (t := 26) ?_; intro gb229 hg w6 hbox hb; have BK229 := xm (hbox); have GW229 := xZ HB hg; have GE229 := xZ HB hg; replace HB := xS HB hb; clear hb hbox hg; have hcz7_0 := blkc11 BK229.out)); try go_wp2_with (first | ((with_reducible refine gate_dst (N := 3) rfl ?_); refine xG (cs := #[.string a0_0, .int .i64 a0_1, .int .i64 a0_2, .slice A0_3 l0_3.length c0_3, .slice A0_4 l0_4.length c0_4, .bool a0_5, .bool a0_6, .slice A0_7 l0_7.length c0_7, .int .i64 a0_8, .int .i64 a0_9, .int .i64 a0_10]) (t := 26) ?_; intro gb229 hg w6 hbox hb; have BK229 := xm (hbox); have GW229 := xZ HB hg; have GE229 := xZ HB hg; replace HB := xS HB hb; clear hb hbox hg; have hcz7_0 := blkc11 BK229.out)))
   go_ret; exact ⟨xer, xW HB⟩
 ·rw [if_neg c4] at H; have c4b0 := beq_eq_false_iff_ne.mpr c4; have c4b1 := bne_iff_ne.mpr c4
  by_cases c8 : a0_1 = 0
  ·rw [if_pos c8] at H; exact absurd H (by simp)
  ·rw [if_neg c8] at H; have c8b0 := beq_eq_false_iff_ne.mpr c8; have c8b1 := bne_iff_ne.mpr c8; obtain rfl := Option.some.inj H; go_enter Try.func87, Try.ntmps87; go_wp2_with (first | ((with_reducible refine gate_dst (N := 3) rfl ?_); refine xG (cs := #[.string a0_0, .int .i64 a0_1, .int .i64 a0_2, .slice A0_3 l0_3.length c0_3, .slice A0_4 l0_4.length c0_4, .bool a0_5, .bool a0_6, .slice A0_7 l0_7.length c0_7, .int .i64 a0_8, .int .i64 a0_9, .int .i64 a0_10]) (t := 26) ?_; intro gb229 hg w9 hbox hb; have BK229 := xm (hbox); have GW229 := xZ HB hg; have GE229 := xZ HB hg; replace HB := xS HB hb; clear hb hbox hg; have hcz10_0 := blkc11 BK229.out)); go_ret; exact ⟨xer, xW HB⟩

end Go.Proofs.Ytkpphlimnnifkaa.PClaimFalls
